/- Texts put together: what functions of the program compute, and plain words about them. -/
import Derived.Test.YtkoogebfdinbnaaGreatLawElementTellsUptoM1
import Derived.Test.YtkoogebfdinbnaaGreatLawElementTellsUptoM4
namespace Go.Proofs.YtkoogebfdinbnaaGreat.Q
open Go.RowKit Go.Proofs.YtkoogebfdinbnaaGreatW.PrintWords Go.Proofs.YtkoogebfdinbnaaGreatW.PrintLast Go.Proofs.YtkoogebfdinbnaaGreatW.Own Go.Proofs.YtkoogebfdinbnaaGreatW.PrintMore
theorem r5a0_ {p_ : Prop} (h_ : p_ := by repeat (first | (with_reducible first | exact HI0.out | apply aD_.alloc | apply aD_.drewN | apply aD_.drew | apply aD_.set_0 | apply aD_.set_1 | refine aD_.far ?_ NB0_152.out _ | refine aD_.far ?_ NB0_156.out _) | exact HI0.out)) : p_ := h_
theorem r5b1_ {p_ : Prop} (h_ : p_ := by repeat (first | (with_reducible first | exact HI0.out | apply aD_.alloc | apply aD_.drewN | apply aD_.drew | apply aD_.set_0 | apply aD_.set_1 | refine aD_.far ?_ NB0_204.out _ | refine aD_.far ?_ NB0_208.out _) | exact HI0.out)) : p_ := h_
theorem r5c2_ {p_ : Prop} (h_ : p_ := by repeat (first | (with_reducible first | exact HI0.out | apply aD_.alloc | apply aD_.drewN | apply aD_.drew | apply aD_.set_0 | apply aD_.set_1 | refine aD_.far ?_ NB0_152.out _) | exact HI0.out)) : p_ := h_
theorem r5d3_ {p_ : Prop} (h_ : p_ := by repeat (first | (with_reducible first | exact HI0.out | apply aD_.alloc | apply aD_.drewN | apply aD_.drew | apply aD_.set_0 | apply aD_.set_1 | refine aD_.far ?_ NB0_204.out _) | exact HI0.out)) : p_ := h_
theorem r5e4_ {p_ : Prop} (h_ : p_ := by repeat (first | (with_reducible first | exact HB.out | apply aH_ | apply aF_ | apply aI_ | refine aG_ ?_ (aD_.ge HI0.out) | refine aG_ ?_ GE152.out | refine aG_ ?_ GE156.out) | exact HB.out)) : p_ := h_
theorem r5f5_ {p_ : Prop} (h_ : p_ := by repeat (first | (with_reducible first | exact HB.out | apply aH_ | apply aF_ | apply aI_ | refine aG_ ?_ (aD_.ge HI0.out) | refine aG_ ?_ GE204.out | refine aG_ ?_ GE208.out) | exact HB.out)) : p_ := h_
theorem r5g6_ {p_ : Prop} (h_ : p_ := by repeat (first | (with_reducible first | exact HK.out | apply aJ_.set_ | apply aL_ | apply aM_ | apply keep_alloc | refine aQ_ ?_ GW152.out _ | refine aQ_ ?_ GW156.out _) | exact HK.out)) : p_ := h_
theorem r5h7_ {p_ : Prop} (h_ : p_ := by repeat (first | (with_reducible first | exact HK.out | apply aJ_.set_ | apply aL_ | apply aM_ | apply keep_alloc | refine aQ_ ?_ GW204.out _ | refine aQ_ ?_ GW208.out _) | exact HK.out)) : p_ := h_
theorem r5i8_ {p_ : Prop} (h_ : p_ := by repeat (first | (with_reducible first | exact HB.out | apply aH_ | apply aF_ | apply aI_ | refine aG_ ?_ (aD_.ge HI0.out) | refine aG_ ?_ GE152.out) | exact HB.out)) : p_ := h_
theorem r5j9_ {p_ : Prop} (h_ : p_ := by repeat (first | (with_reducible first | exact HB.out | apply aH_ | apply aF_ | apply aI_ | refine aG_ ?_ (aD_.ge HI0.out) | refine aG_ ?_ GE204.out) | exact HB.out)) : p_ := h_
theorem r5k10_ {p_ : Prop} (h_ : p_ := by repeat (first | (with_reducible first | exact HI0.out | apply aD_.alloc | apply aD_.drewN | apply aD_.drew | apply aD_.set_0 | apply aD_.set_1) | exact HI0.out)) : p_ := h_
theorem r5l11_ {p_ : Prop} (h_ : p_ := by repeat (first | (with_reducible first | exact HK.out | apply aJ_.set_ | apply aL_ | apply aM_ | apply keep_alloc | refine aQ_ ?_ GW152.out _) | exact HK.out)) : p_ := h_
theorem r5m12_ {p_ : Prop} (h_ : p_ := by repeat (first | (with_reducible first | exact HK.out | apply aJ_.set_ | apply aL_ | apply aM_ | apply keep_alloc | refine aQ_ ?_ GW204.out _) | exact HK.out)) : p_ := h_
theorem r5n13_ {p_ : Prop} (h_ : p_ := by repeat (first | (with_reducible first | exact HB.out | apply aH_ | apply aF_ | apply aI_ | refine aG_ ?_ (aD_.ge HI0.out)) | exact HB.out)) : p_ := h_
theorem r5o14_ {p_ : Prop} (h_ : p_ := by repeat (first | (with_reducible first | exact HK.out | apply aJ_.set_ | apply aL_ | apply aM_ | apply keep_alloc) | exact HK.out)) : p_ := h_
attribute [local go_sem] d6_ d8_ max_two min_two dS_ dR_ d4_ d9_   -- for this text's walks alone
set_option linter.unusedVariables false
set_option linter.unusedSimpArgs false
set_option maxHeartbeats 20000000
set_option maxRecDepth 100000
def bI_.f (k : Nat) (s0_0 : ByteArray) (s0_1 : Int) : Option (Int × ByteArray × ByteArray × (List (S53)) × Bool × Bool × ByteArray × Int) := (aX_.f k s0_0 (wrap64 (s0_1 + 2))).bind fun bt153 => ((aP_.f k bt153.2.1 bt153.2.2).bind fun bt157 => (if bt153.1.toList = ([] : List UInt8) then (some (2, bt153.1, (⟨#[]⟩ : ByteArray), ([] : List (S53)), false, false, bt157.2.1, bt157.2.2)) else ((aK_.f bt157.2.1 (⟨#[62]⟩ : ByteArray) bt157.2.2).bind fun t160 => (if t160 = true then (some (2, bt153.1, (⟨#[]⟩ : ByteArray), ([] : List (S53)), false, true, bt157.2.1, wrap64 (bt157.2.2 + 1))) else (some (2, bt153.1, (⟨#[]⟩ : ByteArray), ([] : List (S53)), false, false, bt157.2.1, bt157.2.2))))))
theorem bI_.mono : ∀ a0 a1 k, LeO (bI_.f k a0 a1) (bI_.f (k + 1) a0 a1) := by
 intro a0 a1 k
 unfold bI_.f
 have m0 := @aX_.mono
 have m1 := @aP_.mono
 exact mo
theorem bI_.calls (k : Nat) (g : Nat) (s0_0 : ByteArray) (s0_1 : Int) (r1 : Int) (r2 : ByteArray) (r3 : ByteArray) (r4 : List (S53)) (r5 : Bool) (r6 : Bool) (r7 : ByteArray) (r8 : Int) (w0 w : World) (hI : aD_ w0 w g s0_0 s0_1) (hB : Below w0.heap.size w0 w) (hG : Glob w0) (h : bI_.f k s0_0 s0_1 = some (r1, r2, r3, r4, r5, r6, r7, r8)) :
 Calls Tryz.prog 57 #[.pointer (some ⟨g, 0, none⟩)] w fun e w' => ∃ v3_ : Value, e = .returned (.tuple #[.agg #[.int .i64 r1, .string r2, .string r3, v3_, .bool r5], .bool r6]) ∧ Kd.R k53 53 w' w.heap.size (fun _ => True) v3_ r4 ∧ aD_ w0 w' g r7 r8 ∧ Below w0.heap.size w0 w' ∧ aJ_ w w' g none := by
 have hu45 := Tryz.underlying45
 have HG := aA_.mk hG
 clear hG
 have HI0 := aA_.mk hI
 have HK := aA_.mk (aJ_.refl w g none)
 have HL := aA_.mk hB.size
 clear hI
 have HW0 := aA_.mk hB.size
 have HB := aA_.mk hB
 clear hB
 have H : ((aX_.f k s0_0 (wrap64 (s0_1 + 2))).bind fun bt153 => ((aP_.f k bt153.2.1 bt153.2.2).bind fun bt157 => (if bt153.1.toList = ([] : List UInt8) then (some (2, bt153.1, (⟨#[]⟩ : ByteArray), ([] : List (S53)), false, false, bt157.2.1, bt157.2.2)) else ((aK_.f bt157.2.1 (⟨#[62]⟩ : ByteArray) bt157.2.2).bind fun t160 => (if t160 = true then (some (2, bt153.1, (⟨#[]⟩ : ByteArray), ([] : List (S53)), false, true, bt157.2.1, wrap64 (bt157.2.2 + 1))) else (some (2, bt153.1, (⟨#[]⟩ : ByteArray), ([] : List (S53)), false, false, bt157.2.1, bt157.2.2))))))) = some (r1, r2, r3, r4, r5, r6, r7, r8) := h
 clear h
 replace H := bi H
 obtain ⟨⟨t153, t154, t155⟩, A20, H⟩ := H
 try dsimp only at H
 have A2 := aA_.mk A20
 clear A20
 replace H := bi H
 obtain ⟨⟨t157, t158, t159⟩, A30, H⟩ := H
 try dsimp only at H
 have A3 := aA_.mk A30
 clear A30
 by_cases c4 : t153.toList = ([] : List UInt8)
 ·rw [if_pos c4] at H
  obtain ⟨c4b0, c4b1⟩ := eqT c4
  (try (have c4b2 : t153.toList.isEmpty = true := by simpa using c4))
  clear c4
  simp only [Option.some.injEq, Prod.mk.injEq] at H
  obtain ⟨rfl, rfl, rfl, rfl, rfl, rfl, rfl, rfl⟩ := H
  go_enter Tryz.func57, Tryz.ntmps57
  go_wp2_with (first | (refine be 2 #[.int .i64 0, .string (⟨#[]⟩ : ByteArray), .string (⟨#[]⟩ : ByteArray), .slice none 0 0, .bool false] 45 ?_; intro gb152 hg w5 hbox hb; replace HB := aA_.mk (bG_ (r5n13_) hb); have BK152 := aA_.mk (hbox); have GW152 := aA_.mk ((by rw [hg]; exact (bF_ (w := w) (g := g) (row := none) (r5o14_)) : w.heap.size ≤ gb152)); have GE152 := aA_.mk ((Nat.le_trans HW0.out (by rw [hg]; exact (bF_ (w := w) (g := g) (row := none) (r5o14_)) : w.heap.size ≤ gb152) : w0.heap.size ≤ gb152)); replace HK := aA_.mk (aJ_.trans (r5o14_) (aJ_.of_below hb g none) (.inl rfl)); have NB0_152 := aA_.mk ((by rw [hg]; exact Nat.ne_of_lt (aD_.lt (show aD_ w0 _ g s0_0 s0_1 from r5k10_)) : g ≠ gb152)); have NB152_0 := aA_.mk ((by rw [hg]; exact Nat.ne_of_gt (aD_.lt (show aD_ w0 _ g s0_0 s0_1 from r5k10_)) : gb152 ≠ g)); replace HI0 := aA_.mk (aD_.below (r5k10_) hb); clear hb hbox hg; obtain ⟨HGz6, hgz6⟩ := HI0.out; have hcz6_0 := a9_ HGz6; have hcz6_1 := bA_ HGz6; have hfz6_0 := aE_ HGz6 0; have hfz6_1 := aE_ HGz6 1; clear HGz6 hgz6) | (go_at_call 74; (with_reducible refine (aX_.calls k g s0_0 (wrap64 (s0_1 + 2)) t153 t154 t155 w0 _ ?side1 ?side2 ?side3 A2.out).mono ?_); (case side1 => exact r5c2_); (case side2 => exact r5i8_); (case side3 => exact HG.out); rintro e w7 ⟨rfl, hi, hb, hk⟩; replace BK152 := aA_.mk (aJ_.blk hk (g' := gb152) (o := .cells #[.int .i64 0, .string (⟨#[]⟩ : ByteArray), .string (⟨#[]⟩ : ByteArray), .slice none 0 0, .bool false] 45 (0, 0)) (by (with_reducible repeat (first | refine aZ_ ?_ _ | refine a0_ ?_ | refine aV_ ?_ _)); refine bT_ ?_ NB152_0.out _; (with_reducible repeat (first | refine aZ_ ?_ _ | refine a0_ ?_ | refine aV_ ?_ _)); exact BK152.out) NB152_0.out (by simp)); replace HK := aA_.mk (aJ_.trans (r5l11_) hk (.inl rfl)); replace HB := aA_.mk (hb); replace HI0 := aA_.mk (hi); (try clear hb); (try clear hk); (try clear hi)) | (refine be 4 #[.int .i64 0, .string (⟨#[]⟩ : ByteArray), .string (⟨#[]⟩ : ByteArray), .slice none 0 0, .bool false] 45 ?_; intro gb156 hg w8 hbox hb; replace HB := aA_.mk (bG_ (r5i8_) hb); have BK156 := aA_.mk (hbox); have GW156 := aA_.mk ((by rw [hg]; exact (bF_ (w := w) (g := g) (row := none) (r5l11_)) : w.heap.size ≤ gb156)); have GE156 := aA_.mk ((Nat.le_trans HW0.out (by rw [hg]; exact (bF_ (w := w) (g := g) (row := none) (r5l11_)) : w.heap.size ≤ gb156) : w0.heap.size ≤ gb156)); replace HK := aA_.mk (aJ_.trans (r5l11_) (aJ_.of_below hb g none) (.inl rfl)); have NB152_156 := nL BK152 hg; have NB156_152 := nG BK152 hg; replace BK152 := kB BK152 hb; have NB0_156 := aA_.mk ((by rw [hg]; exact Nat.ne_of_lt (aD_.lt (show aD_ w0 _ g t154 t155 from r5c2_)) : g ≠ gb156)); have NB156_0 := aA_.mk ((by rw [hg]; exact Nat.ne_of_gt (aD_.lt (show aD_ w0 _ g t154 t155 from r5c2_)) : gb156 ≠ g)); replace HI0 := aA_.mk (aD_.below (r5c2_) hb); clear hb hbox hg; have hnb9 := NB156_152.out; have hnc9 := NB152_156.out; have hnb10 := NB156_0.out; have hnc10 := NB0_156.out; have hcz11_0 : w8.cell? ⟨gb156, 0, none⟩ = some (.int .i64 0) := (aC_ BK156.out 0).trans rfl; have hcz11_1 : w8.cell? ⟨gb156, 1, none⟩ = some (.string (⟨#[]⟩ : ByteArray)) := (aC_ BK156.out 1).trans rfl; have hcz11_2 : w8.cell? ⟨gb156, 2, none⟩ = some (.string (⟨#[]⟩ : ByteArray)) := (aC_ BK156.out 2).trans rfl; have hcz11_3 : w8.cell? ⟨gb156, 3, none⟩ = some (.slice none 0 0) := (aC_ BK156.out 3).trans rfl; have hcz11_4 : w8.cell? ⟨gb156, 4, none⟩ = some (.bool false) := (aC_ BK156.out 4).trans rfl; have hfz11_0 := aE_ BK156.out 0; have hfz11_1 := aE_ BK156.out 1; have hfz11_2 := aE_ BK156.out 2; have hfz11_3 := aE_ BK156.out 3; have hfz11_4 := aE_ BK156.out 4) | (go_at_call 75; (with_reducible refine (aP_.calls k g t154 t155 t157 t158 t159 w0 _ ?side1 ?side2 ?side3 A3.out).mono ?_); (case side1 => exact r5a0_); (case side2 => exact r5e4_); (case side3 => exact HG.out); rintro e w12 ⟨rfl, hi, hb, hk⟩; replace BK152 := aA_.mk (aJ_.blk hk (g' := gb152) (o := .cells #[.int .i64 0, .string (⟨#[]⟩ : ByteArray), .string (⟨#[]⟩ : ByteArray), .slice none 0 0, .bool false] 45 (0, 0)) (by (with_reducible repeat (first | refine aZ_ ?_ _ | refine a0_ ?_ | refine aV_ ?_ _)); refine bT_ ?_ NB152_156.out _; (with_reducible repeat (first | refine aZ_ ?_ _ | refine a0_ ?_ | refine aV_ ?_ _)); refine bT_ ?_ NB152_156.out _; (with_reducible repeat (first | refine aZ_ ?_ _ | refine a0_ ?_ | refine aV_ ?_ _)); refine bT_ ?_ NB152_156.out _; (with_reducible repeat (first | refine aZ_ ?_ _ | refine a0_ ?_ | refine aV_ ?_ _)); refine bT_ ?_ NB152_156.out _; (with_reducible repeat (first | refine aZ_ ?_ _ | refine a0_ ?_ | refine aV_ ?_ _)); refine bT_ ?_ NB152_156.out _; (with_reducible repeat (first | refine aZ_ ?_ _ | refine a0_ ?_ | refine aV_ ?_ _)); exact BK152.out) NB152_0.out (by simp)); replace BK156 := aA_.mk (aJ_.blk hk (g' := gb156) (o := .cells #[.int .i64 2, .string t153, .string (⟨#[]⟩ : ByteArray), .slice none 0 0, .bool false] 45 (0, 0)) (bP BK156) NB156_0.out (by simp)); replace HK := aA_.mk (aJ_.trans (r5g6_) hk (.inl rfl)); replace HB := aA_.mk (hb); replace HI0 := aA_.mk (hi); (try clear hb); (try clear hk); (try clear hi); have hcz13_0 : w12.cell? ⟨gb156, 0, none⟩ = some (.int .i64 2) := (aC_ BK156.out 0).trans rfl; have hcz13_1 : w12.cell? ⟨gb156, 1, none⟩ = some (.string t153) := (aC_ BK156.out 1).trans rfl; have hcz13_2 : w12.cell? ⟨gb156, 2, none⟩ = some (.string (⟨#[]⟩ : ByteArray)) := (aC_ BK156.out 2).trans rfl; have hcz13_3 : w12.cell? ⟨gb156, 3, none⟩ = some (.slice none 0 0) := (aC_ BK156.out 3).trans rfl; have hcz13_4 : w12.cell? ⟨gb156, 4, none⟩ = some (.bool false) := (aC_ BK156.out 4).trans rfl; have hfz13_0 := aE_ BK156.out 0; have hfz13_1 := aE_ BK156.out 1; have hfz13_2 := aE_ BK156.out 2; have hfz13_3 := aE_ BK156.out 3; have hfz13_4 := aE_ BK156.out 4; have hnb14 := NB152_0.out; have hnc14 := NB0_152.out; have hcz15_0 : w12.cell? ⟨gb152, 0, none⟩ = some (.int .i64 0) := (aC_ BK152.out 0).trans rfl; have hcz15_1 : w12.cell? ⟨gb152, 1, none⟩ = some (.string (⟨#[]⟩ : ByteArray)) := (aC_ BK152.out 1).trans rfl; have hcz15_2 : w12.cell? ⟨gb152, 2, none⟩ = some (.string (⟨#[]⟩ : ByteArray)) := (aC_ BK152.out 2).trans rfl; have hcz15_3 : w12.cell? ⟨gb152, 3, none⟩ = some (.slice none 0 0) := (aC_ BK152.out 3).trans rfl; have hcz15_4 : w12.cell? ⟨gb152, 4, none⟩ = some (.bool false) := (aC_ BK152.out 4).trans rfl; have hfz15_0 := aE_ BK152.out 0; have hfz15_1 := aE_ BK152.out 1; have hfz15_2 := aE_ BK152.out 2; have hfz15_3 := aE_ BK152.out 3; have hfz15_4 := aE_ BK152.out 4))
  repeat (go_quiet (fail); try go_wp2_with (first | ((with_reducible refine cV_ (N := 2) rfl ?_); refine dG_ ?hg (N := 2) ?hd (cs := #[.int .i64 0, .string (⟨#[]⟩ : ByteArray), .string (⟨#[]⟩ : ByteArray), .slice none 0 0, .bool false]) (t := 45) ?hr ?_; (case hd => rfl); (case hg => rfl); (case hr => first | (go_simp; done) | (go_simp; rfl)); intro gb152 hg w5 hbox hb; have n0_ := aA_.mk (aD_.below (r5k10_) hb); have n1_ := aA_.mk (aJ_.trans (r5o14_) (aJ_.of_below hb g none) (.inl rfl)); have n2_ := aA_.mk (bG_ (r5n13_) hb); have n3_ := aA_.mk (hbox); have n4_ := aA_.mk ((by rw [hg]; exact (bF_ (w := w) (g := g) (row := none) (r5o14_)) : w.heap.size ≤ gb152)); have n5_ := aA_.mk ((Nat.le_trans HW0.out (by rw [hg]; exact (bF_ (w := w) (g := g) (row := none) (r5o14_)) : w.heap.size ≤ gb152) : w0.heap.size ≤ gb152)); have n6_ := aA_.mk ((by rw [hg]; exact Nat.ne_of_lt (aD_.lt (show aD_ w0 _ g s0_0 s0_1 from r5k10_)) : g ≠ gb152)); have n7_ := aA_.mk ((by rw [hg]; exact Nat.ne_of_gt (aD_.lt (show aD_ w0 _ g s0_0 s0_1 from r5k10_)) : gb152 ≠ g)); clear HI0; clear HK; clear HB; have HI0 := n0_; have HK := n1_; have HB := n2_; have BK152 := n3_; have GW152 := n4_; have GE152 := n5_; have NB0_152 := n6_; have NB152_0 := n7_; clear n0_ n1_ n2_ n3_ n4_ n5_ n6_ n7_; clear hb hbox hg; obtain ⟨HGz6, hgz6⟩ := HI0.out; have hcz6_0 := a9_ HGz6; have hcz6_1 := bA_ HGz6; have hfz6_0 := aE_ HGz6 0; have hfz6_1 := aE_ HGz6 1; clear HGz6 hgz6) | (go_at_call 74; (with_reducible refine (aX_.calls k g s0_0 (wrap64 (s0_1 + 2)) t153 t154 t155 w0 _ ?side1 ?side2 ?side3 A2.out).mono ?_); (case side1 => exact r5c2_); (case side2 => exact r5i8_); (case side3 => exact HG.out); rintro e w7 ⟨rfl, hi, hb, hk⟩; have n0_ := aA_.mk (aJ_.blk hk (g' := gb152) (o := .cells #[.int .i64 0, .string (⟨#[]⟩ : ByteArray), .string (⟨#[]⟩ : ByteArray), .slice none 0 0, .bool false] 45 (0, 0)) (by (with_reducible repeat (first | refine aZ_ ?_ _ | refine a0_ ?_ | refine aV_ ?_ _)); refine bT_ ?_ NB152_0.out _; (with_reducible repeat (first | refine aZ_ ?_ _ | refine a0_ ?_ | refine aV_ ?_ _)); exact BK152.out) NB152_0.out (by simp)); have n1_ := aA_.mk (aJ_.trans (r5l11_) hk (.inl rfl)); have n2_ := aA_.mk (hb); have n3_ := aA_.mk (hi); clear BK152; clear HK; clear HB; clear HI0; have BK152 := n0_; have HK := n1_; have HB := n2_; have HI0 := n3_; clear n0_ n1_ n2_ n3_; (try clear hb); (try clear hb2); (try clear hk); (try clear hi)) | ((with_reducible refine cV_ (N := 4) rfl ?_); refine dG_ ?hg (N := 4) ?hd (cs := #[.int .i64 0, .string (⟨#[]⟩ : ByteArray), .string (⟨#[]⟩ : ByteArray), .slice none 0 0, .bool false]) (t := 45) ?hr ?_; (case hd => rfl); (case hg => rfl); (case hr => first | (go_simp; done) | (go_simp; rfl)); intro gb156 hg w8 hbox hb; have n0_ := aA_.mk (aD_.below (r5c2_) hb); have n1_ := aA_.mk (b4_ (g := gb152) (o := .cells #[.int .i64 0, .string (⟨#[]⟩ : ByteArray), .string (⟨#[]⟩ : ByteArray), .slice none 0 0, .bool false] 45 (0, 0)) (bK BK152) hb); have n2_ := aA_.mk (aJ_.trans (r5l11_) (aJ_.of_below hb g none) (.inl rfl)); have n3_ := aA_.mk (bG_ (r5i8_) hb); have n4_ := aA_.mk (hbox); have n5_ := aA_.mk ((by rw [hg]; exact (bF_ (w := w) (g := g) (row := none) (r5l11_)) : w.heap.size ≤ gb156)); have n6_ := aA_.mk ((Nat.le_trans HW0.out (by rw [hg]; exact (bF_ (w := w) (g := g) (row := none) (r5l11_)) : w.heap.size ≤ gb156) : w0.heap.size ≤ gb156)); have n7_ := aA_.mk ((by rw [hg]; exact Nat.ne_of_lt (cT_ (g := gb152) (o := .cells #[.int .i64 0, .string (⟨#[]⟩ : ByteArray), .string (⟨#[]⟩ : ByteArray), .slice none 0 0, .bool false] 45 (0, 0)) (bK BK152)) : gb152 ≠ gb156)); have n8_ := aA_.mk ((by rw [hg]; exact Nat.ne_of_gt (cT_ (g := gb152) (o := .cells #[.int .i64 0, .string (⟨#[]⟩ : ByteArray), .string (⟨#[]⟩ : ByteArray), .slice none 0 0, .bool false] 45 (0, 0)) (bK BK152)) : gb156 ≠ gb152)); have n9_ := aA_.mk ((by rw [hg]; exact Nat.ne_of_lt (aD_.lt (show aD_ w0 _ g t154 t155 from r5c2_)) : g ≠ gb156)); have n10_ := aA_.mk ((by rw [hg]; exact Nat.ne_of_gt (aD_.lt (show aD_ w0 _ g t154 t155 from r5c2_)) : gb156 ≠ g)); clear HI0; clear BK152; clear HK; clear HB; have HI0 := n0_; have BK152 := n1_; have HK := n2_; have HB := n3_; have BK156 := n4_; have GW156 := n5_; have GE156 := n6_; have NB152_156 := n7_; have NB156_152 := n8_; have NB0_156 := n9_; have NB156_0 := n10_; clear n0_ n1_ n2_ n3_ n4_ n5_ n6_ n7_ n8_ n9_ n10_; clear hb hbox hg; have hnb9 := NB156_152.out; have hnc9 := NB152_156.out; have hnb10 := NB156_0.out; have hnc10 := NB0_156.out; have hcz11_0 : w8.cell? ⟨gb156, 0, none⟩ = some (.int .i64 0) := (aC_ BK156.out 0).trans rfl; have hcz11_1 : w8.cell? ⟨gb156, 1, none⟩ = some (.string (⟨#[]⟩ : ByteArray)) := (aC_ BK156.out 1).trans rfl; have hcz11_2 : w8.cell? ⟨gb156, 2, none⟩ = some (.string (⟨#[]⟩ : ByteArray)) := (aC_ BK156.out 2).trans rfl; have hcz11_3 : w8.cell? ⟨gb156, 3, none⟩ = some (.slice none 0 0) := (aC_ BK156.out 3).trans rfl; have hcz11_4 : w8.cell? ⟨gb156, 4, none⟩ = some (.bool false) := (aC_ BK156.out 4).trans rfl; have hfz11_0 := aE_ BK156.out 0; have hfz11_1 := aE_ BK156.out 1; have hfz11_2 := aE_ BK156.out 2; have hfz11_3 := aE_ BK156.out 3; have hfz11_4 := aE_ BK156.out 4) | (go_at_call 75; (with_reducible refine (aP_.calls k g t154 t155 t157 t158 t159 w0 _ ?side1 ?side2 ?side3 A3.out).mono ?_); (case side1 => exact r5a0_); (case side2 => exact r5e4_); (case side3 => exact HG.out); rintro e w12 ⟨rfl, hi, hb, hk⟩; have n0_ := aA_.mk (aJ_.blk hk (g' := gb152) (o := .cells #[.int .i64 0, .string (⟨#[]⟩ : ByteArray), .string (⟨#[]⟩ : ByteArray), .slice none 0 0, .bool false] 45 (0, 0)) (by (with_reducible repeat (first | refine aZ_ ?_ _ | refine a0_ ?_ | refine aV_ ?_ _)); refine bT_ ?_ NB152_156.out _; (with_reducible repeat (first | refine aZ_ ?_ _ | refine a0_ ?_ | refine aV_ ?_ _)); refine bT_ ?_ NB152_156.out _; (with_reducible repeat (first | refine aZ_ ?_ _ | refine a0_ ?_ | refine aV_ ?_ _)); refine bT_ ?_ NB152_156.out _; (with_reducible repeat (first | refine aZ_ ?_ _ | refine a0_ ?_ | refine aV_ ?_ _)); refine bT_ ?_ NB152_156.out _; (with_reducible repeat (first | refine aZ_ ?_ _ | refine a0_ ?_ | refine aV_ ?_ _)); refine bT_ ?_ NB152_156.out _; (with_reducible repeat (first | refine aZ_ ?_ _ | refine a0_ ?_ | refine aV_ ?_ _)); exact BK152.out) NB152_0.out (by simp)); have n1_ := aA_.mk (aJ_.blk hk (g' := gb156) (o := .cells #[.int .i64 2, .string t153, .string (⟨#[]⟩ : ByteArray), .slice none 0 0, .bool false] 45 (0, 0)) (bP BK156) NB156_0.out (by simp)); have n2_ := aA_.mk (aJ_.trans (r5g6_) hk (.inl rfl)); have n3_ := aA_.mk (hb); have n4_ := aA_.mk (hi); clear BK152; clear BK156; clear HK; clear HB; clear HI0; have BK152 := n0_; have BK156 := n1_; have HK := n2_; have HB := n3_; have HI0 := n4_; clear n0_ n1_ n2_ n3_ n4_; (try clear hb); (try clear hb2); (try clear hk); (try clear hi); have hcz13_0 : w12.cell? ⟨gb156, 0, none⟩ = some (.int .i64 2) := (aC_ BK156.out 0).trans rfl; have hcz13_1 : w12.cell? ⟨gb156, 1, none⟩ = some (.string t153) := (aC_ BK156.out 1).trans rfl; have hcz13_2 : w12.cell? ⟨gb156, 2, none⟩ = some (.string (⟨#[]⟩ : ByteArray)) := (aC_ BK156.out 2).trans rfl; have hcz13_3 : w12.cell? ⟨gb156, 3, none⟩ = some (.slice none 0 0) := (aC_ BK156.out 3).trans rfl; have hcz13_4 : w12.cell? ⟨gb156, 4, none⟩ = some (.bool false) := (aC_ BK156.out 4).trans rfl; have hfz13_0 := aE_ BK156.out 0; have hfz13_1 := aE_ BK156.out 1; have hfz13_2 := aE_ BK156.out 2; have hfz13_3 := aE_ BK156.out 3; have hfz13_4 := aE_ BK156.out 4; have hnb14 := NB152_0.out; have hnc14 := NB0_152.out; have hcz15_0 : w12.cell? ⟨gb152, 0, none⟩ = some (.int .i64 0) := (aC_ BK152.out 0).trans rfl; have hcz15_1 : w12.cell? ⟨gb152, 1, none⟩ = some (.string (⟨#[]⟩ : ByteArray)) := (aC_ BK152.out 1).trans rfl; have hcz15_2 : w12.cell? ⟨gb152, 2, none⟩ = some (.string (⟨#[]⟩ : ByteArray)) := (aC_ BK152.out 2).trans rfl; have hcz15_3 : w12.cell? ⟨gb152, 3, none⟩ = some (.slice none 0 0) := (aC_ BK152.out 3).trans rfl; have hcz15_4 : w12.cell? ⟨gb152, 4, none⟩ = some (.bool false) := (aC_ BK152.out 4).trans rfl; have hfz15_0 := aE_ BK152.out 0; have hfz15_1 := aE_ BK152.out 1; have hfz15_2 := aE_ BK152.out 2; have hfz15_3 := aE_ BK152.out 3; have hfz15_4 := aE_ BK152.out 4)))
  refine bodyPost_ret (b8_ rfl _ _ gb152 45 #[.int .i64 2, .string t153, .string (⟨#[]⟩ : ByteArray), .slice none 0 0, .bool false] (0, 0) _ rfl (bP BK152) Tryz.underlying45 rfl (by kernel_rfl)) rfl ?_
  exact ⟨_, by first | rfl | (simp [bL_, bK_] <;> rfl) | (simp [*, bL_, bK_] <;> rfl), by first | exact Kd.R_nil _ _ _ _ _ | exact Kd.N_nil _ _ _ _ _ | exact Kd.V_nil _ _ _ _ _ | exact Kd.Q_nil _ _ _ _ _ | exact Kd.S_nil _ _ _ _ _, r5a0_, r5e4_, r5g6_⟩
 rw [if_neg c4] at H
 obtain ⟨c4b0, c4b1⟩ := eqF c4
 (try (have c4b2 : t153.toList.isEmpty = false := by simpa using c4))
 replace H := bi H
 obtain ⟨t160, A160, H⟩ := H
 try dsimp only at H
 have A16 := aA_.mk A160
 clear A160
 by_cases c17 : t160 = true
 ·subst c17
  replace H : (some (2, t153, (⟨#[]⟩ : ByteArray), ([] : List (S53)), false, true, t158, wrap64 (t159 + 1))) = some (r1, r2, r3, r4, r5, r6, r7, r8) := by rw [if_pos rfl] at H; exact H
  simp only [Option.some.injEq, Prod.mk.injEq] at H
  obtain ⟨rfl, rfl, rfl, rfl, rfl, rfl, rfl, rfl⟩ := H
  go_enter Tryz.func57, Tryz.ntmps57
  go_wp2_with (first | (refine be 2 #[.int .i64 0, .string (⟨#[]⟩ : ByteArray), .string (⟨#[]⟩ : ByteArray), .slice none 0 0, .bool false] 45 ?_; intro gb152 hg w18 hbox hb; replace HB := aA_.mk (bG_ (r5n13_) hb); have BK152 := aA_.mk (hbox); have GW152 := aA_.mk ((by rw [hg]; exact (bF_ (w := w) (g := g) (row := none) (r5o14_)) : w.heap.size ≤ gb152)); have GE152 := aA_.mk ((Nat.le_trans HW0.out (by rw [hg]; exact (bF_ (w := w) (g := g) (row := none) (r5o14_)) : w.heap.size ≤ gb152) : w0.heap.size ≤ gb152)); replace HK := aA_.mk (aJ_.trans (r5o14_) (aJ_.of_below hb g none) (.inl rfl)); have NB0_152 := aA_.mk ((by rw [hg]; exact Nat.ne_of_lt (aD_.lt (show aD_ w0 _ g s0_0 s0_1 from r5k10_)) : g ≠ gb152)); have NB152_0 := aA_.mk ((by rw [hg]; exact Nat.ne_of_gt (aD_.lt (show aD_ w0 _ g s0_0 s0_1 from r5k10_)) : gb152 ≠ g)); replace HI0 := aA_.mk (aD_.below (r5k10_) hb); clear hb hbox hg; obtain ⟨HGz19, hgz19⟩ := HI0.out; have hcz19_0 := a9_ HGz19; have hcz19_1 := bA_ HGz19; have hfz19_0 := aE_ HGz19 0; have hfz19_1 := aE_ HGz19 1; clear HGz19 hgz19) | (go_at_call 74; (with_reducible refine (aX_.calls k g s0_0 (wrap64 (s0_1 + 2)) t153 t154 t155 w0 _ ?side1 ?side2 ?side3 A2.out).mono ?_); (case side1 => exact r5c2_); (case side2 => exact r5i8_); (case side3 => exact HG.out); rintro e w20 ⟨rfl, hi, hb, hk⟩; replace BK152 := aA_.mk (aJ_.blk hk (g' := gb152) (o := .cells #[.int .i64 0, .string (⟨#[]⟩ : ByteArray), .string (⟨#[]⟩ : ByteArray), .slice none 0 0, .bool false] 45 (0, 0)) (by (with_reducible repeat (first | refine aZ_ ?_ _ | refine a0_ ?_ | refine aV_ ?_ _)); refine bT_ ?_ NB152_0.out _; (with_reducible repeat (first | refine aZ_ ?_ _ | refine a0_ ?_ | refine aV_ ?_ _)); exact BK152.out) NB152_0.out (by simp)); replace HK := aA_.mk (aJ_.trans (r5l11_) hk (.inl rfl)); replace HB := aA_.mk (hb); replace HI0 := aA_.mk (hi); (try clear hb); (try clear hk); (try clear hi)) | (refine be 4 #[.int .i64 0, .string (⟨#[]⟩ : ByteArray), .string (⟨#[]⟩ : ByteArray), .slice none 0 0, .bool false] 45 ?_; intro gb156 hg w21 hbox hb; replace HB := aA_.mk (bG_ (r5i8_) hb); have BK156 := aA_.mk (hbox); have GW156 := aA_.mk ((by rw [hg]; exact (bF_ (w := w) (g := g) (row := none) (r5l11_)) : w.heap.size ≤ gb156)); have GE156 := aA_.mk ((Nat.le_trans HW0.out (by rw [hg]; exact (bF_ (w := w) (g := g) (row := none) (r5l11_)) : w.heap.size ≤ gb156) : w0.heap.size ≤ gb156)); replace HK := aA_.mk (aJ_.trans (r5l11_) (aJ_.of_below hb g none) (.inl rfl)); have NB152_156 := nL BK152 hg; have NB156_152 := nG BK152 hg; replace BK152 := kB BK152 hb; have NB0_156 := aA_.mk ((by rw [hg]; exact Nat.ne_of_lt (aD_.lt (show aD_ w0 _ g t154 t155 from r5c2_)) : g ≠ gb156)); have NB156_0 := aA_.mk ((by rw [hg]; exact Nat.ne_of_gt (aD_.lt (show aD_ w0 _ g t154 t155 from r5c2_)) : gb156 ≠ g)); replace HI0 := aA_.mk (aD_.below (r5c2_) hb); clear hb hbox hg; have hnb22 := NB156_152.out; have hnc22 := NB152_156.out; have hnb23 := NB156_0.out; have hnc23 := NB0_156.out; have hcz24_0 : w21.cell? ⟨gb156, 0, none⟩ = some (.int .i64 0) := (aC_ BK156.out 0).trans rfl; have hcz24_1 : w21.cell? ⟨gb156, 1, none⟩ = some (.string (⟨#[]⟩ : ByteArray)) := (aC_ BK156.out 1).trans rfl; have hcz24_2 : w21.cell? ⟨gb156, 2, none⟩ = some (.string (⟨#[]⟩ : ByteArray)) := (aC_ BK156.out 2).trans rfl; have hcz24_3 : w21.cell? ⟨gb156, 3, none⟩ = some (.slice none 0 0) := (aC_ BK156.out 3).trans rfl; have hcz24_4 : w21.cell? ⟨gb156, 4, none⟩ = some (.bool false) := (aC_ BK156.out 4).trans rfl; have hfz24_0 := aE_ BK156.out 0; have hfz24_1 := aE_ BK156.out 1; have hfz24_2 := aE_ BK156.out 2; have hfz24_3 := aE_ BK156.out 3; have hfz24_4 := aE_ BK156.out 4) | (go_at_call 75; (with_reducible refine (aP_.calls k g t154 t155 t157 t158 t159 w0 _ ?side1 ?side2 ?side3 A3.out).mono ?_); (case side1 => exact r5a0_); (case side2 => exact r5e4_); (case side3 => exact HG.out); rintro e w25 ⟨rfl, hi, hb, hk⟩; replace BK152 := aA_.mk (aJ_.blk hk (g' := gb152) (o := .cells #[.int .i64 0, .string (⟨#[]⟩ : ByteArray), .string (⟨#[]⟩ : ByteArray), .slice none 0 0, .bool false] 45 (0, 0)) (by (with_reducible repeat (first | refine aZ_ ?_ _ | refine a0_ ?_ | refine aV_ ?_ _)); refine bT_ ?_ NB152_156.out _; (with_reducible repeat (first | refine aZ_ ?_ _ | refine a0_ ?_ | refine aV_ ?_ _)); refine bT_ ?_ NB152_156.out _; (with_reducible repeat (first | refine aZ_ ?_ _ | refine a0_ ?_ | refine aV_ ?_ _)); refine bT_ ?_ NB152_156.out _; (with_reducible repeat (first | refine aZ_ ?_ _ | refine a0_ ?_ | refine aV_ ?_ _)); refine bT_ ?_ NB152_156.out _; (with_reducible repeat (first | refine aZ_ ?_ _ | refine a0_ ?_ | refine aV_ ?_ _)); refine bT_ ?_ NB152_156.out _; (with_reducible repeat (first | refine aZ_ ?_ _ | refine a0_ ?_ | refine aV_ ?_ _)); exact BK152.out) NB152_0.out (by simp)); replace BK156 := aA_.mk (aJ_.blk hk (g' := gb156) (o := .cells #[.int .i64 2, .string t153, .string (⟨#[]⟩ : ByteArray), .slice none 0 0, .bool false] 45 (0, 0)) (bP BK156) NB156_0.out (by simp)); replace HK := aA_.mk (aJ_.trans (r5g6_) hk (.inl rfl)); replace HB := aA_.mk (hb); replace HI0 := aA_.mk (hi); (try clear hb); (try clear hk); (try clear hi); have hcz26_0 : w25.cell? ⟨gb156, 0, none⟩ = some (.int .i64 2) := (aC_ BK156.out 0).trans rfl; have hcz26_1 : w25.cell? ⟨gb156, 1, none⟩ = some (.string t153) := (aC_ BK156.out 1).trans rfl; have hcz26_2 : w25.cell? ⟨gb156, 2, none⟩ = some (.string (⟨#[]⟩ : ByteArray)) := (aC_ BK156.out 2).trans rfl; have hcz26_3 : w25.cell? ⟨gb156, 3, none⟩ = some (.slice none 0 0) := (aC_ BK156.out 3).trans rfl; have hcz26_4 : w25.cell? ⟨gb156, 4, none⟩ = some (.bool false) := (aC_ BK156.out 4).trans rfl; have hfz26_0 := aE_ BK156.out 0; have hfz26_1 := aE_ BK156.out 1; have hfz26_2 := aE_ BK156.out 2; have hfz26_3 := aE_ BK156.out 3; have hfz26_4 := aE_ BK156.out 4; obtain ⟨HGz27, hgz27⟩ := HI0.out; have hcz27_0 := a9_ HGz27; have hcz27_1 := bA_ HGz27; have hfz27_0 := aE_ HGz27 0; have hfz27_1 := aE_ HGz27 1; clear HGz27 hgz27) | (go_at_call 54; (with_reducible refine (aK_.calls t158 (⟨#[62]⟩ : ByteArray) t159 true _ ?side1 A16.out).mono ?_); (case side1 => exact Glob.step HG.out (r5e4_)); rintro e w' ⟨rfl, ⟨nd, rfl⟩⟩; (try first | exact ⟨rfl, _, World.drewN_drewN _ _ _⟩ | exact ⟨rfl, _, Eq.trans (World.drewN_drewN _ _ _) (congrArg (World.drewN _) (Nat.add_assoc _ _ _))⟩); have hnb28 := NB152_0.out; have hnc28 := NB0_152.out; have hcz29_0 : w25.cell? ⟨gb152, 0, none⟩ = some (.int .i64 0) := (aC_ BK152.out 0).trans rfl; have hcz29_1 : w25.cell? ⟨gb152, 1, none⟩ = some (.string (⟨#[]⟩ : ByteArray)) := (aC_ BK152.out 1).trans rfl; have hcz29_2 : w25.cell? ⟨gb152, 2, none⟩ = some (.string (⟨#[]⟩ : ByteArray)) := (aC_ BK152.out 2).trans rfl; have hcz29_3 : w25.cell? ⟨gb152, 3, none⟩ = some (.slice none 0 0) := (aC_ BK152.out 3).trans rfl; have hcz29_4 : w25.cell? ⟨gb152, 4, none⟩ = some (.bool false) := (aC_ BK152.out 4).trans rfl; have hfz29_0 := aE_ BK152.out 0; have hfz29_1 := aE_ BK152.out 1; have hfz29_2 := aE_ BK152.out 2; have hfz29_3 := aE_ BK152.out 3; have hfz29_4 := aE_ BK152.out 4))
  repeat (go_quiet (first | (go_at_call 54; (with_reducible refine (aK_.calls t158 (⟨#[62]⟩ : ByteArray) t159 true _ ?side1 A16.out).mono ?_); (case side1 => exact Glob.step HG.out (r5e4_)); rintro e w' ⟨rfl, ⟨nd, rfl⟩⟩; (try first | exact ⟨rfl, _, World.drewN_drewN _ _ _⟩ | exact ⟨rfl, _, Eq.trans (World.drewN_drewN _ _ _) (congrArg (World.drewN _) (Nat.add_assoc _ _ _))⟩); have hnb28 := NB152_0.out; have hnc28 := NB0_152.out; have hcz29_0 : w25.cell? ⟨gb152, 0, none⟩ = some (.int .i64 0) := (aC_ BK152.out 0).trans rfl; have hcz29_1 : w25.cell? ⟨gb152, 1, none⟩ = some (.string (⟨#[]⟩ : ByteArray)) := (aC_ BK152.out 1).trans rfl; have hcz29_2 : w25.cell? ⟨gb152, 2, none⟩ = some (.string (⟨#[]⟩ : ByteArray)) := (aC_ BK152.out 2).trans rfl; have hcz29_3 : w25.cell? ⟨gb152, 3, none⟩ = some (.slice none 0 0) := (aC_ BK152.out 3).trans rfl; have hcz29_4 : w25.cell? ⟨gb152, 4, none⟩ = some (.bool false) := (aC_ BK152.out 4).trans rfl; have hfz29_0 := aE_ BK152.out 0; have hfz29_1 := aE_ BK152.out 1; have hfz29_2 := aE_ BK152.out 2; have hfz29_3 := aE_ BK152.out 3; have hfz29_4 := aE_ BK152.out 4)); try go_wp2_with (first | ((with_reducible refine cV_ (N := 2) rfl ?_); refine dG_ ?hg (N := 2) ?hd (cs := #[.int .i64 0, .string (⟨#[]⟩ : ByteArray), .string (⟨#[]⟩ : ByteArray), .slice none 0 0, .bool false]) (t := 45) ?hr ?_; (case hd => rfl); (case hg => rfl); (case hr => first | (go_simp; done) | (go_simp; rfl)); intro gb152 hg w18 hbox hb; have n0_ := aA_.mk (aD_.below (r5k10_) hb); have n1_ := aA_.mk (aJ_.trans (r5o14_) (aJ_.of_below hb g none) (.inl rfl)); have n2_ := aA_.mk (bG_ (r5n13_) hb); have n3_ := aA_.mk (hbox); have n4_ := aA_.mk ((by rw [hg]; exact (bF_ (w := w) (g := g) (row := none) (r5o14_)) : w.heap.size ≤ gb152)); have n5_ := aA_.mk ((Nat.le_trans HW0.out (by rw [hg]; exact (bF_ (w := w) (g := g) (row := none) (r5o14_)) : w.heap.size ≤ gb152) : w0.heap.size ≤ gb152)); have n6_ := aA_.mk ((by rw [hg]; exact Nat.ne_of_lt (aD_.lt (show aD_ w0 _ g s0_0 s0_1 from r5k10_)) : g ≠ gb152)); have n7_ := aA_.mk ((by rw [hg]; exact Nat.ne_of_gt (aD_.lt (show aD_ w0 _ g s0_0 s0_1 from r5k10_)) : gb152 ≠ g)); clear HI0; clear HK; clear HB; have HI0 := n0_; have HK := n1_; have HB := n2_; have BK152 := n3_; have GW152 := n4_; have GE152 := n5_; have NB0_152 := n6_; have NB152_0 := n7_; clear n0_ n1_ n2_ n3_ n4_ n5_ n6_ n7_; clear hb hbox hg; obtain ⟨HGz19, hgz19⟩ := HI0.out; have hcz19_0 := a9_ HGz19; have hcz19_1 := bA_ HGz19; have hfz19_0 := aE_ HGz19 0; have hfz19_1 := aE_ HGz19 1; clear HGz19 hgz19) | (go_at_call 74; (with_reducible refine (aX_.calls k g s0_0 (wrap64 (s0_1 + 2)) t153 t154 t155 w0 _ ?side1 ?side2 ?side3 A2.out).mono ?_); (case side1 => exact r5c2_); (case side2 => exact r5i8_); (case side3 => exact HG.out); rintro e w20 ⟨rfl, hi, hb, hk⟩; have n0_ := aA_.mk (aJ_.blk hk (g' := gb152) (o := .cells #[.int .i64 0, .string (⟨#[]⟩ : ByteArray), .string (⟨#[]⟩ : ByteArray), .slice none 0 0, .bool false] 45 (0, 0)) (by (with_reducible repeat (first | refine aZ_ ?_ _ | refine a0_ ?_ | refine aV_ ?_ _)); refine bT_ ?_ NB152_0.out _; (with_reducible repeat (first | refine aZ_ ?_ _ | refine a0_ ?_ | refine aV_ ?_ _)); exact BK152.out) NB152_0.out (by simp)); have n1_ := aA_.mk (aJ_.trans (r5l11_) hk (.inl rfl)); have n2_ := aA_.mk (hb); have n3_ := aA_.mk (hi); clear BK152; clear HK; clear HB; clear HI0; have BK152 := n0_; have HK := n1_; have HB := n2_; have HI0 := n3_; clear n0_ n1_ n2_ n3_; (try clear hb); (try clear hb2); (try clear hk); (try clear hi)) | ((with_reducible refine cV_ (N := 4) rfl ?_); refine dG_ ?hg (N := 4) ?hd (cs := #[.int .i64 0, .string (⟨#[]⟩ : ByteArray), .string (⟨#[]⟩ : ByteArray), .slice none 0 0, .bool false]) (t := 45) ?hr ?_; (case hd => rfl); (case hg => rfl); (case hr => first | (go_simp; done) | (go_simp; rfl)); intro gb156 hg w21 hbox hb; have n0_ := aA_.mk (aD_.below (r5c2_) hb); have n1_ := aA_.mk (b4_ (g := gb152) (o := .cells #[.int .i64 0, .string (⟨#[]⟩ : ByteArray), .string (⟨#[]⟩ : ByteArray), .slice none 0 0, .bool false] 45 (0, 0)) (bK BK152) hb); have n2_ := aA_.mk (aJ_.trans (r5l11_) (aJ_.of_below hb g none) (.inl rfl)); have n3_ := aA_.mk (bG_ (r5i8_) hb); have n4_ := aA_.mk (hbox); have n5_ := aA_.mk ((by rw [hg]; exact (bF_ (w := w) (g := g) (row := none) (r5l11_)) : w.heap.size ≤ gb156)); have n6_ := aA_.mk ((Nat.le_trans HW0.out (by rw [hg]; exact (bF_ (w := w) (g := g) (row := none) (r5l11_)) : w.heap.size ≤ gb156) : w0.heap.size ≤ gb156)); have n7_ := aA_.mk ((by rw [hg]; exact Nat.ne_of_lt (cT_ (g := gb152) (o := .cells #[.int .i64 0, .string (⟨#[]⟩ : ByteArray), .string (⟨#[]⟩ : ByteArray), .slice none 0 0, .bool false] 45 (0, 0)) (bK BK152)) : gb152 ≠ gb156)); have n8_ := aA_.mk ((by rw [hg]; exact Nat.ne_of_gt (cT_ (g := gb152) (o := .cells #[.int .i64 0, .string (⟨#[]⟩ : ByteArray), .string (⟨#[]⟩ : ByteArray), .slice none 0 0, .bool false] 45 (0, 0)) (bK BK152)) : gb156 ≠ gb152)); have n9_ := aA_.mk ((by rw [hg]; exact Nat.ne_of_lt (aD_.lt (show aD_ w0 _ g t154 t155 from r5c2_)) : g ≠ gb156)); have n10_ := aA_.mk ((by rw [hg]; exact Nat.ne_of_gt (aD_.lt (show aD_ w0 _ g t154 t155 from r5c2_)) : gb156 ≠ g)); clear HI0; clear BK152; clear HK; clear HB; have HI0 := n0_; have BK152 := n1_; have HK := n2_; have HB := n3_; have BK156 := n4_; have GW156 := n5_; have GE156 := n6_; have NB152_156 := n7_; have NB156_152 := n8_; have NB0_156 := n9_; have NB156_0 := n10_; clear n0_ n1_ n2_ n3_ n4_ n5_ n6_ n7_ n8_ n9_ n10_; clear hb hbox hg; have hnb22 := NB156_152.out; have hnc22 := NB152_156.out; have hnb23 := NB156_0.out; have hnc23 := NB0_156.out; have hcz24_0 : w21.cell? ⟨gb156, 0, none⟩ = some (.int .i64 0) := (aC_ BK156.out 0).trans rfl; have hcz24_1 : w21.cell? ⟨gb156, 1, none⟩ = some (.string (⟨#[]⟩ : ByteArray)) := (aC_ BK156.out 1).trans rfl; have hcz24_2 : w21.cell? ⟨gb156, 2, none⟩ = some (.string (⟨#[]⟩ : ByteArray)) := (aC_ BK156.out 2).trans rfl; have hcz24_3 : w21.cell? ⟨gb156, 3, none⟩ = some (.slice none 0 0) := (aC_ BK156.out 3).trans rfl; have hcz24_4 : w21.cell? ⟨gb156, 4, none⟩ = some (.bool false) := (aC_ BK156.out 4).trans rfl; have hfz24_0 := aE_ BK156.out 0; have hfz24_1 := aE_ BK156.out 1; have hfz24_2 := aE_ BK156.out 2; have hfz24_3 := aE_ BK156.out 3; have hfz24_4 := aE_ BK156.out 4) | (go_at_call 75; (with_reducible refine (aP_.calls k g t154 t155 t157 t158 t159 w0 _ ?side1 ?side2 ?side3 A3.out).mono ?_); (case side1 => exact r5a0_); (case side2 => exact r5e4_); (case side3 => exact HG.out); rintro e w25 ⟨rfl, hi, hb, hk⟩; have n0_ := aA_.mk (aJ_.blk hk (g' := gb152) (o := .cells #[.int .i64 0, .string (⟨#[]⟩ : ByteArray), .string (⟨#[]⟩ : ByteArray), .slice none 0 0, .bool false] 45 (0, 0)) (by (with_reducible repeat (first | refine aZ_ ?_ _ | refine a0_ ?_ | refine aV_ ?_ _)); refine bT_ ?_ NB152_156.out _; (with_reducible repeat (first | refine aZ_ ?_ _ | refine a0_ ?_ | refine aV_ ?_ _)); refine bT_ ?_ NB152_156.out _; (with_reducible repeat (first | refine aZ_ ?_ _ | refine a0_ ?_ | refine aV_ ?_ _)); refine bT_ ?_ NB152_156.out _; (with_reducible repeat (first | refine aZ_ ?_ _ | refine a0_ ?_ | refine aV_ ?_ _)); refine bT_ ?_ NB152_156.out _; (with_reducible repeat (first | refine aZ_ ?_ _ | refine a0_ ?_ | refine aV_ ?_ _)); refine bT_ ?_ NB152_156.out _; (with_reducible repeat (first | refine aZ_ ?_ _ | refine a0_ ?_ | refine aV_ ?_ _)); exact BK152.out) NB152_0.out (by simp)); have n1_ := aA_.mk (aJ_.blk hk (g' := gb156) (o := .cells #[.int .i64 2, .string t153, .string (⟨#[]⟩ : ByteArray), .slice none 0 0, .bool false] 45 (0, 0)) (bP BK156) NB156_0.out (by simp)); have n2_ := aA_.mk (aJ_.trans (r5g6_) hk (.inl rfl)); have n3_ := aA_.mk (hb); have n4_ := aA_.mk (hi); clear BK152; clear BK156; clear HK; clear HB; clear HI0; have BK152 := n0_; have BK156 := n1_; have HK := n2_; have HB := n3_; have HI0 := n4_; clear n0_ n1_ n2_ n3_ n4_; (try clear hb); (try clear hb2); (try clear hk); (try clear hi); have hcz26_0 : w25.cell? ⟨gb156, 0, none⟩ = some (.int .i64 2) := (aC_ BK156.out 0).trans rfl; have hcz26_1 : w25.cell? ⟨gb156, 1, none⟩ = some (.string t153) := (aC_ BK156.out 1).trans rfl; have hcz26_2 : w25.cell? ⟨gb156, 2, none⟩ = some (.string (⟨#[]⟩ : ByteArray)) := (aC_ BK156.out 2).trans rfl; have hcz26_3 : w25.cell? ⟨gb156, 3, none⟩ = some (.slice none 0 0) := (aC_ BK156.out 3).trans rfl; have hcz26_4 : w25.cell? ⟨gb156, 4, none⟩ = some (.bool false) := (aC_ BK156.out 4).trans rfl; have hfz26_0 := aE_ BK156.out 0; have hfz26_1 := aE_ BK156.out 1; have hfz26_2 := aE_ BK156.out 2; have hfz26_3 := aE_ BK156.out 3; have hfz26_4 := aE_ BK156.out 4; obtain ⟨HGz27, hgz27⟩ := HI0.out; have hcz27_0 := a9_ HGz27; have hcz27_1 := bA_ HGz27; have hfz27_0 := aE_ HGz27 0; have hfz27_1 := aE_ HGz27 1; clear HGz27 hgz27) | (go_at_call 54; (with_reducible refine (aK_.calls t158 (⟨#[62]⟩ : ByteArray) t159 true _ ?side1 A16.out).mono ?_); (case side1 => exact Glob.step HG.out (r5e4_)); rintro e w' ⟨rfl, ⟨nd, rfl⟩⟩; (try first | exact ⟨rfl, _, World.drewN_drewN _ _ _⟩ | exact ⟨rfl, _, Eq.trans (World.drewN_drewN _ _ _) (congrArg (World.drewN _) (Nat.add_assoc _ _ _))⟩); have hnb28 := NB152_0.out; have hnc28 := NB0_152.out; have hcz29_0 : w25.cell? ⟨gb152, 0, none⟩ = some (.int .i64 0) := (aC_ BK152.out 0).trans rfl; have hcz29_1 : w25.cell? ⟨gb152, 1, none⟩ = some (.string (⟨#[]⟩ : ByteArray)) := (aC_ BK152.out 1).trans rfl; have hcz29_2 : w25.cell? ⟨gb152, 2, none⟩ = some (.string (⟨#[]⟩ : ByteArray)) := (aC_ BK152.out 2).trans rfl; have hcz29_3 : w25.cell? ⟨gb152, 3, none⟩ = some (.slice none 0 0) := (aC_ BK152.out 3).trans rfl; have hcz29_4 : w25.cell? ⟨gb152, 4, none⟩ = some (.bool false) := (aC_ BK152.out 4).trans rfl; have hfz29_0 := aE_ BK152.out 0; have hfz29_1 := aE_ BK152.out 1; have hfz29_2 := aE_ BK152.out 2; have hfz29_3 := aE_ BK152.out 3; have hfz29_4 := aE_ BK152.out 4)))
  refine bodyPost_ret (b8_ rfl _ _ gb152 45 #[.int .i64 2, .string t153, .string (⟨#[]⟩ : ByteArray), .slice none 0 0, .bool false] (0, 0) _ rfl (by (with_reducible repeat (first | refine aZ_ ?_ _ | refine a0_ ?_ | refine aV_ ?_ _)); refine cS_ (cs := #[.int .i64 2, .string t153, .string (⟨#[]⟩ : ByteArray), .slice none 0 0, .bool false]) ?_ 4 _ rfl; (with_reducible repeat (first | refine aZ_ ?_ _ | refine a0_ ?_ | refine aV_ ?_ _)); refine cS_ (cs := #[.int .i64 2, .string t153, .string (⟨#[]⟩ : ByteArray), .slice none 0 0, .bool false]) ?_ 3 _ rfl; (with_reducible repeat (first | refine aZ_ ?_ _ | refine a0_ ?_ | refine aV_ ?_ _)); refine cS_ (cs := #[.int .i64 2, .string t153, .string (⟨#[]⟩ : ByteArray), .slice none 0 0, .bool false]) ?_ 2 _ rfl; (with_reducible repeat (first | refine aZ_ ?_ _ | refine a0_ ?_ | refine aV_ ?_ _)); refine cS_ (cs := #[.int .i64 2, .string (⟨#[]⟩ : ByteArray), .string (⟨#[]⟩ : ByteArray), .slice none 0 0, .bool false]) ?_ 1 _ rfl; (with_reducible repeat (first | refine aZ_ ?_ _ | refine a0_ ?_ | refine aV_ ?_ _)); refine cS_ (cs := #[.int .i64 0, .string (⟨#[]⟩ : ByteArray), .string (⟨#[]⟩ : ByteArray), .slice none 0 0, .bool false]) ?_ 0 _ rfl; (with_reducible repeat (first | refine aZ_ ?_ _ | refine a0_ ?_ | refine aV_ ?_ _)); refine bT_ ?_ NB152_0.out _; (with_reducible repeat (first | refine aZ_ ?_ _ | refine a0_ ?_ | refine aV_ ?_ _)); exact BK152.out) Tryz.underlying45 rfl (by kernel_rfl)) rfl ?_
  exact ⟨_, by first | rfl | (simp [bL_, bK_] <;> rfl) | (simp [*, bL_, bK_] <;> rfl), by first | exact Kd.R_nil _ _ _ _ _ | exact Kd.N_nil _ _ _ _ _ | exact Kd.V_nil _ _ _ _ _ | exact Kd.Q_nil _ _ _ _ _ | exact Kd.S_nil _ _ _ _ _, r5a0_, r5e4_, r5g6_⟩
 replace c17 := Bool.eq_false_iff.mpr c17
 subst c17
 replace H : (some (2, t153, (⟨#[]⟩ : ByteArray), ([] : List (S53)), false, false, t158, t159)) = some (r1, r2, r3, r4, r5, r6, r7, r8) := by rw [if_neg nF] at H; exact H
 simp only [Option.some.injEq, Prod.mk.injEq] at H
 obtain ⟨rfl, rfl, rfl, rfl, rfl, rfl, rfl, rfl⟩ := H
 go_enter Tryz.func57, Tryz.ntmps57
 go_wp2_with (first | (refine be 2 #[.int .i64 0, .string (⟨#[]⟩ : ByteArray), .string (⟨#[]⟩ : ByteArray), .slice none 0 0, .bool false] 45 ?_; intro gb152 hg w30 hbox hb; replace HB := aA_.mk (bG_ (r5n13_) hb); have BK152 := aA_.mk (hbox); have GW152 := aA_.mk ((by rw [hg]; exact (bF_ (w := w) (g := g) (row := none) (r5o14_)) : w.heap.size ≤ gb152)); have GE152 := aA_.mk ((Nat.le_trans HW0.out (by rw [hg]; exact (bF_ (w := w) (g := g) (row := none) (r5o14_)) : w.heap.size ≤ gb152) : w0.heap.size ≤ gb152)); replace HK := aA_.mk (aJ_.trans (r5o14_) (aJ_.of_below hb g none) (.inl rfl)); have NB0_152 := aA_.mk ((by rw [hg]; exact Nat.ne_of_lt (aD_.lt (show aD_ w0 _ g s0_0 s0_1 from r5k10_)) : g ≠ gb152)); have NB152_0 := aA_.mk ((by rw [hg]; exact Nat.ne_of_gt (aD_.lt (show aD_ w0 _ g s0_0 s0_1 from r5k10_)) : gb152 ≠ g)); replace HI0 := aA_.mk (aD_.below (r5k10_) hb); clear hb hbox hg; obtain ⟨HGz31, hgz31⟩ := HI0.out; have hcz31_0 := a9_ HGz31; have hcz31_1 := bA_ HGz31; have hfz31_0 := aE_ HGz31 0; have hfz31_1 := aE_ HGz31 1; clear HGz31 hgz31) | (go_at_call 74; (with_reducible refine (aX_.calls k g s0_0 (wrap64 (s0_1 + 2)) t153 t154 t155 w0 _ ?side1 ?side2 ?side3 A2.out).mono ?_); (case side1 => exact r5c2_); (case side2 => exact r5i8_); (case side3 => exact HG.out); rintro e w32 ⟨rfl, hi, hb, hk⟩; replace BK152 := aA_.mk (aJ_.blk hk (g' := gb152) (o := .cells #[.int .i64 0, .string (⟨#[]⟩ : ByteArray), .string (⟨#[]⟩ : ByteArray), .slice none 0 0, .bool false] 45 (0, 0)) (by (with_reducible repeat (first | refine aZ_ ?_ _ | refine a0_ ?_ | refine aV_ ?_ _)); refine bT_ ?_ NB152_0.out _; (with_reducible repeat (first | refine aZ_ ?_ _ | refine a0_ ?_ | refine aV_ ?_ _)); exact BK152.out) NB152_0.out (by simp)); replace HK := aA_.mk (aJ_.trans (r5l11_) hk (.inl rfl)); replace HB := aA_.mk (hb); replace HI0 := aA_.mk (hi); (try clear hb); (try clear hk); (try clear hi)) | (refine be 4 #[.int .i64 0, .string (⟨#[]⟩ : ByteArray), .string (⟨#[]⟩ : ByteArray), .slice none 0 0, .bool false] 45 ?_; intro gb156 hg w33 hbox hb; replace HB := aA_.mk (bG_ (r5i8_) hb); have BK156 := aA_.mk (hbox); have GW156 := aA_.mk ((by rw [hg]; exact (bF_ (w := w) (g := g) (row := none) (r5l11_)) : w.heap.size ≤ gb156)); have GE156 := aA_.mk ((Nat.le_trans HW0.out (by rw [hg]; exact (bF_ (w := w) (g := g) (row := none) (r5l11_)) : w.heap.size ≤ gb156) : w0.heap.size ≤ gb156)); replace HK := aA_.mk (aJ_.trans (r5l11_) (aJ_.of_below hb g none) (.inl rfl)); have NB152_156 := nL BK152 hg; have NB156_152 := nG BK152 hg; replace BK152 := kB BK152 hb; have NB0_156 := aA_.mk ((by rw [hg]; exact Nat.ne_of_lt (aD_.lt (show aD_ w0 _ g t154 t155 from r5c2_)) : g ≠ gb156)); have NB156_0 := aA_.mk ((by rw [hg]; exact Nat.ne_of_gt (aD_.lt (show aD_ w0 _ g t154 t155 from r5c2_)) : gb156 ≠ g)); replace HI0 := aA_.mk (aD_.below (r5c2_) hb); clear hb hbox hg; have hnb34 := NB156_152.out; have hnc34 := NB152_156.out; have hnb35 := NB156_0.out; have hnc35 := NB0_156.out; have hcz36_0 : w33.cell? ⟨gb156, 0, none⟩ = some (.int .i64 0) := (aC_ BK156.out 0).trans rfl; have hcz36_1 : w33.cell? ⟨gb156, 1, none⟩ = some (.string (⟨#[]⟩ : ByteArray)) := (aC_ BK156.out 1).trans rfl; have hcz36_2 : w33.cell? ⟨gb156, 2, none⟩ = some (.string (⟨#[]⟩ : ByteArray)) := (aC_ BK156.out 2).trans rfl; have hcz36_3 : w33.cell? ⟨gb156, 3, none⟩ = some (.slice none 0 0) := (aC_ BK156.out 3).trans rfl; have hcz36_4 : w33.cell? ⟨gb156, 4, none⟩ = some (.bool false) := (aC_ BK156.out 4).trans rfl; have hfz36_0 := aE_ BK156.out 0; have hfz36_1 := aE_ BK156.out 1; have hfz36_2 := aE_ BK156.out 2; have hfz36_3 := aE_ BK156.out 3; have hfz36_4 := aE_ BK156.out 4) | (go_at_call 75; (with_reducible refine (aP_.calls k g t154 t155 t157 t158 t159 w0 _ ?side1 ?side2 ?side3 A3.out).mono ?_); (case side1 => exact r5a0_); (case side2 => exact r5e4_); (case side3 => exact HG.out); rintro e w37 ⟨rfl, hi, hb, hk⟩; replace BK152 := aA_.mk (aJ_.blk hk (g' := gb152) (o := .cells #[.int .i64 0, .string (⟨#[]⟩ : ByteArray), .string (⟨#[]⟩ : ByteArray), .slice none 0 0, .bool false] 45 (0, 0)) (by (with_reducible repeat (first | refine aZ_ ?_ _ | refine a0_ ?_ | refine aV_ ?_ _)); refine bT_ ?_ NB152_156.out _; (with_reducible repeat (first | refine aZ_ ?_ _ | refine a0_ ?_ | refine aV_ ?_ _)); refine bT_ ?_ NB152_156.out _; (with_reducible repeat (first | refine aZ_ ?_ _ | refine a0_ ?_ | refine aV_ ?_ _)); refine bT_ ?_ NB152_156.out _; (with_reducible repeat (first | refine aZ_ ?_ _ | refine a0_ ?_ | refine aV_ ?_ _)); refine bT_ ?_ NB152_156.out _; (with_reducible repeat (first | refine aZ_ ?_ _ | refine a0_ ?_ | refine aV_ ?_ _)); refine bT_ ?_ NB152_156.out _; (with_reducible repeat (first | refine aZ_ ?_ _ | refine a0_ ?_ | refine aV_ ?_ _)); exact BK152.out) NB152_0.out (by simp)); replace BK156 := aA_.mk (aJ_.blk hk (g' := gb156) (o := .cells #[.int .i64 2, .string t153, .string (⟨#[]⟩ : ByteArray), .slice none 0 0, .bool false] 45 (0, 0)) (bP BK156) NB156_0.out (by simp)); replace HK := aA_.mk (aJ_.trans (r5g6_) hk (.inl rfl)); replace HB := aA_.mk (hb); replace HI0 := aA_.mk (hi); (try clear hb); (try clear hk); (try clear hi); have hcz38_0 : w37.cell? ⟨gb156, 0, none⟩ = some (.int .i64 2) := (aC_ BK156.out 0).trans rfl; have hcz38_1 : w37.cell? ⟨gb156, 1, none⟩ = some (.string t153) := (aC_ BK156.out 1).trans rfl; have hcz38_2 : w37.cell? ⟨gb156, 2, none⟩ = some (.string (⟨#[]⟩ : ByteArray)) := (aC_ BK156.out 2).trans rfl; have hcz38_3 : w37.cell? ⟨gb156, 3, none⟩ = some (.slice none 0 0) := (aC_ BK156.out 3).trans rfl; have hcz38_4 : w37.cell? ⟨gb156, 4, none⟩ = some (.bool false) := (aC_ BK156.out 4).trans rfl; have hfz38_0 := aE_ BK156.out 0; have hfz38_1 := aE_ BK156.out 1; have hfz38_2 := aE_ BK156.out 2; have hfz38_3 := aE_ BK156.out 3; have hfz38_4 := aE_ BK156.out 4; obtain ⟨HGz39, hgz39⟩ := HI0.out; have hcz39_0 := a9_ HGz39; have hcz39_1 := bA_ HGz39; have hfz39_0 := aE_ HGz39 0; have hfz39_1 := aE_ HGz39 1; clear HGz39 hgz39) | (go_at_call 54; (with_reducible refine (aK_.calls t158 (⟨#[62]⟩ : ByteArray) t159 false _ ?side1 A16.out).mono ?_); (case side1 => exact Glob.step HG.out (r5e4_)); rintro e w' ⟨rfl, ⟨nd, rfl⟩⟩; (try first | exact ⟨rfl, _, World.drewN_drewN _ _ _⟩ | exact ⟨rfl, _, Eq.trans (World.drewN_drewN _ _ _) (congrArg (World.drewN _) (Nat.add_assoc _ _ _))⟩); have hnb40 := NB152_0.out; have hnc40 := NB0_152.out; have hcz41_0 : w37.cell? ⟨gb152, 0, none⟩ = some (.int .i64 0) := (aC_ BK152.out 0).trans rfl; have hcz41_1 : w37.cell? ⟨gb152, 1, none⟩ = some (.string (⟨#[]⟩ : ByteArray)) := (aC_ BK152.out 1).trans rfl; have hcz41_2 : w37.cell? ⟨gb152, 2, none⟩ = some (.string (⟨#[]⟩ : ByteArray)) := (aC_ BK152.out 2).trans rfl; have hcz41_3 : w37.cell? ⟨gb152, 3, none⟩ = some (.slice none 0 0) := (aC_ BK152.out 3).trans rfl; have hcz41_4 : w37.cell? ⟨gb152, 4, none⟩ = some (.bool false) := (aC_ BK152.out 4).trans rfl; have hfz41_0 := aE_ BK152.out 0; have hfz41_1 := aE_ BK152.out 1; have hfz41_2 := aE_ BK152.out 2; have hfz41_3 := aE_ BK152.out 3; have hfz41_4 := aE_ BK152.out 4))
 repeat (go_quiet (first | (go_at_call 54; (with_reducible refine (aK_.calls t158 (⟨#[62]⟩ : ByteArray) t159 false _ ?side1 A16.out).mono ?_); (case side1 => exact Glob.step HG.out (r5e4_)); rintro e w' ⟨rfl, ⟨nd, rfl⟩⟩; (try first | exact ⟨rfl, _, World.drewN_drewN _ _ _⟩ | exact ⟨rfl, _, Eq.trans (World.drewN_drewN _ _ _) (congrArg (World.drewN _) (Nat.add_assoc _ _ _))⟩); have hnb40 := NB152_0.out; have hnc40 := NB0_152.out; have hcz41_0 : w37.cell? ⟨gb152, 0, none⟩ = some (.int .i64 0) := (aC_ BK152.out 0).trans rfl; have hcz41_1 : w37.cell? ⟨gb152, 1, none⟩ = some (.string (⟨#[]⟩ : ByteArray)) := (aC_ BK152.out 1).trans rfl; have hcz41_2 : w37.cell? ⟨gb152, 2, none⟩ = some (.string (⟨#[]⟩ : ByteArray)) := (aC_ BK152.out 2).trans rfl; have hcz41_3 : w37.cell? ⟨gb152, 3, none⟩ = some (.slice none 0 0) := (aC_ BK152.out 3).trans rfl; have hcz41_4 : w37.cell? ⟨gb152, 4, none⟩ = some (.bool false) := (aC_ BK152.out 4).trans rfl; have hfz41_0 := aE_ BK152.out 0; have hfz41_1 := aE_ BK152.out 1; have hfz41_2 := aE_ BK152.out 2; have hfz41_3 := aE_ BK152.out 3; have hfz41_4 := aE_ BK152.out 4)); try go_wp2_with (first | ((with_reducible refine cV_ (N := 2) rfl ?_); refine dG_ ?hg (N := 2) ?hd (cs := #[.int .i64 0, .string (⟨#[]⟩ : ByteArray), .string (⟨#[]⟩ : ByteArray), .slice none 0 0, .bool false]) (t := 45) ?hr ?_; (case hd => rfl); (case hg => rfl); (case hr => first | (go_simp; done) | (go_simp; rfl)); intro gb152 hg w30 hbox hb; have n0_ := aA_.mk (aD_.below (r5k10_) hb); have n1_ := aA_.mk (aJ_.trans (r5o14_) (aJ_.of_below hb g none) (.inl rfl)); have n2_ := aA_.mk (bG_ (r5n13_) hb); have n3_ := aA_.mk (hbox); have n4_ := aA_.mk ((by rw [hg]; exact (bF_ (w := w) (g := g) (row := none) (r5o14_)) : w.heap.size ≤ gb152)); have n5_ := aA_.mk ((Nat.le_trans HW0.out (by rw [hg]; exact (bF_ (w := w) (g := g) (row := none) (r5o14_)) : w.heap.size ≤ gb152) : w0.heap.size ≤ gb152)); have n6_ := aA_.mk ((by rw [hg]; exact Nat.ne_of_lt (aD_.lt (show aD_ w0 _ g s0_0 s0_1 from r5k10_)) : g ≠ gb152)); have n7_ := aA_.mk ((by rw [hg]; exact Nat.ne_of_gt (aD_.lt (show aD_ w0 _ g s0_0 s0_1 from r5k10_)) : gb152 ≠ g)); clear HI0; clear HK; clear HB; have HI0 := n0_; have HK := n1_; have HB := n2_; have BK152 := n3_; have GW152 := n4_; have GE152 := n5_; have NB0_152 := n6_; have NB152_0 := n7_; clear n0_ n1_ n2_ n3_ n4_ n5_ n6_ n7_; clear hb hbox hg; obtain ⟨HGz31, hgz31⟩ := HI0.out; have hcz31_0 := a9_ HGz31; have hcz31_1 := bA_ HGz31; have hfz31_0 := aE_ HGz31 0; have hfz31_1 := aE_ HGz31 1; clear HGz31 hgz31) | (go_at_call 74; (with_reducible refine (aX_.calls k g s0_0 (wrap64 (s0_1 + 2)) t153 t154 t155 w0 _ ?side1 ?side2 ?side3 A2.out).mono ?_); (case side1 => exact r5c2_); (case side2 => exact r5i8_); (case side3 => exact HG.out); rintro e w32 ⟨rfl, hi, hb, hk⟩; have n0_ := aA_.mk (aJ_.blk hk (g' := gb152) (o := .cells #[.int .i64 0, .string (⟨#[]⟩ : ByteArray), .string (⟨#[]⟩ : ByteArray), .slice none 0 0, .bool false] 45 (0, 0)) (by (with_reducible repeat (first | refine aZ_ ?_ _ | refine a0_ ?_ | refine aV_ ?_ _)); refine bT_ ?_ NB152_0.out _; (with_reducible repeat (first | refine aZ_ ?_ _ | refine a0_ ?_ | refine aV_ ?_ _)); exact BK152.out) NB152_0.out (by simp)); have n1_ := aA_.mk (aJ_.trans (r5l11_) hk (.inl rfl)); have n2_ := aA_.mk (hb); have n3_ := aA_.mk (hi); clear BK152; clear HK; clear HB; clear HI0; have BK152 := n0_; have HK := n1_; have HB := n2_; have HI0 := n3_; clear n0_ n1_ n2_ n3_; (try clear hb); (try clear hb2); (try clear hk); (try clear hi)) | ((with_reducible refine cV_ (N := 4) rfl ?_); refine dG_ ?hg (N := 4) ?hd (cs := #[.int .i64 0, .string (⟨#[]⟩ : ByteArray), .string (⟨#[]⟩ : ByteArray), .slice none 0 0, .bool false]) (t := 45) ?hr ?_; (case hd => rfl); (case hg => rfl); (case hr => first | (go_simp; done) | (go_simp; rfl)); intro gb156 hg w33 hbox hb; have n0_ := aA_.mk (aD_.below (r5c2_) hb); have n1_ := aA_.mk (b4_ (g := gb152) (o := .cells #[.int .i64 0, .string (⟨#[]⟩ : ByteArray), .string (⟨#[]⟩ : ByteArray), .slice none 0 0, .bool false] 45 (0, 0)) (bK BK152) hb); have n2_ := aA_.mk (aJ_.trans (r5l11_) (aJ_.of_below hb g none) (.inl rfl)); have n3_ := aA_.mk (bG_ (r5i8_) hb); have n4_ := aA_.mk (hbox); have n5_ := aA_.mk ((by rw [hg]; exact (bF_ (w := w) (g := g) (row := none) (r5l11_)) : w.heap.size ≤ gb156)); have n6_ := aA_.mk ((Nat.le_trans HW0.out (by rw [hg]; exact (bF_ (w := w) (g := g) (row := none) (r5l11_)) : w.heap.size ≤ gb156) : w0.heap.size ≤ gb156)); have n7_ := aA_.mk ((by rw [hg]; exact Nat.ne_of_lt (cT_ (g := gb152) (o := .cells #[.int .i64 0, .string (⟨#[]⟩ : ByteArray), .string (⟨#[]⟩ : ByteArray), .slice none 0 0, .bool false] 45 (0, 0)) (bK BK152)) : gb152 ≠ gb156)); have n8_ := aA_.mk ((by rw [hg]; exact Nat.ne_of_gt (cT_ (g := gb152) (o := .cells #[.int .i64 0, .string (⟨#[]⟩ : ByteArray), .string (⟨#[]⟩ : ByteArray), .slice none 0 0, .bool false] 45 (0, 0)) (bK BK152)) : gb156 ≠ gb152)); have n9_ := aA_.mk ((by rw [hg]; exact Nat.ne_of_lt (aD_.lt (show aD_ w0 _ g t154 t155 from r5c2_)) : g ≠ gb156)); have n10_ := aA_.mk ((by rw [hg]; exact Nat.ne_of_gt (aD_.lt (show aD_ w0 _ g t154 t155 from r5c2_)) : gb156 ≠ g)); clear HI0; clear BK152; clear HK; clear HB; have HI0 := n0_; have BK152 := n1_; have HK := n2_; have HB := n3_; have BK156 := n4_; have GW156 := n5_; have GE156 := n6_; have NB152_156 := n7_; have NB156_152 := n8_; have NB0_156 := n9_; have NB156_0 := n10_; clear n0_ n1_ n2_ n3_ n4_ n5_ n6_ n7_ n8_ n9_ n10_; clear hb hbox hg; have hnb34 := NB156_152.out; have hnc34 := NB152_156.out; have hnb35 := NB156_0.out; have hnc35 := NB0_156.out; have hcz36_0 : w33.cell? ⟨gb156, 0, none⟩ = some (.int .i64 0) := (aC_ BK156.out 0).trans rfl; have hcz36_1 : w33.cell? ⟨gb156, 1, none⟩ = some (.string (⟨#[]⟩ : ByteArray)) := (aC_ BK156.out 1).trans rfl; have hcz36_2 : w33.cell? ⟨gb156, 2, none⟩ = some (.string (⟨#[]⟩ : ByteArray)) := (aC_ BK156.out 2).trans rfl; have hcz36_3 : w33.cell? ⟨gb156, 3, none⟩ = some (.slice none 0 0) := (aC_ BK156.out 3).trans rfl; have hcz36_4 : w33.cell? ⟨gb156, 4, none⟩ = some (.bool false) := (aC_ BK156.out 4).trans rfl; have hfz36_0 := aE_ BK156.out 0; have hfz36_1 := aE_ BK156.out 1; have hfz36_2 := aE_ BK156.out 2; have hfz36_3 := aE_ BK156.out 3; have hfz36_4 := aE_ BK156.out 4) | (go_at_call 75; (with_reducible refine (aP_.calls k g t154 t155 t157 t158 t159 w0 _ ?side1 ?side2 ?side3 A3.out).mono ?_); (case side1 => exact r5a0_); (case side2 => exact r5e4_); (case side3 => exact HG.out); rintro e w37 ⟨rfl, hi, hb, hk⟩; have n0_ := aA_.mk (aJ_.blk hk (g' := gb152) (o := .cells #[.int .i64 0, .string (⟨#[]⟩ : ByteArray), .string (⟨#[]⟩ : ByteArray), .slice none 0 0, .bool false] 45 (0, 0)) (by (with_reducible repeat (first | refine aZ_ ?_ _ | refine a0_ ?_ | refine aV_ ?_ _)); refine bT_ ?_ NB152_156.out _; (with_reducible repeat (first | refine aZ_ ?_ _ | refine a0_ ?_ | refine aV_ ?_ _)); refine bT_ ?_ NB152_156.out _; (with_reducible repeat (first | refine aZ_ ?_ _ | refine a0_ ?_ | refine aV_ ?_ _)); refine bT_ ?_ NB152_156.out _; (with_reducible repeat (first | refine aZ_ ?_ _ | refine a0_ ?_ | refine aV_ ?_ _)); refine bT_ ?_ NB152_156.out _; (with_reducible repeat (first | refine aZ_ ?_ _ | refine a0_ ?_ | refine aV_ ?_ _)); refine bT_ ?_ NB152_156.out _; (with_reducible repeat (first | refine aZ_ ?_ _ | refine a0_ ?_ | refine aV_ ?_ _)); exact BK152.out) NB152_0.out (by simp)); have n1_ := aA_.mk (aJ_.blk hk (g' := gb156) (o := .cells #[.int .i64 2, .string t153, .string (⟨#[]⟩ : ByteArray), .slice none 0 0, .bool false] 45 (0, 0)) (bP BK156) NB156_0.out (by simp)); have n2_ := aA_.mk (aJ_.trans (r5g6_) hk (.inl rfl)); have n3_ := aA_.mk (hb); have n4_ := aA_.mk (hi); clear BK152; clear BK156; clear HK; clear HB; clear HI0; have BK152 := n0_; have BK156 := n1_; have HK := n2_; have HB := n3_; have HI0 := n4_; clear n0_ n1_ n2_ n3_ n4_; (try clear hb); (try clear hb2); (try clear hk); (try clear hi); have hcz38_0 : w37.cell? ⟨gb156, 0, none⟩ = some (.int .i64 2) := (aC_ BK156.out 0).trans rfl; have hcz38_1 : w37.cell? ⟨gb156, 1, none⟩ = some (.string t153) := (aC_ BK156.out 1).trans rfl; have hcz38_2 : w37.cell? ⟨gb156, 2, none⟩ = some (.string (⟨#[]⟩ : ByteArray)) := (aC_ BK156.out 2).trans rfl; have hcz38_3 : w37.cell? ⟨gb156, 3, none⟩ = some (.slice none 0 0) := (aC_ BK156.out 3).trans rfl; have hcz38_4 : w37.cell? ⟨gb156, 4, none⟩ = some (.bool false) := (aC_ BK156.out 4).trans rfl; have hfz38_0 := aE_ BK156.out 0; have hfz38_1 := aE_ BK156.out 1; have hfz38_2 := aE_ BK156.out 2; have hfz38_3 := aE_ BK156.out 3; have hfz38_4 := aE_ BK156.out 4; obtain ⟨HGz39, hgz39⟩ := HI0.out; have hcz39_0 := a9_ HGz39; have hcz39_1 := bA_ HGz39; have hfz39_0 := aE_ HGz39 0; have hfz39_1 := aE_ HGz39 1; clear HGz39 hgz39) | (go_at_call 54; (with_reducible refine (aK_.calls t158 (⟨#[62]⟩ : ByteArray) t159 false _ ?side1 A16.out).mono ?_); (case side1 => exact Glob.step HG.out (r5e4_)); rintro e w' ⟨rfl, ⟨nd, rfl⟩⟩; (try first | exact ⟨rfl, _, World.drewN_drewN _ _ _⟩ | exact ⟨rfl, _, Eq.trans (World.drewN_drewN _ _ _) (congrArg (World.drewN _) (Nat.add_assoc _ _ _))⟩); have hnb40 := NB152_0.out; have hnc40 := NB0_152.out; have hcz41_0 : w37.cell? ⟨gb152, 0, none⟩ = some (.int .i64 0) := (aC_ BK152.out 0).trans rfl; have hcz41_1 : w37.cell? ⟨gb152, 1, none⟩ = some (.string (⟨#[]⟩ : ByteArray)) := (aC_ BK152.out 1).trans rfl; have hcz41_2 : w37.cell? ⟨gb152, 2, none⟩ = some (.string (⟨#[]⟩ : ByteArray)) := (aC_ BK152.out 2).trans rfl; have hcz41_3 : w37.cell? ⟨gb152, 3, none⟩ = some (.slice none 0 0) := (aC_ BK152.out 3).trans rfl; have hcz41_4 : w37.cell? ⟨gb152, 4, none⟩ = some (.bool false) := (aC_ BK152.out 4).trans rfl; have hfz41_0 := aE_ BK152.out 0; have hfz41_1 := aE_ BK152.out 1; have hfz41_2 := aE_ BK152.out 2; have hfz41_3 := aE_ BK152.out 3; have hfz41_4 := aE_ BK152.out 4)))
 refine bodyPost_ret (b8_ rfl _ _ gb152 45 #[.int .i64 2, .string t153, .string (⟨#[]⟩ : ByteArray), .slice none 0 0, .bool false] (0, 0) _ rfl (bP BK152) Tryz.underlying45 rfl (by kernel_rfl)) rfl ?_
 exact ⟨_, by first | rfl | (simp [bL_, bK_] <;> rfl) | (simp [*, bL_, bK_] <;> rfl), by first | exact Kd.R_nil _ _ _ _ _ | exact Kd.N_nil _ _ _ _ _ | exact Kd.V_nil _ _ _ _ _ | exact Kd.Q_nil _ _ _ _ _ | exact Kd.S_nil _ _ _ _ _, r5a0_, r5e4_, r5g6_⟩
def b2_.f (a0 : Int) : Option (ByteArray) := if a0 < 128 then (some (strOfNums (([(a0) % 256] : List Int)))) else (if a0 < 2048 then (some (strOfNums (([(wrap64 (192 + (wrap64 (Int.tdiv a0 64)))) % 256, (wrap64 (128 + (Int.tmod a0 64))) % 256] : List Int)))) else (if a0 < 65536 then (some (strOfNums (([(wrap64 (224 + (wrap64 (Int.tdiv a0 4096)))) % 256, (wrap64 (128 + (Int.tmod (wrap64 (Int.tdiv a0 64)) 64))) % 256, (wrap64 (128 + (Int.tmod a0 64))) % 256] : List Int)))) else (some (strOfNums (([(wrap64 (240 + (wrap64 (Int.tdiv a0 262144)))) % 256, (wrap64 (128 + (Int.tmod (wrap64 (Int.tdiv a0 4096)) 64))) % 256, (wrap64 (128 + (Int.tmod (wrap64 (Int.tdiv a0 64)) 64))) % 256, (wrap64 (128 + (Int.tmod a0 64))) % 256] : List Int))))))
theorem b2_.calls (a0 : Int) (r : ByteArray) (w : World) (hG : Glob w) (h : b2_.f a0 = some r) :
 Calls Tryz.prog 102 #[.int .i64 a0] w fun e w' => e = .returned (.string r) ∧ Below w.heap.size w w' := by
 have HG := aA_.mk hG
 clear hG
 have HB := aA_.mk (Below.refl w.heap.size w)
 have H : (if a0 < 128 then (some (strOfNums (([(a0) % 256] : List Int)))) else (if a0 < 2048 then (some (strOfNums (([(wrap64 (192 + (wrap64 (Int.tdiv a0 64)))) % 256, (wrap64 (128 + (Int.tmod a0 64))) % 256] : List Int)))) else (if a0 < 65536 then (some (strOfNums (([(wrap64 (224 + (wrap64 (Int.tdiv a0 4096)))) % 256, (wrap64 (128 + (Int.tmod (wrap64 (Int.tdiv a0 64)) 64))) % 256, (wrap64 (128 + (Int.tmod a0 64))) % 256] : List Int)))) else (some (strOfNums (([(wrap64 (240 + (wrap64 (Int.tdiv a0 262144)))) % 256, (wrap64 (128 + (Int.tmod (wrap64 (Int.tdiv a0 4096)) 64))) % 256, (wrap64 (128 + (Int.tmod (wrap64 (Int.tdiv a0 64)) 64))) % 256, (wrap64 (128 + (Int.tmod a0 64))) % 256] : List Int))))))) = some r := h
 clear h
 by_cases c2 : a0 < 128
 ·rw [if_pos c2] at H
  have c2b0 := dT c2
  clear c2
  obtain ⟨y161, hy161⟩ : ∃ y_ : List Int, y_ = (([(a0) % 256] : List Int)) := ⟨_, rfl⟩
  replace H : (some (strOfNums y161)) = some r := by first | (rw [hy161]; with_reducible exact H) | (have H2_ := (Option.bind_some _ _).symm.trans H; rw [hy161]; with_reducible exact H2_) | (have H2_ := (Option.bind_some _ _).symm.trans H; with_reducible exact H2_) | with_reducible exact H | (rw [hy161]; exact H) | exact H
  have Ny161 := aA_.mk hy161
  clear hy161
  obtain rfl := Option.some.inj H
  go_enter Tryz.func102, Tryz.ntmps102
  go_wp2_with (first | ((with_reducible refine cV_ (N := 8) rfl ?_); refine Kd.R_lit (Kd.int .u8) _ 5 ?hg (N := 8) ?hd (xs := ([(a0) % 256] : List Int)) (inner := [.int .u8 ((a0) % 256)]) (ok := fun _ => True) (okp := fun _ => True) ?hr ?hp (fun _ hk => hk) trivial (Below.refl _ _) (Nat.le_refl _) (by simp) ?_; (case hd => rfl); (case hg => rfl); (case hr => first | (go_simp; done) | (go_simp; rfl)); (case hp => exact (Reps.one (show Kd.M (Kd.int .u8) _ _ _ ((a0) % 256) [.int .u8 ((a0) % 256)] from rfl) (Reps.none _ _))); intro v162 w3 ho4 hb hg_ hnew_; clear hg_ hnew_; (first | rw [← Ny161.out] at ho4 | (simp only [Int.reduceToNat] at ho4; rw [← Ny161.out] at ho4)); have HO163 := aA_.mk (Kd.R_lower ho4 (cA_ bE)); replace HB := sB hb; clear hb ho4; have hcv5 := own_string (P := Tryz.prog) Tryz.underlying57 Tryz.underlying5 Tryz.underlying9 (Kd.own_of_R HO163.out)))
  go_ret
  exact ⟨eA, bE⟩
 rw [if_neg c2] at H
 have c2b0 := dF c2
 clear c2
 by_cases c6 : a0 < 2048
 ·rw [if_pos c6] at H
  have c6b0 := dT c6
  clear c6
  obtain ⟨y164, hy164⟩ : ∃ y_ : List Int, y_ = (([(wrap64 (192 + (wrap64 (Int.tdiv a0 64)))) % 256, (wrap64 (128 + (Int.tmod a0 64))) % 256] : List Int)) := ⟨_, rfl⟩
  replace H : (some (strOfNums y164)) = some r := by first | (rw [hy164]; with_reducible exact H) | (have H2_ := (Option.bind_some _ _).symm.trans H; rw [hy164]; with_reducible exact H2_) | (have H2_ := (Option.bind_some _ _).symm.trans H; with_reducible exact H2_) | with_reducible exact H | (rw [hy164]; exact H) | exact H
  have Ny164 := aA_.mk hy164
  clear hy164
  obtain rfl := Option.some.inj H
  go_enter Tryz.func102, Tryz.ntmps102
  go_wp2_with (first | ((with_reducible refine cV_ (N := 21) rfl ?_); refine Kd.R_lit (Kd.int .u8) _ 5 ?hg (N := 21) ?hd (xs := ([(wrap64 (192 + (wrap64 (Int.tdiv a0 64)))) % 256, (wrap64 (128 + (Int.tmod a0 64))) % 256] : List Int)) (inner := [.int .u8 ((wrap64 (192 + (wrap64 (Int.tdiv a0 64)))) % 256), .int .u8 ((wrap64 (128 + (Int.tmod a0 64))) % 256)]) (ok := fun _ => True) (okp := fun _ => True) ?hr ?hp (fun _ hk => hk) trivial (Below.refl _ _) (Nat.le_refl _) (by simp) ?_; (case hd => rfl); (case hg => rfl); (case hr => first | (go_simp; done) | (go_simp; rfl)); (case hp => exact (Reps.one (show Kd.M (Kd.int .u8) _ _ _ ((wrap64 (192 + (wrap64 (Int.tdiv a0 64)))) % 256) [.int .u8 ((wrap64 (192 + (wrap64 (Int.tdiv a0 64)))) % 256)] from rfl) (Reps.one (show Kd.M (Kd.int .u8) _ _ _ ((wrap64 (128 + (Int.tmod a0 64))) % 256) [.int .u8 ((wrap64 (128 + (Int.tmod a0 64))) % 256)] from rfl) (Reps.none _ _)))); intro v165 w7 ho8 hb hg_ hnew_; clear hg_ hnew_; (first | rw [← Ny164.out] at ho8 | (simp only [Int.reduceToNat] at ho8; rw [← Ny164.out] at ho8)); have HO166 := aA_.mk (Kd.R_lower ho8 (cA_ bE)); replace HB := sB hb; clear hb ho8; have hcv9 := own_string (P := Tryz.prog) Tryz.underlying57 Tryz.underlying5 Tryz.underlying9 (Kd.own_of_R HO166.out)))
  go_ret
  exact ⟨eA, bE⟩
 rw [if_neg c6] at H
 have c6b0 := dF c6
 clear c6
 by_cases c10 : a0 < 65536
 rotate_left
 ·rw [if_neg c10] at H
  have c10b0 := dF c10
  clear c10
  obtain ⟨y170, hy170⟩ : ∃ y_ : List Int, y_ = (([(wrap64 (240 + (wrap64 (Int.tdiv a0 262144)))) % 256, (wrap64 (128 + (Int.tmod (wrap64 (Int.tdiv a0 4096)) 64))) % 256, (wrap64 (128 + (Int.tmod (wrap64 (Int.tdiv a0 64)) 64))) % 256, (wrap64 (128 + (Int.tmod a0 64))) % 256] : List Int)) := ⟨_, rfl⟩
  replace H : (some (strOfNums y170)) = some r := by first | (rw [hy170]; with_reducible exact H) | (have H2_ := (Option.bind_some _ _).symm.trans H; rw [hy170]; with_reducible exact H2_) | (have H2_ := (Option.bind_some _ _).symm.trans H; with_reducible exact H2_) | with_reducible exact H | (rw [hy170]; exact H) | exact H
  have Ny170 := aA_.mk hy170
  clear hy170
  obtain rfl := Option.some.inj H
  go_enter Tryz.func102, Tryz.ntmps102
  go_wp2_with (first | ((with_reducible refine cV_ (N := 59) rfl ?_); refine Kd.R_lit (Kd.int .u8) _ 5 ?hg (N := 59) ?hd (xs := ([(wrap64 (240 + (wrap64 (Int.tdiv a0 262144)))) % 256, (wrap64 (128 + (Int.tmod (wrap64 (Int.tdiv a0 4096)) 64))) % 256, (wrap64 (128 + (Int.tmod (wrap64 (Int.tdiv a0 64)) 64))) % 256, (wrap64 (128 + (Int.tmod a0 64))) % 256] : List Int)) (inner := [.int .u8 ((wrap64 (240 + (wrap64 (Int.tdiv a0 262144)))) % 256), .int .u8 ((wrap64 (128 + (Int.tmod (wrap64 (Int.tdiv a0 4096)) 64))) % 256), .int .u8 ((wrap64 (128 + (Int.tmod (wrap64 (Int.tdiv a0 64)) 64))) % 256), .int .u8 ((wrap64 (128 + (Int.tmod a0 64))) % 256)]) (ok := fun _ => True) (okp := fun _ => True) ?hr ?hp (fun _ hk => hk) trivial (Below.refl _ _) (Nat.le_refl _) (by simp) ?_; (case hd => rfl); (case hg => rfl); (case hr => first | (go_simp; done) | (go_simp; rfl)); (case hp => exact (Reps.one (show Kd.M (Kd.int .u8) _ _ _ ((wrap64 (240 + (wrap64 (Int.tdiv a0 262144)))) % 256) [.int .u8 ((wrap64 (240 + (wrap64 (Int.tdiv a0 262144)))) % 256)] from rfl) (Reps.one (show Kd.M (Kd.int .u8) _ _ _ ((wrap64 (128 + (Int.tmod (wrap64 (Int.tdiv a0 4096)) 64))) % 256) [.int .u8 ((wrap64 (128 + (Int.tmod (wrap64 (Int.tdiv a0 4096)) 64))) % 256)] from rfl) (Reps.one (show Kd.M (Kd.int .u8) _ _ _ ((wrap64 (128 + (Int.tmod (wrap64 (Int.tdiv a0 64)) 64))) % 256) [.int .u8 ((wrap64 (128 + (Int.tmod (wrap64 (Int.tdiv a0 64)) 64))) % 256)] from rfl) (Reps.one (show Kd.M (Kd.int .u8) _ _ _ ((wrap64 (128 + (Int.tmod a0 64))) % 256) [.int .u8 ((wrap64 (128 + (Int.tmod a0 64))) % 256)] from rfl) (Reps.none _ _)))))); intro v171 w14 ho15 hb hg_ hnew_; clear hg_ hnew_; (first | rw [← Ny170.out] at ho15 | (simp only [Int.reduceToNat] at ho15; rw [← Ny170.out] at ho15)); have HO172 := aA_.mk (Kd.R_lower ho15 (cA_ bE)); replace HB := sB hb; clear hb ho15; have hcv16 := own_string (P := Tryz.prog) Tryz.underlying57 Tryz.underlying5 Tryz.underlying9 (Kd.own_of_R HO172.out)))
  go_ret
  exact ⟨eA, bE⟩
 rw [if_pos c10] at H
 have c10b0 := dT c10
 clear c10
 obtain ⟨y167, hy167⟩ : ∃ y_ : List Int, y_ = (([(wrap64 (224 + (wrap64 (Int.tdiv a0 4096)))) % 256, (wrap64 (128 + (Int.tmod (wrap64 (Int.tdiv a0 64)) 64))) % 256, (wrap64 (128 + (Int.tmod a0 64))) % 256] : List Int)) := ⟨_, rfl⟩
 replace H : (some (strOfNums y167)) = some r := by first | (rw [hy167]; with_reducible exact H) | (have H2_ := (Option.bind_some _ _).symm.trans H; rw [hy167]; with_reducible exact H2_) | (have H2_ := (Option.bind_some _ _).symm.trans H; with_reducible exact H2_) | with_reducible exact H | (rw [hy167]; exact H) | exact H
 have Ny167 := aA_.mk hy167
 clear hy167
 obtain rfl := Option.some.inj H
 go_enter Tryz.func102, Tryz.ntmps102
 go_wp2_with (first | ((with_reducible refine cV_ (N := 39) rfl ?_); refine Kd.R_lit (Kd.int .u8) _ 5 ?hg (N := 39) ?hd (xs := ([(wrap64 (224 + (wrap64 (Int.tdiv a0 4096)))) % 256, (wrap64 (128 + (Int.tmod (wrap64 (Int.tdiv a0 64)) 64))) % 256, (wrap64 (128 + (Int.tmod a0 64))) % 256] : List Int)) (inner := [.int .u8 ((wrap64 (224 + (wrap64 (Int.tdiv a0 4096)))) % 256), .int .u8 ((wrap64 (128 + (Int.tmod (wrap64 (Int.tdiv a0 64)) 64))) % 256), .int .u8 ((wrap64 (128 + (Int.tmod a0 64))) % 256)]) (ok := fun _ => True) (okp := fun _ => True) ?hr ?hp (fun _ hk => hk) trivial (Below.refl _ _) (Nat.le_refl _) (by simp) ?_; (case hd => rfl); (case hg => rfl); (case hr => first | (go_simp; done) | (go_simp; rfl)); (case hp => exact (Reps.one (show Kd.M (Kd.int .u8) _ _ _ ((wrap64 (224 + (wrap64 (Int.tdiv a0 4096)))) % 256) [.int .u8 ((wrap64 (224 + (wrap64 (Int.tdiv a0 4096)))) % 256)] from rfl) (Reps.one (show Kd.M (Kd.int .u8) _ _ _ ((wrap64 (128 + (Int.tmod (wrap64 (Int.tdiv a0 64)) 64))) % 256) [.int .u8 ((wrap64 (128 + (Int.tmod (wrap64 (Int.tdiv a0 64)) 64))) % 256)] from rfl) (Reps.one (show Kd.M (Kd.int .u8) _ _ _ ((wrap64 (128 + (Int.tmod a0 64))) % 256) [.int .u8 ((wrap64 (128 + (Int.tmod a0 64))) % 256)] from rfl) (Reps.none _ _))))); intro v168 w11 ho12 hb hg_ hnew_; clear hg_ hnew_; (first | rw [← Ny167.out] at ho12 | (simp only [Int.reduceToNat] at ho12; rw [← Ny167.out] at ho12)); have HO169 := aA_.mk (Kd.R_lower ho12 (cA_ bE)); replace HB := sB hb; clear hb ho12; have hcv13 := own_string (P := Tryz.prog) Tryz.underlying57 Tryz.underlying5 Tryz.underlying9 (Kd.own_of_R HO169.out)))
 go_ret
 exact ⟨eA, bE⟩
mutual
def aN_.l0 : Nat → ByteArray → Int → Int → Int → Option (ByteArray × Bool)
 | 0, _, _, _, _ => none
 | k + 1, x0, x1, x6, x7 => if x7 < (x0.size : Int) then (if 0 ≤ x7 then ((b9_.f (bt x0 x7)).bind fun t181 => (if t181 = true then (if (((bt x0 x7) - 48) % 256) < 0 then (some ((⟨#[]⟩ : ByteArray), false)) else (aN_.l0 k x0 x1 (wrap64 ((wrap64 (x6 * x1)) + (((bt x0 x7) - 48) % 256))) (wrap64 (x7 + 1)))) else (if x1 = 16 then (if (bt x0 x7) ≥ 97 then (aN_.j1 k x0 x1 x6 x7 (bt x0 x7) (-1) (decide ((bt x0 x7) ≤ 102))) else (aN_.j1 k x0 x1 x6 x7 (bt x0 x7) (-1) false)) else (aN_.j1 k x0 x1 x6 x7 (bt x0 x7) (-1) false)))) else (none)) else (if (x0.size : Int) ≥ 1 then (if (x0.size : Int) ≤ 6 then (if x6 ≤ 1114111 then (if x6 < 55296 then (if x6 ≥ 32 then ((b2_.f x6).bind fun t173 => (some (t173, true))) else (if x6 = 9 then ((b2_.f x6).bind fun t174 => (some (t174, true))) else (if x6 = 10 then ((b2_.f x6).bind fun t175 => (some (t175, true))) else (if x6 = 13 then ((b2_.f x6).bind fun t176 => (some (t176, true))) else (some ((⟨#[]⟩ : ByteArray), false)))))) else (if x6 > 57343 then (if x6 ≥ 32 then ((b2_.f x6).bind fun t177 => (some (t177, true))) else (if x6 = 9 then ((b2_.f x6).bind fun t178 => (some (t178, true))) else (if x6 = 10 then ((b2_.f x6).bind fun t179 => (some (t179, true))) else (if x6 = 13 then ((b2_.f x6).bind fun t180 => (some (t180, true))) else (some ((⟨#[]⟩ : ByteArray), false)))))) else (some ((⟨#[]⟩ : ByteArray), false)))) else (some ((⟨#[]⟩ : ByteArray), false))) else (some ((⟨#[]⟩ : ByteArray), false))) else (some ((⟨#[]⟩ : ByteArray), false)))
def aN_.j1 : Nat → ByteArray → Int → Int → Int → Int → Int → Bool → Option (ByteArray × Bool)
 | 0, _, _, _, _, _, _, _ => none
 | k + 1, x0, x1, x6, x7, x8, x9, x26 => if x26 = true then (if (((x8 - 97) % 256) + 10) < 0 then (some ((⟨#[]⟩ : ByteArray), false)) else (aN_.l0 k x0 x1 (wrap64 ((wrap64 (x6 * x1)) + (((x8 - 97) % 256) + 10))) (wrap64 (x7 + 1)))) else (if x1 = 16 then (if x8 ≥ 65 then (aN_.j2 k x0 x1 x6 x7 x8 x9 (decide (x8 ≤ 70))) else (aN_.j2 k x0 x1 x6 x7 x8 x9 false)) else (aN_.j2 k x0 x1 x6 x7 x8 x9 false))
def aN_.j2 : Nat → ByteArray → Int → Int → Int → Int → Int → Bool → Option (ByteArray × Bool)
 | 0, _, _, _, _, _, _, _ => none
 | k + 1, x0, x1, x6, x7, x8, x9, x41 => if x41 = true then (if (((x8 - 65) % 256) + 10) < 0 then (some ((⟨#[]⟩ : ByteArray), false)) else (aN_.l0 k x0 x1 (wrap64 ((wrap64 (x6 * x1)) + (((x8 - 65) % 256) + 10))) (wrap64 (x7 + 1)))) else (if x9 < 0 then (some ((⟨#[]⟩ : ByteArray), false)) else (aN_.l0 k x0 x1 (wrap64 ((wrap64 (x6 * x1)) + x9)) (wrap64 (x7 + 1))))
end
def aN_.f (k : Nat) (a0 : ByteArray) (a1 : Int) : Option (ByteArray × Bool) := aN_.l0 k a0 a1 0 0
theorem aN_.mono_l : ∀ k, (∀ y0 y1 y2 y3, LeO (aN_.l0 k y0 y1 y2 y3) (aN_.l0 (k + 1) y0 y1 y2 y3)) ∧ (∀ y0 y1 y2 y3 y4 y5 y6, LeO (aN_.j1 k y0 y1 y2 y3 y4 y5 y6) (aN_.j1 (k + 1) y0 y1 y2 y3 y4 y5 y6)) ∧ (∀ y0 y1 y2 y3 y4 y5 y6, LeO (aN_.j2 k y0 y1 y2 y3 y4 y5 y6) (aN_.j2 (k + 1) y0 y1 y2 y3 y4 y5 y6))
 | 0 => ⟨fun _ _ _ _ r h => by simp [aN_.l0] at h, fun _ _ _ _ _ _ _ r h => by simp [aN_.j1] at h, fun _ _ _ _ _ _ _ r h => by simp [aN_.j2] at h⟩
 | k + 1 => by
  obtain ⟨ih0, ih1, ih2⟩ := aN_.mono_l k
  refine ⟨?_, ?_, ?_⟩
  ·intro y0 y1 y2 y3
   unfold aN_.l0
   exact mo
  ·intro y0 y1 y2 y3 y4 y5 y6
   unfold aN_.j1
   exact mo
  ·intro y0 y1 y2 y3 y4 y5 y6
   unfold aN_.j2
   exact mo
theorem aN_.mono : ∀ a0 a1 k, LeO (aN_.f k a0 a1) (aN_.f (k + 1) a0 a1) := by
 intro a0 a1 k
 obtain ⟨ih0, ih1, ih2⟩ := aN_.mono_l k
 unfold aN_.f
 exact mo
theorem aN_.calls (k : Nat) (a0 : ByteArray) (a1 : Int) (r1 : ByteArray) (r2 : Bool) (w : World) (hG : Glob w) (h : aN_.f k a0 a1 = some (r1, r2)) :
 Calls Tryz.prog 90 #[.string a0, .int .i64 a1] w fun e w' => e = .returned (.tuple #[.string r1, .bool r2]) ∧ Below w.heap.size w w' := by
 have HG := aA_.mk hG
 clear hG
 have HB := aA_.mk (Below.refl w.heap.size w)
 have H : (aN_.l0 k a0 a1 0 0) = some (r1, r2) := h
 clear h
 have H' := aA_.mk H
 clear H
 go_enter Tryz.func90, Tryz.ntmps90
 go_wp2
 go_loopg [6, 7] k (fun kq v6 v7 w' => ∃ (x6_1 : Int) (x7_1 : Int), v6 = .int .i64 x6_1 ∧ v7 = .int .i64 x7_1 ∧ aA_ (aN_.l0 kq a0 a1 x6_1 x7_1 = some (r1, r2)) ∧ aA_ (kq ≤ k) ∧ aA_ (Below w.heap.size w w'))
 case atStart => exact ⟨(0), (0), cA, cA, H', ⟨Nat.le_refl _⟩, ⟨bE⟩⟩
 clear H'
 try clear p2
 obtain ⟨x6_1, x7_1, rfl, rfl, HA, HK1, HB⟩ := hrel
 cases gk with
 | zero => exact absurd HA.out (by simp [aN_.l0])
 | succ k1 =>
  have H := HA.out
  clear HA
  simp only [aN_.l0] at H
  by_cases c3 : x7_1 < (a0.size : Int)
  rotate_left
  ·rw [if_neg c3] at H
   have c3b0 := dF c3
   clear c3
   by_cases c20 : (a0.size : Int) ≥ 1
   rotate_left
   ·rw [if_neg c20] at H
    have c20b0 := dF c20
    have c20b1 : decide (1 ≤ a0.size) = false := decide_eq_false (by omega)
    clear c20
    simp only [Option.some.injEq, Prod.mk.injEq] at H
    obtain ⟨rfl, rfl⟩ := H
    go_wp2
    go_ret2
    exact ⟨eA, bE⟩
   rw [if_pos c20] at H
   have c20b0 := dT c20
   have c20b1 : decide (1 ≤ a0.size) = true := decide_eq_true (by omega)
   clear c20
   by_cases c21 : (a0.size : Int) ≤ 6
   rotate_left
   ·rw [if_neg c21] at H
    have c21b0 := dF c21
    have c21b1 : decide (a0.size ≤ 6) = false := decide_eq_false (by omega)
    clear c21
    simp only [Option.some.injEq, Prod.mk.injEq] at H
    obtain ⟨rfl, rfl⟩ := H
    go_wp2
    go_ret2
    exact ⟨eA, bE⟩
   rw [if_pos c21] at H
   have c21b0 := dT c21
   have c21b1 : decide (a0.size ≤ 6) = true := decide_eq_true (by omega)
   clear c21
   by_cases c22 : x6_1 ≤ 1114111
   rotate_left
   ·rw [if_neg c22] at H
    have c22b0 := dF c22
    clear c22
    simp only [Option.some.injEq, Prod.mk.injEq] at H
    obtain ⟨rfl, rfl⟩ := H
    go_wp2
    go_ret2
    exact ⟨eA, bE⟩
   rw [if_pos c22] at H
   have c22b0 := dT c22
   clear c22
   by_cases c23 : x6_1 < 55296
   ·rw [if_pos c23] at H
    have c23b0 := dT c23
    clear c23
    by_cases c24 : x6_1 ≥ 32
    ·rw [if_pos c24] at H
     have c24b0 := dT c24
     clear c24
     replace H := bi H
     obtain ⟨t173, A250, H⟩ := H
     try dsimp only at H
     have A25 := aA_.mk A250
     clear A250
     simp only [Option.some.injEq, Prod.mk.injEq] at H
     obtain ⟨rfl, rfl⟩ := H
     go_wp2_with (first | (refine gl (some 102) Tryz.func102 #[.int .i64 x6_1] ?_; (with_reducible refine (b2_.calls x6_1 t173 _ (gS HG) A25.out).mono ?_); rintro e w26 ⟨rfl, hb⟩; refine ⟨_, rfl, ?_⟩; replace HB := sB hb; (try clear hb)))
     go_ret2
     exact ⟨eA, bE⟩
    rw [if_neg c24] at H
    have c24b0 := dF c24
    clear c24
    by_cases c27 : x6_1 = 9
    ·rw [if_pos c27] at H
     obtain ⟨c27b0, c27b1⟩ := eqT c27
     clear c27
     replace H := bi H
     obtain ⟨t174, A280, H⟩ := H
     try dsimp only at H
     have A28 := aA_.mk A280
     clear A280
     simp only [Option.some.injEq, Prod.mk.injEq] at H
     obtain ⟨rfl, rfl⟩ := H
     go_wp2_with (first | (refine gl (some 102) Tryz.func102 #[.int .i64 x6_1] ?_; (with_reducible refine (b2_.calls x6_1 t174 _ (gS HG) A28.out).mono ?_); rintro e w29 ⟨rfl, hb⟩; refine ⟨_, rfl, ?_⟩; replace HB := sB hb; (try clear hb)))
     go_ret2
     exact ⟨eA, bE⟩
    rw [if_neg c27] at H
    obtain ⟨c27b0, c27b1⟩ := eqF c27
    by_cases c30 : x6_1 = 10
    ·rw [if_pos c30] at H
     obtain ⟨c30b0, c30b1⟩ := eqT c30
     clear c30
     replace H := bi H
     obtain ⟨t175, A310, H⟩ := H
     try dsimp only at H
     have A31 := aA_.mk A310
     clear A310
     simp only [Option.some.injEq, Prod.mk.injEq] at H
     obtain ⟨rfl, rfl⟩ := H
     go_wp2_with (first | (refine gl (some 102) Tryz.func102 #[.int .i64 x6_1] ?_; (with_reducible refine (b2_.calls x6_1 t175 _ (gS HG) A31.out).mono ?_); rintro e w32 ⟨rfl, hb⟩; refine ⟨_, rfl, ?_⟩; replace HB := sB hb; (try clear hb)))
     go_ret2
     exact ⟨eA, bE⟩
    rw [if_neg c30] at H
    obtain ⟨c30b0, c30b1⟩ := eqF c30
    by_cases c33 : x6_1 = 13
    rotate_left
    ·rw [if_neg c33] at H
     obtain ⟨c33b0, c33b1⟩ := eqF c33
     simp only [Option.some.injEq, Prod.mk.injEq] at H
     obtain ⟨rfl, rfl⟩ := H
     go_wp2
     go_ret2
     exact ⟨eA, bE⟩
    rw [if_pos c33] at H
    obtain ⟨c33b0, c33b1⟩ := eqT c33
    clear c33
    replace H := bi H
    obtain ⟨t176, A340, H⟩ := H
    try dsimp only at H
    have A34 := aA_.mk A340
    clear A340
    simp only [Option.some.injEq, Prod.mk.injEq] at H
    obtain ⟨rfl, rfl⟩ := H
    go_wp2_with (first | (refine gl (some 102) Tryz.func102 #[.int .i64 x6_1] ?_; (with_reducible refine (b2_.calls x6_1 t176 _ (gS HG) A34.out).mono ?_); rintro e w35 ⟨rfl, hb⟩; refine ⟨_, rfl, ?_⟩; replace HB := sB hb; (try clear hb)))
    go_ret2
    exact ⟨eA, bE⟩
   rw [if_neg c23] at H
   have c23b0 := dF c23
   clear c23
   by_cases c36 : x6_1 > 57343
   rotate_left
   ·rw [if_neg c36] at H
    have c36b0 := dF c36
    clear c36
    simp only [Option.some.injEq, Prod.mk.injEq] at H
    obtain ⟨rfl, rfl⟩ := H
    go_wp2
    go_ret2
    exact ⟨eA, bE⟩
   rw [if_pos c36] at H
   have c36b0 := dT c36
   clear c36
   by_cases c37 : x6_1 ≥ 32
   ·rw [if_pos c37] at H
    have c37b0 := dT c37
    clear c37
    replace H := bi H
    obtain ⟨t177, A380, H⟩ := H
    try dsimp only at H
    have A38 := aA_.mk A380
    clear A380
    simp only [Option.some.injEq, Prod.mk.injEq] at H
    obtain ⟨rfl, rfl⟩ := H
    go_wp2_with (first | (refine gl (some 102) Tryz.func102 #[.int .i64 x6_1] ?_; (with_reducible refine (b2_.calls x6_1 t177 _ (gS HG) A38.out).mono ?_); rintro e w39 ⟨rfl, hb⟩; refine ⟨_, rfl, ?_⟩; replace HB := sB hb; (try clear hb)))
    go_ret2
    exact ⟨eA, bE⟩
   rw [if_neg c37] at H
   have c37b0 := dF c37
   clear c37
   by_cases c40 : x6_1 = 9
   ·rw [if_pos c40] at H
    obtain ⟨c40b0, c40b1⟩ := eqT c40
    clear c40
    replace H := bi H
    obtain ⟨t178, A410, H⟩ := H
    try dsimp only at H
    have A41 := aA_.mk A410
    clear A410
    simp only [Option.some.injEq, Prod.mk.injEq] at H
    obtain ⟨rfl, rfl⟩ := H
    go_wp2_with (first | (refine gl (some 102) Tryz.func102 #[.int .i64 x6_1] ?_; (with_reducible refine (b2_.calls x6_1 t178 _ (gS HG) A41.out).mono ?_); rintro e w42 ⟨rfl, hb⟩; refine ⟨_, rfl, ?_⟩; replace HB := sB hb; (try clear hb)))
    go_ret2
    exact ⟨eA, bE⟩
   rw [if_neg c40] at H
   obtain ⟨c40b0, c40b1⟩ := eqF c40
   by_cases c43 : x6_1 = 10
   ·rw [if_pos c43] at H
    obtain ⟨c43b0, c43b1⟩ := eqT c43
    clear c43
    replace H := bi H
    obtain ⟨t179, A440, H⟩ := H
    try dsimp only at H
    have A44 := aA_.mk A440
    clear A440
    simp only [Option.some.injEq, Prod.mk.injEq] at H
    obtain ⟨rfl, rfl⟩ := H
    go_wp2_with (first | (refine gl (some 102) Tryz.func102 #[.int .i64 x6_1] ?_; (with_reducible refine (b2_.calls x6_1 t179 _ (gS HG) A44.out).mono ?_); rintro e w45 ⟨rfl, hb⟩; refine ⟨_, rfl, ?_⟩; replace HB := sB hb; (try clear hb)))
    go_ret2
    exact ⟨eA, bE⟩
   rw [if_neg c43] at H
   obtain ⟨c43b0, c43b1⟩ := eqF c43
   by_cases c46 : x6_1 = 13
   rotate_left
   ·rw [if_neg c46] at H
    obtain ⟨c46b0, c46b1⟩ := eqF c46
    simp only [Option.some.injEq, Prod.mk.injEq] at H
    obtain ⟨rfl, rfl⟩ := H
    go_wp2
    go_ret2
    exact ⟨eA, bE⟩
   rw [if_pos c46] at H
   obtain ⟨c46b0, c46b1⟩ := eqT c46
   clear c46
   replace H := bi H
   obtain ⟨t180, A470, H⟩ := H
   try dsimp only at H
   have A47 := aA_.mk A470
   clear A470
   simp only [Option.some.injEq, Prod.mk.injEq] at H
   obtain ⟨rfl, rfl⟩ := H
   go_wp2_with (first | (refine gl (some 102) Tryz.func102 #[.int .i64 x6_1] ?_; (with_reducible refine (b2_.calls x6_1 t180 _ (gS HG) A47.out).mono ?_); rintro e w48 ⟨rfl, hb⟩; refine ⟨_, rfl, ?_⟩; replace HB := sB hb; (try clear hb)))
   go_ret2
   exact ⟨eA, bE⟩
  rw [if_pos c3] at H
  have c3b0 := dT c3
  clear c3
  obtain ⟨c4, H⟩ := gp H
  have c4b0 := dT c4
  clear c4
  replace H := bi H
  obtain ⟨t181, A60, H⟩ := H
  try dsimp only at H
  have A6 := aA_.mk A60
  clear A60
  by_cases c7 : t181 = true
  ·subst c7
   replace H : (if (((bt a0 x7_1) - 48) % 256) < 0 then (some ((⟨#[]⟩ : ByteArray), false)) else (aN_.l0 k1 a0 a1 (wrap64 ((wrap64 (x6_1 * a1)) + (((bt a0 x7_1) - 48) % 256))) (wrap64 (x7_1 + 1)))) = some (r1, r2) := by rw [if_pos rfl] at H; exact H
   by_cases c8 : (((bt a0 x7_1) - 48) % 256) < 0
   ·rw [if_pos c8] at H
    have c8b0 := dT c8
    clear c8
    simp only [Option.some.injEq, Prod.mk.injEq] at H
    obtain ⟨rfl, rfl⟩ := H
    have p5 : 0 ≤ (x7_1 : Int) := dA
    have q5 : x7_1 < (a0.size : Int) := dA
    have hx5 := dP_ a0 x7_1
    replace p5 := eq_true p5
    replace q5 := eq_true q5
    go_wp2_with (first | (refine gl (some 22) Tryz.func101 #[.int .u8 (bt a0 x7_1)] ?_; (with_reducible refine (b9_.calls (bt a0 x7_1) true _ (gS HG) A6.out).mono ?_); rintro e w' ⟨rfl, ⟨nd, rfl⟩⟩; refine ⟨_, rfl, ?_⟩))
    go_ret2
    exact ⟨eA, bE⟩
   rw [if_neg c8] at H
   have c8b0 := dF c8
   clear c8
   have H' := aA_.mk H
   clear H
   have p5 : 0 ≤ (x7_1 : Int) := dA
   have q5 : x7_1 < (a0.size : Int) := dA
   have hx5 := dP_ a0 x7_1
   replace p5 := eq_true p5
   replace q5 := eq_true q5
   go_wp2_with (first | (refine gl (some 22) Tryz.func101 #[.int .u8 (bt a0 x7_1)] ?_; (with_reducible refine (b9_.calls (bt a0 x7_1) true _ (gS HG) A6.out).mono ?_); rintro e w' ⟨rfl, ⟨nd, rfl⟩⟩; refine ⟨_, rfl, ?_⟩))
   go_roundg k1
   case measure => have := HK1.out; omega
   case rel => exact ⟨(wrap64 ((wrap64 (x6_1 * a1)) + (((bt a0 x7_1) - 48) % 256))), (wrap64 (x7_1 + 1)), cA, cA, H', ⟨by have := HK1.out; omega⟩, ⟨bE⟩⟩
  replace c7 := Bool.eq_false_iff.mpr c7
  subst c7
  replace H : (if a1 = 16 then (if (bt a0 x7_1) ≥ 97 then (aN_.j1 k1 a0 a1 x6_1 x7_1 (bt a0 x7_1) (-1) (decide ((bt a0 x7_1) ≤ 102))) else (aN_.j1 k1 a0 a1 x6_1 x7_1 (bt a0 x7_1) (-1) false)) else (aN_.j1 k1 a0 a1 x6_1 x7_1 (bt a0 x7_1) (-1) false)) = some (r1, r2) := by rw [if_neg nF] at H; exact H
  have HC9 := aA_.mk H
  clear H
  have p5 : 0 ≤ (x7_1 : Int) := dA
  have q5 : x7_1 < (a0.size : Int) := dA
  have hx5 := dP_ a0 x7_1
  replace p5 := eq_true p5
  replace q5 := eq_true q5
  go_upto_region 8 with (first | (refine gl (some 22) Tryz.func101 #[.int .u8 (bt a0 x7_1)] ?_; (with_reducible refine (b9_.calls (bt a0 x7_1) false _ (gS HG) A6.out).mono ?_); rintro e w' ⟨rfl, ⟨nd, rfl⟩⟩; refine ⟨_, rfl, ?_⟩))
  (try simp only [Act.put, List.setIfInBounds_toArray, List.set_cons_zero, List.set_cons_succ])
  go_cut [26] (fun v26 wc => ∃ (kq : Nat) (x26_8 : Bool), v26 = .bool x26_8 ∧ aA_ (aN_.j1 kq a0 a1 x6_1 x7_1 (bt a0 x7_1) (-1) x26_8 = some (r1, r2)) ∧ aA_ (kq ≤ k1) ∧ aA_ (Below w.heap.size w wc))
  case first =>
   have H := HC9.out
   clear HC9
   by_cases c10 : a1 = 16
   rotate_left
   ·rw [if_neg c10] at H
    obtain ⟨c10b0, c10b1⟩ := eqF c10
    (first | rw [c10b0] | (simp only [c6_, dY_]; rw [c10b0]) | skip)
    have H' := aA_.mk H
    clear H
    go_wp2
    go_meet
    case rel => exact ⟨_, (false), cA, H', ⟨by have := HK1.out; first | omega | exact Nat.le_refl _⟩, ⟨bE⟩⟩
   rw [if_pos c10] at H
   obtain ⟨c10b0, c10b1⟩ := eqT c10
   clear c10
   (first | rw [c10b0] | (simp only [c6_, dY_]; rw [c10b0]) | skip)
   by_cases c11 : (bt a0 x7_1) ≥ 97
   rotate_left
   ·rw [if_neg c11] at H
    have c11b0 := dF c11
    clear c11
    have H' := aA_.mk H
    clear H
    go_wp2
    go_meet
    case rel => exact ⟨_, (false), cA, H', ⟨by have := HK1.out; first | omega | exact Nat.le_refl _⟩, ⟨bE⟩⟩
   rw [if_pos c11] at H
   have c11b0 := dT c11
   clear c11
   have H' := aA_.mk H
   clear H
   go_wp2
   go_meet
   case rel => exact ⟨_, (decide ((bt a0 x7_1) ≤ 102)), cA, H', ⟨by have := HK1.out; first | omega | exact Nat.le_refl _⟩, ⟨bE⟩⟩
  clear HC9
  try clear c1
  try clear p2
  try clear c3
  try clear c3b0
  try clear c4
  try clear c4b0
  try clear p5
  try clear q5
  try clear hx5
  try clear p6
  try clear c7
  try clear c8
  try clear c8b0
  try clear c9
  try clear c10
  try clear c10b0
  try clear c10b1
  try clear c11
  try clear c11b0
  try clear p2
  try clear p5
  try clear q5
  obtain ⟨kq, x26_8, rfl, HA, HJ8, HB⟩ := hcut
  cases kq with
  | zero => exact absurd HA.out (by simp [aN_.j1])
  | succ kj8 =>
   have H := HA.out
   clear HA
   simp only [aN_.j1] at H
   by_cases c12 : x26_8 = true
   ·subst c12
    replace H : (if ((((bt a0 x7_1) - 97) % 256) + 10) < 0 then (some ((⟨#[]⟩ : ByteArray), false)) else (aN_.l0 kj8 a0 a1 (wrap64 ((wrap64 (x6_1 * a1)) + ((((bt a0 x7_1) - 97) % 256) + 10))) (wrap64 (x7_1 + 1)))) = some (r1, r2) := by rw [if_pos rfl] at H; exact H
    by_cases c13 : ((((bt a0 x7_1) - 97) % 256) + 10) < 0
    ·rw [if_pos c13] at H
     have c13b0 := dT c13
     clear c13
     simp only [Option.some.injEq, Prod.mk.injEq] at H
     obtain ⟨rfl, rfl⟩ := H
     go_wp2
     go_ret2
     exact ⟨eA, bE⟩
    rw [if_neg c13] at H
    have c13b0 := dF c13
    clear c13
    have H' := aA_.mk H
    clear H
    go_wp2
    go_roundg kj8
    case measure => have := HK1.out; have := HJ8.out; omega
    case rel => exact ⟨(wrap64 ((wrap64 (x6_1 * a1)) + ((((bt a0 x7_1) - 97) % 256) + 10))), (wrap64 (x7_1 + 1)), cA, cA, H', ⟨by have := HK1.out; have := HJ8.out; omega⟩, ⟨bE⟩⟩
   replace c12 := Bool.eq_false_iff.mpr c12
   subst c12
   replace H : (if a1 = 16 then (if (bt a0 x7_1) ≥ 65 then (aN_.j2 kj8 a0 a1 x6_1 x7_1 (bt a0 x7_1) (-1) (decide ((bt a0 x7_1) ≤ 70))) else (aN_.j2 kj8 a0 a1 x6_1 x7_1 (bt a0 x7_1) (-1) false)) else (aN_.j2 kj8 a0 a1 x6_1 x7_1 (bt a0 x7_1) (-1) false)) = some (r1, r2) := by rw [if_neg nF] at H; exact H
   have HC14 := aA_.mk H
   clear H
   go_upto_region 10 with (fail)
   go_cut [41] (fun v41 wc => ∃ (kq : Nat) (x41_13 : Bool), v41 = .bool x41_13 ∧ aA_ (aN_.j2 kq a0 a1 x6_1 x7_1 (bt a0 x7_1) (-1) x41_13 = some (r1, r2)) ∧ aA_ (kq ≤ kj8) ∧ aA_ (Below w.heap.size w wc))
   case first =>
    have H := HC14.out
    clear HC14
    by_cases c15 : a1 = 16
    rotate_left
    ·rw [if_neg c15] at H
     obtain ⟨c15b0, c15b1⟩ := eqF c15
     (first | rw [c15b0] | (simp only [c6_, dY_]; rw [c15b0]) | skip)
     have H' := aA_.mk H
     clear H
     go_wp2
     go_meet
     case rel => exact ⟨_, (false), cA, H', ⟨by have := HK1.out; have := HJ8.out; first | omega | exact Nat.le_refl _⟩, ⟨bE⟩⟩
    rw [if_pos c15] at H
    obtain ⟨c15b0, c15b1⟩ := eqT c15
    clear c15
    (first | rw [c15b0] | (simp only [c6_, dY_]; rw [c15b0]) | skip)
    by_cases c16 : (bt a0 x7_1) ≥ 65
    rotate_left
    ·rw [if_neg c16] at H
     have c16b0 := dF c16
     clear c16
     have H' := aA_.mk H
     clear H
     go_wp2
     go_meet
     case rel => exact ⟨_, (false), cA, H', ⟨by have := HK1.out; have := HJ8.out; first | omega | exact Nat.le_refl _⟩, ⟨bE⟩⟩
    rw [if_pos c16] at H
    have c16b0 := dT c16
    clear c16
    have H' := aA_.mk H
    clear H
    go_wp2
    go_meet
    case rel => exact ⟨_, (decide ((bt a0 x7_1) ≤ 70)), cA, H', ⟨by have := HK1.out; have := HJ8.out; first | omega | exact Nat.le_refl _⟩, ⟨bE⟩⟩
   clear HC14
   try clear c1
   try clear p2
   try clear c3
   try clear c3b0
   try clear c4
   try clear c4b0
   try clear p5
   try clear q5
   try clear hx5
   try clear p6
   try clear c7
   try clear c8
   try clear c8b0
   try clear c9
   try clear c10
   try clear c10b0
   try clear c10b1
   try clear c11
   try clear c11b0
   try clear c12
   try clear c13
   try clear c13b0
   try clear c15
   try clear c15b0
   try clear c15b1
   try clear c16
   try clear c16b0
   try clear p2
   try clear p5
   try clear p6
   try clear q5
   obtain ⟨kq, x41_13, rfl, HA, HJ13, HB⟩ := hcut
   cases kq with
   | zero => exact absurd HA.out (by simp [aN_.j2])
   | succ kj13 =>
    have H := HA.out
    clear HA
    simp only [aN_.j2] at H
    by_cases c17 : x41_13 = true
    rotate_left
    ·replace c17 := Bool.eq_false_iff.mpr c17
     subst c17
     replace H : (if (-1) < 0 then (some ((⟨#[]⟩ : ByteArray), false)) else (aN_.l0 kj13 a0 a1 (wrap64 ((wrap64 (x6_1 * a1)) + (-1))) (wrap64 (x7_1 + 1)))) = some (r1, r2) := by rw [if_neg nF] at H; exact H
     by_cases c19 : (-1) < 0
     rotate_left
     ·exact absurd (show ((-1 : Int) < 0) by decide) c19
     rw [if_pos c19] at H
     have c19b0 := dT c19
     clear c19
     simp only [Option.some.injEq, Prod.mk.injEq] at H
     obtain ⟨rfl, rfl⟩ := H
     go_wp2
     go_ret2
     exact ⟨eA, bE⟩
    subst c17
    replace H : (if ((((bt a0 x7_1) - 65) % 256) + 10) < 0 then (some ((⟨#[]⟩ : ByteArray), false)) else (aN_.l0 kj13 a0 a1 (wrap64 ((wrap64 (x6_1 * a1)) + ((((bt a0 x7_1) - 65) % 256) + 10))) (wrap64 (x7_1 + 1)))) = some (r1, r2) := by rw [if_pos rfl] at H; exact H
    by_cases c18 : ((((bt a0 x7_1) - 65) % 256) + 10) < 0
    ·rw [if_pos c18] at H
     have c18b0 := dT c18
     clear c18
     simp only [Option.some.injEq, Prod.mk.injEq] at H
     obtain ⟨rfl, rfl⟩ := H
     go_wp2
     go_ret2
     exact ⟨eA, bE⟩
    rw [if_neg c18] at H
    have c18b0 := dF c18
    clear c18
    have H' := aA_.mk H
    clear H
    go_wp2
    go_roundg kj13
    case measure => have := HK1.out; have := HJ8.out; have := HJ13.out; omega
    case rel => exact ⟨(wrap64 ((wrap64 (x6_1 * a1)) + ((((bt a0 x7_1) - 65) % 256) + 10))), (wrap64 (x7_1 + 1)), cA, cA, H', ⟨by have := HK1.out; have := HJ8.out; have := HJ13.out; omega⟩, ⟨bE⟩⟩
def b0_.f (k : Nat) (a0 : ByteArray) : Option (ByteArray × Bool) := if a0.toList = ([108, 116] : List UInt8) then (some ((⟨#[60]⟩ : ByteArray), true)) else (if a0.toList = ([103, 116] : List UInt8) then (some ((⟨#[62]⟩ : ByteArray), true)) else (if a0.toList = ([97, 109, 112] : List UInt8) then (some ((⟨#[38]⟩ : ByteArray), true)) else (if a0.toList = ([113, 117, 111, 116] : List UInt8) then (some ((⟨#[34]⟩ : ByteArray), true)) else (if a0.toList = ([97, 112, 111, 115] : List UInt8) then (some ((⟨#[39]⟩ : ByteArray), true)) else ((aK_.f a0 (⟨#[35, 120]⟩ : ByteArray) 0).bind fun t182 => (if t182 = true then (if 2 ≤ (a0.size : Int) then ((aN_.f k (a0.extract 2 a0.size) 16).bind fun bt183 => (some (bt183.1, bt183.2))) else (none)) else ((aK_.f a0 (⟨#[35]⟩ : ByteArray) 0).bind fun t185 => (if t185 = true then (if 1 ≤ (a0.size : Int) then ((aN_.f k (a0.extract 1 a0.size) 10).bind fun bt186 => (some (bt186.1, bt186.2))) else (none)) else (some ((⟨#[]⟩ : ByteArray), false))))))))))
theorem b0_.mono : ∀ a0 k, LeO (b0_.f k a0) (b0_.f (k + 1) a0) := by
 intro a0 k
 unfold b0_.f
 have m0 := @aN_.mono
 exact mo
theorem b0_.calls (k : Nat) (a0 : ByteArray) (r1 : ByteArray) (r2 : Bool) (w : World) (hG : Glob w) (h : b0_.f k a0 = some (r1, r2)) :
 Calls Tryz.prog 77 #[.string a0] w fun e w' => e = .returned (.tuple #[.string r1, .bool r2]) ∧ Below w.heap.size w w' := by
 have HG := aA_.mk hG
 clear hG
 have HB := aA_.mk (Below.refl w.heap.size w)
 have H : (if a0.toList = ([108, 116] : List UInt8) then (some ((⟨#[60]⟩ : ByteArray), true)) else (if a0.toList = ([103, 116] : List UInt8) then (some ((⟨#[62]⟩ : ByteArray), true)) else (if a0.toList = ([97, 109, 112] : List UInt8) then (some ((⟨#[38]⟩ : ByteArray), true)) else (if a0.toList = ([113, 117, 111, 116] : List UInt8) then (some ((⟨#[34]⟩ : ByteArray), true)) else (if a0.toList = ([97, 112, 111, 115] : List UInt8) then (some ((⟨#[39]⟩ : ByteArray), true)) else ((aK_.f a0 (⟨#[35, 120]⟩ : ByteArray) 0).bind fun t182 => (if t182 = true then (if 2 ≤ (a0.size : Int) then ((aN_.f k (a0.extract 2 a0.size) 16).bind fun bt183 => (some (bt183.1, bt183.2))) else (none)) else ((aK_.f a0 (⟨#[35]⟩ : ByteArray) 0).bind fun t185 => (if t185 = true then (if 1 ≤ (a0.size : Int) then ((aN_.f k (a0.extract 1 a0.size) 10).bind fun bt186 => (some (bt186.1, bt186.2))) else (none)) else (some ((⟨#[]⟩ : ByteArray), false))))))))))) = some (r1, r2) := h
 clear h
 by_cases c2 : a0.toList = ([108, 116] : List UInt8)
 ·rw [if_pos c2] at H
  obtain ⟨c2b0, c2b1⟩ := eqT c2
  clear c2
  simp only [Option.some.injEq, Prod.mk.injEq] at H
  obtain ⟨rfl, rfl⟩ := H
  go_enter Tryz.func77, Tryz.ntmps77
  go_wp2
  go_ret2
  exact ⟨eA, bE⟩
 rw [if_neg c2] at H
 obtain ⟨c2b0, c2b1⟩ := eqF c2
 by_cases c3 : a0.toList = ([103, 116] : List UInt8)
 ·rw [if_pos c3] at H
  obtain ⟨c3b0, c3b1⟩ := eqT c3
  clear c3
  simp only [Option.some.injEq, Prod.mk.injEq] at H
  obtain ⟨rfl, rfl⟩ := H
  go_enter Tryz.func77, Tryz.ntmps77
  go_wp2
  go_ret2
  exact ⟨eA, bE⟩
 rw [if_neg c3] at H
 obtain ⟨c3b0, c3b1⟩ := eqF c3
 by_cases c4 : a0.toList = ([97, 109, 112] : List UInt8)
 ·rw [if_pos c4] at H
  obtain ⟨c4b0, c4b1⟩ := eqT c4
  clear c4
  simp only [Option.some.injEq, Prod.mk.injEq] at H
  obtain ⟨rfl, rfl⟩ := H
  go_enter Tryz.func77, Tryz.ntmps77
  go_wp2
  go_ret2
  exact ⟨eA, bE⟩
 rw [if_neg c4] at H
 obtain ⟨c4b0, c4b1⟩ := eqF c4
 by_cases c5 : a0.toList = ([113, 117, 111, 116] : List UInt8)
 ·rw [if_pos c5] at H
  obtain ⟨c5b0, c5b1⟩ := eqT c5
  clear c5
  simp only [Option.some.injEq, Prod.mk.injEq] at H
  obtain ⟨rfl, rfl⟩ := H
  go_enter Tryz.func77, Tryz.ntmps77
  go_wp2
  go_ret2
  exact ⟨eA, bE⟩
 rw [if_neg c5] at H
 obtain ⟨c5b0, c5b1⟩ := eqF c5
 by_cases c6 : a0.toList = ([97, 112, 111, 115] : List UInt8)
 ·rw [if_pos c6] at H
  obtain ⟨c6b0, c6b1⟩ := eqT c6
  clear c6
  simp only [Option.some.injEq, Prod.mk.injEq] at H
  obtain ⟨rfl, rfl⟩ := H
  go_enter Tryz.func77, Tryz.ntmps77
  go_wp2
  go_ret2
  exact ⟨eA, bE⟩
 rw [if_neg c6] at H
 obtain ⟨c6b0, c6b1⟩ := eqF c6
 replace H := bi H
 obtain ⟨t182, A70, H⟩ := H
 try dsimp only at H
 have A7 := aA_.mk A70
 clear A70
 by_cases c8 : t182 = true
 ·subst c8
  replace H : (if 2 ≤ (a0.size : Int) then ((aN_.f k (a0.extract 2 a0.size) 16).bind fun bt183 => (some (bt183.1, bt183.2))) else (none)) = some (r1, r2) := by rw [if_pos rfl] at H; exact H
  obtain ⟨c9, H⟩ := gp H
  have c9b0 := eq_true c9
  have c9b1 := dT c9
  clear c9
  replace H := bi H
  obtain ⟨⟨t183, t184⟩, A100, H⟩ := H
  try dsimp only at H
  have A10 := aA_.mk A100
  clear A100
  simp only [Option.some.injEq, Prod.mk.injEq] at H
  obtain ⟨rfl, rfl⟩ := H
  go_enter Tryz.func77, Tryz.ntmps77
  go_wp2_with (first | (refine gl (some 16) Tryz.func54 #[.string a0, .string (⟨#[35, 120]⟩ : ByteArray), .int .i64 0] ?_; (with_reducible refine (aK_.calls a0 (⟨#[35, 120]⟩ : ByteArray) 0 true _ (gS HG) A7.out).mono ?_); rintro e w' ⟨rfl, ⟨nd, rfl⟩⟩; refine ⟨_, rfl, ?_⟩) | (refine gl (some 19) Tryz.func90 #[.string (a0.extract 2 a0.size), .int .i64 16] ?_; (with_reducible refine (aN_.calls k (a0.extract 2 a0.size) 16 t183 t184 _ (gS HG) A10.out).mono ?_); rintro e w11 ⟨rfl, hb⟩; refine ⟨_, rfl, ?_⟩; replace HB := sB hb; (try clear hb)))
  go_ret2
  exact ⟨eA, bE⟩
 replace c8 := Bool.eq_false_iff.mpr c8
 subst c8
 replace H : ((aK_.f a0 (⟨#[35]⟩ : ByteArray) 0).bind fun t185 => (if t185 = true then (if 1 ≤ (a0.size : Int) then ((aN_.f k (a0.extract 1 a0.size) 10).bind fun bt186 => (some (bt186.1, bt186.2))) else (none)) else (some ((⟨#[]⟩ : ByteArray), false)))) = some (r1, r2) := by rw [if_neg nF] at H; exact H
 replace H := bi H
 obtain ⟨t185, A120, H⟩ := H
 try dsimp only at H
 have A12 := aA_.mk A120
 clear A120
 by_cases c13 : t185 = true
 rotate_left
 ·replace c13 := Bool.eq_false_iff.mpr c13
  subst c13
  replace H : (some ((⟨#[]⟩ : ByteArray), false)) = some (r1, r2) := by rw [if_neg nF] at H; exact H
  simp only [Option.some.injEq, Prod.mk.injEq] at H
  obtain ⟨rfl, rfl⟩ := H
  go_enter Tryz.func77, Tryz.ntmps77
  go_wp2_with (first | (refine gl (some 16) Tryz.func54 #[.string a0, .string (⟨#[35, 120]⟩ : ByteArray), .int .i64 0] ?_; (with_reducible refine (aK_.calls a0 (⟨#[35, 120]⟩ : ByteArray) 0 false _ (gS HG) A7.out).mono ?_); rintro e w' ⟨rfl, ⟨nd, rfl⟩⟩; refine ⟨_, rfl, ?_⟩) | (refine gl (some 23) Tryz.func54 #[.string a0, .string (⟨#[35]⟩ : ByteArray), .int .i64 0] ?_; (with_reducible refine (aK_.calls a0 (⟨#[35]⟩ : ByteArray) 0 false _ (gS HG) A12.out).mono ?_); rintro e w' ⟨rfl, ⟨nd, rfl⟩⟩; refine ⟨_, rfl, ?_⟩))
  go_ret2
  exact ⟨eA, bE⟩
 subst c13
 replace H : (if 1 ≤ (a0.size : Int) then ((aN_.f k (a0.extract 1 a0.size) 10).bind fun bt186 => (some (bt186.1, bt186.2))) else (none)) = some (r1, r2) := by rw [if_pos rfl] at H; exact H
 obtain ⟨c14, H⟩ := gp H
 have c14b0 := eq_true c14
 have c14b1 := dT c14
 clear c14
 replace H := bi H
 obtain ⟨⟨t186, t187⟩, A150, H⟩ := H
 try dsimp only at H
 have A15 := aA_.mk A150
 clear A150
 simp only [Option.some.injEq, Prod.mk.injEq] at H
 obtain ⟨rfl, rfl⟩ := H
 go_enter Tryz.func77, Tryz.ntmps77
 go_wp2_with (first | (refine gl (some 16) Tryz.func54 #[.string a0, .string (⟨#[35, 120]⟩ : ByteArray), .int .i64 0] ?_; (with_reducible refine (aK_.calls a0 (⟨#[35, 120]⟩ : ByteArray) 0 false _ (gS HG) A7.out).mono ?_); rintro e w' ⟨rfl, ⟨nd, rfl⟩⟩; refine ⟨_, rfl, ?_⟩) | (refine gl (some 23) Tryz.func54 #[.string a0, .string (⟨#[35]⟩ : ByteArray), .int .i64 0] ?_; (with_reducible refine (aK_.calls a0 (⟨#[35]⟩ : ByteArray) 0 true _ (gS HG) A12.out).mono ?_); rintro e w' ⟨rfl, ⟨nd, rfl⟩⟩; refine ⟨_, rfl, ?_⟩) | (refine gl (some 26) Tryz.func90 #[.string (a0.extract 1 a0.size), .int .i64 10] ?_; (with_reducible refine (aN_.calls k (a0.extract 1 a0.size) 10 t186 t187 _ (gS HG) A15.out).mono ?_); rintro e w16 ⟨rfl, hb⟩; refine ⟨_, rfl, ?_⟩; replace HB := sB hb; (try clear hb)))
 go_ret2
 exact ⟨eA, bE⟩
def aU_.l0 : Nat → ByteArray → List Int → Int → Option (ByteArray × Int)
 | 0, _, _, _ => none
 | k + 1, x0, x4, x5 => if x5 < (x0.size : Int) then (if 0 ≤ x5 then (if (bt x0 x5) = 38 then ((aW_.f k x0 (⟨#[59]⟩ : ByteArray) x5).bind fun t191 => (if t191 < 0 then (some ((⟨#[]⟩ : ByteArray), 5)) else (if 0 ≤ (wrap64 (x5 + 1)) then (if (wrap64 (x5 + 1)) ≤ t191 then (if t191 ≤ (x0.size : Int) then ((b0_.f k (x0.extract ((wrap64 (x5 + 1)) : Int).toNat (t191 : Int).toNat)).bind fun bt192 => (if bt192.2 = true then (if x4.length + bt192.1.size < 140737488355328 then (aU_.l0 k x0 (x4 ++ dE_ bt192.1) (wrap64 (t191 + 1))) else (none)) else (some ((⟨#[]⟩ : ByteArray), 5)))) else (none)) else (none)) else (none)))) else (if x4.length < 140737488355328 then (aU_.l0 k x0 (x4 ++ [bt x0 x5]) (wrap64 (x5 + 1))) else (none))) else (none)) else (some (strOfNums x4, 0))
def aU_.f (k : Nat) (a0 : ByteArray) : Option (ByteArray × Int) := aU_.l0 k a0 ([] : List Int) 0
theorem aU_.mono_l : ∀ k, (∀ y0 y1 y2, LeO (aU_.l0 k y0 y1 y2) (aU_.l0 (k + 1) y0 y1 y2))
 | 0 => fun _ _ _ r h => by simp [aU_.l0] at h
 | k + 1 => by
  have ih0 := aU_.mono_l k
  ·intro y0 y1 y2
   unfold aU_.l0
   have m0 := @b0_.mono
   have m1 := @aW_.mono
   exact mo
theorem aU_.mono : ∀ a0 k, LeO (aU_.f k a0) (aU_.f (k + 1) a0) := by
 intro a0 k
 have ih0 := aU_.mono_l k
 unfold aU_.f
 have m0 := @b0_.mono
 have m1 := @aW_.mono
 exact mo
theorem aU_.calls (k : Nat) (a0 : ByteArray) (r1 : ByteArray) (r2 : Int) (w : World) (hG : Glob w) (h : aU_.f k a0 = some (r1, r2)) :
 Calls Tryz.prog 60 #[.string a0] w fun e w' => e = .returned (.tuple #[.string r1, .int .i64 r2]) ∧ Below w.heap.size w w' := by
 have HG := aA_.mk hG
 clear hG
 have HB := aA_.mk (Below.refl w.heap.size w)
 have H : (aU_.l0 k a0 ([] : List Int) 0) = some (r1, r2) := h
 clear h
 have H' := aA_.mk H
 clear H
 go_enter Tryz.func60, Tryz.ntmps60
 go_wp2
 go_loopg [4, 5] k (fun kq v4 v5 w' => ∃ (x4_1 : List Int) (x5_1 : Int), v5 = .int .i64 x5_1 ∧ aA_ (aU_.l0 kq a0 x4_1 x5_1 = some (r1, r2)) ∧ aA_ (kq ≤ k) ∧ aA_ (Kd.R (Kd.int .u8) 5 w' w.heap.size (fun _ => True) v4 x4_1) ∧ aA_ (Below w.heap.size w w'))
 case atStart => exact ⟨(([] : List Int)), (0), cA, H', ⟨Nat.le_refl _⟩, ⟨by first | exact Kd.R_nil _ _ _ _ _ | exact Kd.N_nil _ _ _ _ _ | exact Kd.V_nil _ _ _ _ _ | exact Kd.Q_nil _ _ _ _ _ | exact Kd.S_nil _ _ _ _ _⟩, ⟨bE⟩⟩
 clear H'
 obtain ⟨x4_1, x5_1, rfl, HA, HK1, HO_4, HB⟩ := hrel
 cases gk with
 | zero => exact absurd HA.out (by simp [aU_.l0])
 | succ k1 =>
  have H := HA.out
  clear HA
  simp only [aU_.l0] at H
  by_cases c2 : x5_1 < (a0.size : Int)
  rotate_left
  ·rw [if_neg c2] at H
   have c2b0 := dF c2
   clear c2
   simp only [Option.some.injEq, Prod.mk.injEq] at H
   obtain ⟨rfl, rfl⟩ := H
   have hcv21 := own_string (P := Tryz.prog) Tryz.underlying57 Tryz.underlying5 Tryz.underlying9 (Kd.own_of_R HO_4.out)
   go_wp2
   go_ret2
   exact ⟨eA, bE⟩
  rw [if_pos c2] at H
  have c2b0 := dT c2
  clear c2
  obtain ⟨c3, H⟩ := gp H
  have c3b0 := dT c3
  clear c3
  by_cases c5 : (bt a0 x5_1) = 38
  rotate_left
  ·rw [if_neg c5] at H
   obtain ⟨c5b0, c5b1⟩ := eqF c5
   obtain ⟨c19, H⟩ := gp H
   have LMc19 := aA_.mk c19
   clear c19
   obtain ⟨y188, hy188⟩ : ∃ y_ : List Int, y_ = (x4_1 ++ [bt a0 x5_1]) := ⟨_, rfl⟩
   replace H : (aU_.l0 k1 a0 y188 (wrap64 (x5_1 + 1))) = some (r1, r2) := by first | (rw [hy188]; with_reducible exact H) | (have H2_ := (Option.bind_some _ _).symm.trans H; rw [hy188]; with_reducible exact H2_) | (have H2_ := (Option.bind_some _ _).symm.trans H; with_reducible exact H2_) | with_reducible exact H | (rw [hy188]; exact H) | exact H
   have Ny188 := aA_.mk hy188
   clear hy188
   have H' := aA_.mk H
   clear H
   have p4 : 0 ≤ (x5_1 : Int) := dA
   have q4 : x5_1 < (a0.size : Int) := dA
   have hx4 := dP_ a0 x5_1
   replace p4 := eq_true p4
   replace q4 := eq_true q4
   have p18 : 0 ≤ (x5_1 : Int) := dA
   have q18 : x5_1 < (a0.size : Int) := dA
   have hx18 := dP_ a0 x5_1
   replace p18 := eq_true p18
   replace q18 := eq_true q18
   go_wp2_with (first | ((with_reducible refine dZ_ (b := .append) (xs := #[.tmp 19, .tmp 23]) rfl ?_); at_builtin; refine Kd.R_append (Kd.int .u8) (w0 := w) w.heap.size rfl (.tmp 19) (.tmp 23) 57 5 (.int .u8 0) 1 rfl Tryz.underlying57 info5 rfl (by decide) (by omega) u4 x4_1 (bt a0 x5_1) [.int .u8 (bt a0 x5_1)] (fun _ => True) (fun _ => False) rfl rfl ?aP (fun _ hk => hk.elim) ?aF ?aO ?aB ?aS ?aL ?_; (case aP => exact rfl); (case aB => exact bE); (case aF => exact (fun _ _ => trivial)); (case aO => exact (kR HO_4)); (case aS => exact (cA_ bE)); (case aL => have := LMc19.out; omega); intro v189 w20 ho hb hg hat; rw [← Ny188.out] at ho; replace HB := aA_.mk (hb); have HO190 := aA_.mk (ho); clear HO_4; clear ho hb hg hat))
   go_roundg k1
   case measure => have := HK1.out; omega
   case rel => exact ⟨(y188), (wrap64 (x5_1 + 1)), cA, H', ⟨by have := HK1.out; omega⟩, ⟨kR HO190⟩, ⟨bE⟩⟩
  rw [if_pos c5] at H
  obtain ⟨c5b0, c5b1⟩ := eqT c5
  clear c5
  replace H := bi H
  obtain ⟨t191, A60, H⟩ := H
  try dsimp only at H
  have A6 := aA_.mk A60
  clear A60
  by_cases c7 : t191 < 0
  ·rw [if_pos c7] at H
   have c7b0 := dT c7
   clear c7
   simp only [Option.some.injEq, Prod.mk.injEq] at H
   obtain ⟨rfl, rfl⟩ := H
   have p4 : 0 ≤ (x5_1 : Int) := dA
   have q4 : x5_1 < (a0.size : Int) := dA
   have hx4 := dP_ a0 x5_1
   replace p4 := eq_true p4
   replace q4 := eq_true q4
   go_wp2_with (first | (refine gl (some 27) Tryz.func59 #[.string a0, .string (⟨#[59]⟩ : ByteArray), .int .i64 x5_1] ?_; (with_reducible refine (aW_.calls k1 a0 (⟨#[59]⟩ : ByteArray) x5_1 t191 _ (gS HG) A6.out).mono ?_); rintro e w' ⟨rfl, ⟨nd, rfl⟩⟩; refine ⟨_, rfl, ?_⟩))
   go_ret2
   exact ⟨eA, bE⟩
  rw [if_neg c7] at H
  have c7b0 := dF c7
  clear c7
  obtain ⟨ji8, hji8⟩ : ∃ j_ : Int, (wrap64 (x5_1 + 1)) = j_ := ⟨_, rfl⟩
  rw [hji8] at H
  (try rw [hji8] at A6)
  have hji8w : (IntKind.i64.wrap (x5_1 + 1)) = ji8 := (c6_ _).trans hji8
  obtain ⟨c9, H⟩ := gp H
  have c9b0 := eq_true c9
  have c9b1 := dT c9
  clear c9
  obtain ⟨c10, H⟩ := gp H
  have c10b0 := eq_true c10
  have c10b1 := dT c10
  clear c10
  obtain ⟨c11, H⟩ := gp H
  have c11b0 := eq_true c11
  have c11b1 := dT c11
  clear c11
  replace H := bi H
  obtain ⟨⟨t192, t193⟩, A120, H⟩ := H
  try dsimp only at H
  have A12 := aA_.mk A120
  clear A120
  by_cases c13 : t193 = true
  rotate_left
  ·replace c13 := Bool.eq_false_iff.mpr c13
   subst c13
   replace H : (some ((⟨#[]⟩ : ByteArray), 5)) = some (r1, r2) := by rw [if_neg nF] at H; exact H
   simp only [Option.some.injEq, Prod.mk.injEq] at H
   obtain ⟨rfl, rfl⟩ := H
   have p4 : 0 ≤ (x5_1 : Int) := dA
   have q4 : x5_1 < (a0.size : Int) := dA
   have hx4 := dP_ a0 x5_1
   replace p4 := eq_true p4
   replace q4 := eq_true q4
   go_wp2_with (first | (refine gl (some 27) Tryz.func59 #[.string a0, .string (⟨#[59]⟩ : ByteArray), .int .i64 x5_1] ?_; (with_reducible refine (aW_.calls k1 a0 (⟨#[59]⟩ : ByteArray) x5_1 t191 _ (gS HG) A6.out).mono ?_); rintro e w' ⟨rfl, ⟨nd, rfl⟩⟩; refine ⟨_, rfl, ?_⟩) | ((with_reducible refine gate_callee (f := 77) rfl ?_); refine goesL_ (some 36) rfl rfl Tryz.func77 (by kernel_rfl) rfl #[.string (a0.extract ((ji8) : Int).toNat (t191 : Int).toNat)] rfl (by (try simp only [List.map_toArray, List.map_cons, List.map_nil]); first | done | (simp only [hji8]; rfl) | rfl | (simp only [List.length_drop, List.length_take]; rfl)) ?_; (with_reducible refine (b0_.calls k1 (a0.extract ((ji8) : Int).toNat (t191 : Int).toNat) t192 false _ (gS HG) A12.out).mono ?_); rintro e w17 ⟨rfl, hb⟩; refine ⟨_, rfl, ?_⟩; replace HO_4 := rB HO_4 hb; replace HB := sB hb; (try clear hb)))
   go_ret2
   exact ⟨by first | rfl | (simp [bL_, bK_] <;> rfl) | (simp only [← hji8]; first | rfl | (simp [bL_, bK_] <;> rfl)) | (simp [*, bL_, bK_] <;> rfl), bE⟩
  subst c13
  replace H : (if x4_1.length + t192.size < 140737488355328 then (aU_.l0 k1 a0 (x4_1 ++ dE_ t192) (wrap64 (t191 + 1))) else (none)) = some (r1, r2) := by rw [if_pos rfl] at H; exact H
  obtain ⟨c14, H⟩ := gp H
  have LMc14 := aA_.mk c14
  clear c14
  obtain ⟨y194, hy194⟩ : ∃ y_ : List Int, y_ = (x4_1 ++ dE_ t192) := ⟨_, rfl⟩
  replace H : (aU_.l0 k1 a0 y194 (wrap64 (t191 + 1))) = some (r1, r2) := by first | (rw [hy194]; with_reducible exact H) | (have H2_ := (Option.bind_some _ _).symm.trans H; rw [hy194]; with_reducible exact H2_) | (have H2_ := (Option.bind_some _ _).symm.trans H; with_reducible exact H2_) | with_reducible exact H | (rw [hy194]; exact H) | exact H
  have Ny194 := aA_.mk hy194
  clear hy194
  have H' := aA_.mk H
  clear H
  have p4 : 0 ≤ (x5_1 : Int) := dA
  have q4 : x5_1 < (a0.size : Int) := dA
  have hx4 := dP_ a0 x5_1
  replace p4 := eq_true p4
  replace q4 := eq_true q4
  go_wp2_with (first | (refine gl (some 27) Tryz.func59 #[.string a0, .string (⟨#[59]⟩ : ByteArray), .int .i64 x5_1] ?_; (with_reducible refine (aW_.calls k1 a0 (⟨#[59]⟩ : ByteArray) x5_1 t191 _ (gS HG) A6.out).mono ?_); rintro e w' ⟨rfl, ⟨nd, rfl⟩⟩; refine ⟨_, rfl, ?_⟩) | ((with_reducible refine gate_callee (f := 77) rfl ?_); refine goesL_ (some 36) rfl rfl Tryz.func77 (by kernel_rfl) rfl #[.string (a0.extract ((ji8) : Int).toNat (t191 : Int).toNat)] rfl (by (try simp only [List.map_toArray, List.map_cons, List.map_nil]); first | done | (simp only [hji8]; rfl) | rfl | (simp only [List.length_drop, List.length_take]; rfl)) ?_; (with_reducible refine (b0_.calls k1 (a0.extract ((ji8) : Int).toNat (t191 : Int).toNat) t192 true _ (gS HG) A12.out).mono ?_); rintro e w15 ⟨rfl, hb⟩; refine ⟨_, rfl, ?_⟩; replace HO_4 := rB HO_4 hb; replace HB := sB hb; (try clear hb)) | (at_builtin; refine print_append_str (w0 := w) w.heap.size rfl (.tmp 41) _ 57 9 5 rfl Tryz.underlying57 Tryz.underlying9 info5 u4 x4_1 t192 rfl rfl ?aO ?aB ?aS ?aL ?_; (case aB => exact bE); (case aO => exact (Kd.own_of_R (kR HO_4))); (case aS => exact (cA_ bE)); (case aL => have := LMc14.out; omega); intro v195 w16 ho0 hb hg; have ho := Kd.R_of_own (h1 := fun _ => rfl) (ok := fun _ => True) ho0 (fun _ _ => trivial); clear ho0; have hat := True.intro; rw [← Ny194.out] at ho; change Kd.R (Kd.int .u8) 5 w16 w.heap.size (fun _ => True) v195 y194 at ho; replace HB := aA_.mk (hb); have HO196 := aA_.mk (ho); clear HO_4; clear ho hb hg hat))
  go_roundg k1
  case measure => have := HK1.out; omega
  case rel => exact ⟨(y194), (wrap64 (t191 + 1)), cA, H', ⟨by have := HK1.out; omega⟩, ⟨kR HO196⟩, ⟨bE⟩⟩
def aO_.j0 : Nat → Bool → ByteArray → Int → Option (ByteArray × Bool × ByteArray × Int)
 | 0, _, _, _ => none
 | k + 1, x41, x1000, x1001 => if x41 = true then (some ((⟨#[]⟩ : ByteArray), false, x1000, x1001)) else (if 0 ≤ x1001 then (if x1001 ≤ (wrap64 (x1001 + 1)) then (if (wrap64 (x1001 + 1)) ≤ (x1000.size : Int) then ((a2_.f k x1000 x1001 (wrap64 (x1001 + 1)) (x1000.extract (x1001 : Int).toNat ((wrap64 (x1001 + 1)) : Int).toNat)).bind fun bt197 => (if bt197.2.1 = true then ((aW_.f k bt197.1 (⟨#[60]⟩ : ByteArray) 0).bind fun t201 => (if t201 ≥ 0 then (some ((⟨#[]⟩ : ByteArray), false, bt197.2.2.1, bt197.2.2.2)) else ((aU_.f k bt197.1).bind fun bt202 => (some (bt202.1, (bt202.2 == 0), bt197.2.2.1, bt197.2.2.2))))) else (some ((⟨#[]⟩ : ByteArray), false, bt197.2.2.1, bt197.2.2.2)))) else (none)) else (none)) else (none))
def aO_.f (k : Nat) (s0_0 : ByteArray) (s0_1 : Int) : Option (ByteArray × Bool × ByteArray × Int) := if s0_1 ≥ (s0_0.size : Int) then (aO_.j0 k true s0_0 s0_1) else (if 0 ≤ s0_1 then (if s0_1 < (s0_0.size : Int) then (if (bt s0_0 s0_1) = 34 then (aO_.j0 k false s0_0 s0_1) else (aO_.j0 k ((bt s0_0 s0_1) != 39) s0_0 s0_1)) else (none)) else (none))
theorem aO_.mono_l : ∀ k, (∀ y0 y1 y2, LeO (aO_.j0 k y0 y1 y2) (aO_.j0 (k + 1) y0 y1 y2))
 | 0 => fun _ _ _ r h => by simp [aO_.j0] at h
 | k + 1 => by
  have ih0 := aO_.mono_l k
  ·intro y0 y1 y2
   unfold aO_.j0
   have m0 := @aU_.mono
   have m1 := @aW_.mono
   have m2 := @a2_.mono
   exact mo
theorem aO_.mono : ∀ a0 a1 k, LeO (aO_.f k a0 a1) (aO_.f (k + 1) a0 a1) := by
 intro a0 a1 k
 have ih0 := aO_.mono_l k
 unfold aO_.f
 have m0 := @aU_.mono
 have m1 := @aW_.mono
 have m2 := @a2_.mono
 exact mo
def aO_.T1 : Bool × List (List Nat × List Nat) := (true, [([], []), ([0], [0]), ([1], [1]), ([2], [2]), ([], []), ([4], [4]), ([5], [5]), ([6], [6]), ([7], [7]), ([3, 8], [3, 8]), ([9], [9]), ([10], [10]), ([11, 10], [10, 11]), ([12, 10], [10, 12]), ([13, 10], [10, 13]), ([10], [10]), ([15, 10], [10, 15]), ([16, 10], [10, 16]), ([17, 10], [10, 17]), ([14, 18, 10], [10, 14, 18]), ([19, 10], [10, 19]), ([20, 10, 10], [10, 20]), ([21], [21]), ([22, 21], [21, 22]), ([23, 21], [21, 23]), ([24, 21], [21, 24]), ([21], [21]), ([26, 21], [21, 26]), ([27, 21], [21, 27]), ([28, 21], [21, 28]), ([25, 29, 21], [21, 25, 29]), ([30, 21], [21, 30]), ([21, 31, 10], [10, 21, 31]), ([10, 32], [10, 32])])
def aO_.B1 : List Nat := [0, 1, 3, 7, 0, 16, 48, 112, 240, 511, 1023, 2047, 4095, 8191, 16383, 2047, 34815, 100351, 231423, 524287, 1048575, 2097151, 4194303, 8388607, 16777215, 33554431, 4194303, 71303167, 205520895, 473956351, 1073741823, 2147483647, 4294967295, 8589934591]
theorem aO_.tab1 : rtab .any (opsOf Tryz.f89 1) = aO_.T1 := by kernel_rfl
theorem aO_.bits1 : waitsOk aO_.T1.2 aO_.B1 = true := by kernel_rfl
def aO_.T3 : Bool × List (List Nat × List Nat) := (true, [([], []), ([], []), ([1], [1]), ([2], [2]), ([3], [3]), ([4], [4]), ([], []), ([6], [6]), ([7], [7]), ([8], [8]), ([], []), ([10], [10]), ([11], [11]), ([12], [12]), ([], []), ([14], [14]), ([15], [15]), ([16], [16]), ([17], [17]), ([9, 13, 18], [9, 13, 18]), ([0, 5, 19], [0, 5, 19]), ([20], [20]), ([21], [21]), ([21], [21]), ([22, 20, 0, 1, 2, 3, 4, 5, 6, 7, 8, 9, 10, 11, 12, 13, 14, 15, 16, 17, 18, 19, 20, 21, 22], [22]), ([23, 24, 0, 1, 2, 3, 4, 5, 6, 7, 8, 9, 10, 11, 12, 13, 14, 15, 16, 17, 18, 19, 20, 21, 22, 23, 24], [23])])
def aO_.B3 : List Nat := [0, 0, 2, 6, 14, 30, 0, 64, 192, 448, 0, 1024, 3072, 7168, 0, 16384, 49152, 114688, 245760, 524224, 1048575, 2097151, 4194303, 4194303, 8388607, 33554431]
theorem aO_.tab3 : rtab .any (opsOf Tryz.f89 3) = aO_.T3 := by kernel_rfl
theorem aO_.bits3 : waitsOk aO_.T3.2 aO_.B3 = true := by kernel_rfl
theorem aO_.calls (k : Nat) (g : Nat) (s0_0 : ByteArray) (s0_1 : Int) (r1 : ByteArray) (r2 : Bool) (r3 : ByteArray) (r4 : Int) (w0 w : World) (hI : aD_ w0 w g s0_0 s0_1) (hB : Below w0.heap.size w0 w) (hG : Glob w0) (h : aO_.f k s0_0 s0_1 = some (r1, r2, r3, r4)) :
 Calls Tryz.prog 89 #[.pointer (some ⟨g, 0, none⟩)] w fun e w' => e = .returned (.tuple #[.string r1, .bool r2]) ∧ aD_ w0 w' g r3 r4 ∧ Below w0.heap.size w0 w' ∧ aJ_ w w' g none := by
 have HG := aA_.mk hG
 clear hG
 have HI0 := aA_.mk hI
 have HK := aA_.mk (aJ_.refl w g none)
 have HL := aA_.mk hB.size
 clear hI
 have HW0 := aA_.mk hB.size
 have HB := aA_.mk hB
 clear hB
 have H : (if s0_1 ≥ (s0_0.size : Int) then (aO_.j0 k true s0_0 s0_1) else (if 0 ≤ s0_1 then (if s0_1 < (s0_0.size : Int) then (if (bt s0_0 s0_1) = 34 then (aO_.j0 k false s0_0 s0_1) else (aO_.j0 k ((bt s0_0 s0_1) != 39) s0_0 s0_1)) else (none)) else (none))) = some (r1, r2, r3, r4) := h
 clear h
 have HC2 := aA_.mk H
 clear H
 go_enter Tryz.func89, Tryz.ntmps89
 go_upto_region 1 with (fail)
 go_cut [41] (fun v41 wc => ∃ (kq : Nat) (x41_1 : Bool), v41 = .bool x41_1 ∧ aA_ (aO_.j0 kq x41_1 s0_0 s0_1 = some (r1, r2, r3, r4)) ∧ aA_ (kq ≤ k) ∧ aA_ (aD_ w0 wc g s0_0 s0_1) ∧ aA_ (aJ_ w wc g none) ∧ aA_ (Below w0.heap.size w0 wc))
 case first =>
  have H := HC2.out
  clear HC2
  by_cases c3 : s0_1 ≥ (s0_0.size : Int)
  ·rw [if_pos c3] at H
   have c3b0 := dT c3
   clear c3
   (first | rw [c3b0] | (simp only [c6_, dY_]; rw [c3b0]) | skip)
   have H' := aA_.mk H
   clear H
   try go_wp2
   replace HI0 := aA_.mk (aD_.drew HI0.out)
   replace HK := aA_.mk (aM_ HK.out)
   replace HB := aA_.mk (aI_ HB.out)
   refine start_ (n := 34) (S := fun w' => w'.cell? ⟨g, 0, none⟩ = some (.string s0_0) ∧ w'.cell? ⟨g, 1, none⟩ = some (.int .i64 s0_1)) (ds := []) #[false, false, false, false, false, false, false, false, false, false, false, false, false, false, false, false, false, false, false, false, false, false, false, false, false, false, false, false, false, false, false, false, false, false] (by kernel_rfl) rfl rfl ⟨(a9_ HI0.out.1), (bA_ HI0.out.1)⟩ (fun hHeld => ?_); refine cZ_ aO_.tab1 aO_.bits1 (fun HT_ HW_ => ?_)
   generalize w.drew = w4 at HI0 HK HB hHeld ⊢
   refine pz 0 (some 8) HT_ ?_
   refine pz 1 (some 9) HT_ ?_
   refine pz 2 (some 10) HT_ ?_
   refine pz 4 (some 12) HT_ ?_
   refine pz 5 (some 13) HT_ ?_
   refine pz 6 (some 14) HT_ ?_
   refine tm 3 (some 11) HT_ HW_ hHeld ?_
   refine tm 7 (some 15) HT_ HW_ hHeld ?_
   refine pz 8 (some 16) HT_ ?_
   refine pz 9 (some 17) HT_ ?_
   refine pz 10 (some 18) HT_ ?_
   refine pu 11 (some 19) HT_ ?_
   refine pu 12 (some 20) HT_ ?_
   refine pu 13 (some 21) HT_ ?_
   refine pu 14 (some 22) HT_ ?_
   refine pu 15 (some 23) HT_ ?_
   refine pu 16 (some 24) HT_ ?_
   refine pu 17 (some 25) HT_ ?_
   refine pu 18 (some 26) HT_ ?_
   refine pu 19 (some 27) HT_ ?_
   refine pu 20 (some 28) HT_ ?_
   refine pu 21 (some 29) HT_ ?_
   refine pu 22 (some 30) HT_ ?_
   refine pu 23 (some 31) HT_ ?_
   refine pu 24 (some 32) HT_ ?_
   refine pu 25 (some 33) HT_ ?_
   refine pu 26 (some 34) HT_ ?_
   refine pu 27 (some 35) HT_ ?_
   refine pu 28 (some 36) HT_ ?_
   refine pu 29 (some 37) HT_ ?_
   refine pu 30 (some 38) HT_ ?_
   refine pu 31 (some 39) HT_ ?_
   refine pu 32 (some 40) HT_ ?_
   refine pz 33 (some 41) HT_ ?_
   refine done_ (dO_ HT_.out (by kernel_rfl)) ?_
   try go_wp2
   go_meet
   case rel => exact ⟨_, (true), cA, H', ⟨by first | omega | exact Nat.le_refl _⟩, ⟨r5k10_⟩, ⟨r5o14_⟩, ⟨r5n13_⟩⟩
  rw [if_neg c3] at H
  have c3b0 := dF c3
  clear c3
  (first | rw [c3b0] | (simp only [c6_, dY_]; rw [c3b0]) | skip)
  obtain ⟨c5, H⟩ := gp H
  have c5b0 := dT c5
  clear c5
  obtain ⟨c6, H⟩ := gp H
  have c6b0 := dT c6
  clear c6
  by_cases c8 : (bt s0_0 s0_1) = 34
  ·rw [if_pos c8] at H
   obtain ⟨c8b0, c8b1⟩ := eqT c8
   clear c8
   have H' := aA_.mk H
   clear H
   try go_wp2
   replace HI0 := aA_.mk (aD_.drew HI0.out)
   replace HK := aA_.mk (aM_ HK.out)
   replace HB := aA_.mk (aI_ HB.out)
   have p7 : 0 ≤ (s0_1 : Int) := dA
   have q7 : s0_1 < (s0_0.size : Int) := dA
   have hx7 := dP_ s0_0 s0_1
   replace p7 := eq_true p7
   replace q7 := eq_true q7
   refine start_ (n := 34) (S := fun w' => w'.cell? ⟨g, 0, none⟩ = some (.string s0_0) ∧ w'.cell? ⟨g, 1, none⟩ = some (.int .i64 s0_1)) (ds := []) #[false, false, false, false, false, false, false, false, false, false, false, false, false, false, false, false, false, false, false, false, false, false, false, false, false, false, false, false, false, false, false, false, false, false] (by kernel_rfl) rfl rfl ⟨(a9_ HI0.out.1), (bA_ HI0.out.1)⟩ (fun hHeld => ?_); refine cZ_ aO_.tab1 aO_.bits1 (fun HT_ HW_ => ?_)
   generalize w.drew = w9 at HI0 HK HB hHeld ⊢
   refine pz 0 (some 8) HT_ ?_
   refine pz 1 (some 9) HT_ ?_
   refine pz 2 (some 10) HT_ ?_
   refine pz 4 (some 12) HT_ ?_
   refine pz 5 (some 13) HT_ ?_
   refine pz 6 (some 14) HT_ ?_
   refine tm 3 (some 11) HT_ HW_ hHeld ?_
   refine tm 7 (some 15) HT_ HW_ hHeld ?_
   refine pz 8 (some 16) HT_ ?_
   refine pz 9 (some 17) HT_ ?_
   refine pz 10 (some 18) HT_ ?_
   refine pz 11 (some 19) HT_ ?_
   refine pz 12 (some 20) HT_ ?_
   refine pz 13 (some 21) HT_ ?_
   refine pz 15 (some 23) HT_ ?_
   refine pz 16 (some 24) HT_ ?_
   refine pz 17 (some 25) HT_ ?_
   refine tm 14 (some 22) HT_ HW_ hHeld ?_
   refine tm 18 (some 26) HT_ HW_ hHeld ?_
   refine tm 19 (some 27) HT_ HW_ hHeld ?_
   refine pz 20 (some 28) HT_ ?_
   refine pz 21 (some 29) HT_ ?_
   refine pu 22 (some 30) HT_ ?_
   refine pu 23 (some 31) HT_ ?_
   refine pu 24 (some 32) HT_ ?_
   refine pu 25 (some 33) HT_ ?_
   refine pu 26 (some 34) HT_ ?_
   refine pu 27 (some 35) HT_ ?_
   refine pu 28 (some 36) HT_ ?_
   refine pu 29 (some 37) HT_ ?_
   refine pu 30 (some 38) HT_ ?_
   refine pu 31 (some 39) HT_ ?_
   refine pz 32 (some 40) HT_ ?_
   refine pz 33 (some 41) HT_ ?_
   refine done_ (dO_ HT_.out (by kernel_rfl)) ?_
   try go_wp2
   go_meet
   case rel => exact ⟨_, (false), cA, H', ⟨by first | omega | exact Nat.le_refl _⟩, ⟨r5k10_⟩, ⟨r5o14_⟩, ⟨r5n13_⟩⟩
  rw [if_neg c8] at H
  obtain ⟨c8b0, c8b1⟩ := eqF c8
  have H' := aA_.mk H
  clear H
  try go_wp2
  replace HI0 := aA_.mk (aD_.drew HI0.out)
  replace HK := aA_.mk (aM_ HK.out)
  replace HB := aA_.mk (aI_ HB.out)
  have p7 : 0 ≤ (s0_1 : Int) := dA
  have q7 : s0_1 < (s0_0.size : Int) := dA
  have hx7 := dP_ s0_0 s0_1
  replace p7 := eq_true p7
  replace q7 := eq_true q7
  have p10 : 0 ≤ (s0_1 : Int) := dA
  have q10 : s0_1 < (s0_0.size : Int) := dA
  have hx10 := dP_ s0_0 s0_1
  replace p10 := eq_true p10
  replace q10 := eq_true q10
  refine start_ (n := 34) (S := fun w' => w'.cell? ⟨g, 0, none⟩ = some (.string s0_0) ∧ w'.cell? ⟨g, 1, none⟩ = some (.int .i64 s0_1)) (ds := []) #[false, false, false, false, false, false, false, false, false, false, false, false, false, false, false, false, false, false, false, false, false, false, false, false, false, false, false, false, false, false, false, false, false, false] (by kernel_rfl) rfl rfl ⟨(a9_ HI0.out.1), (bA_ HI0.out.1)⟩ (fun hHeld => ?_); refine cZ_ aO_.tab1 aO_.bits1 (fun HT_ HW_ => ?_)
  generalize w.drew = w11 at HI0 HK HB hHeld ⊢
  refine pz 0 (some 8) HT_ ?_
  refine pz 1 (some 9) HT_ ?_
  refine pz 2 (some 10) HT_ ?_
  refine pz 4 (some 12) HT_ ?_
  refine pz 5 (some 13) HT_ ?_
  refine pz 6 (some 14) HT_ ?_
  refine tm 3 (some 11) HT_ HW_ hHeld ?_
  refine tm 7 (some 15) HT_ HW_ hHeld ?_
  refine pz 8 (some 16) HT_ ?_
  refine pz 9 (some 17) HT_ ?_
  refine pz 10 (some 18) HT_ ?_
  refine pz 11 (some 19) HT_ ?_
  refine pz 12 (some 20) HT_ ?_
  refine pz 13 (some 21) HT_ ?_
  refine pz 15 (some 23) HT_ ?_
  refine pz 16 (some 24) HT_ ?_
  refine pz 17 (some 25) HT_ ?_
  refine tm 14 (some 22) HT_ HW_ hHeld ?_
  refine tm 18 (some 26) HT_ HW_ hHeld ?_
  refine tm 19 (some 27) HT_ HW_ hHeld ?_
  refine pz 20 (some 28) HT_ ?_
  refine pz 21 (some 29) HT_ ?_
  refine pz 22 (some 30) HT_ ?_
  refine pz 23 (some 31) HT_ ?_
  refine pz 24 (some 32) HT_ ?_
  refine pz 26 (some 34) HT_ ?_
  refine pz 27 (some 35) HT_ ?_
  refine pz 28 (some 36) HT_ ?_
  refine tm 25 (some 33) HT_ HW_ hHeld ?_
  refine tm 29 (some 37) HT_ HW_ hHeld ?_
  refine tm 30 (some 38) HT_ HW_ hHeld ?_
  refine pz 31 (some 39) HT_ ?_
  refine pz 32 (some 40) HT_ ?_
  refine pz 33 (some 41) HT_ ?_
  refine done_ (dO_ HT_.out (by kernel_rfl)) ?_
  try go_wp2
  go_meet
  case rel => exact ⟨_, (((bt s0_0 s0_1) != 39)), cA, H', ⟨by first | omega | exact Nat.le_refl _⟩, ⟨r5k10_⟩, ⟨r5o14_⟩, ⟨r5n13_⟩⟩
 clear HC2
 try clear p1
 try clear q1
 try clear hx1
 try clear p2
 try clear c3
 try clear c3b0
 try clear c5
 try clear c5b0
 try clear c6
 try clear c6b0
 try clear p7
 try clear q7
 try clear hx7
 try clear c8
 try clear c8b0
 try clear c8b1
 try clear p10
 try clear q10
 try clear hx10
 try clear p10
 try clear p7
 try clear q10
 try clear q7
 obtain ⟨kq, x41_1, rfl, HA, HJ1, HI0, HK, HB⟩ := hcut
 cases kq with
 | zero => exact absurd HA.out (by simp [aO_.j0])
 | succ kj1 =>
  have H := HA.out
  clear HA
  simp only [aO_.j0] at H
  (try simp only [toList_lit] at H)
  by_cases c12 : x41_1 = true
  ·subst c12
   replace H : (some ((⟨#[]⟩ : ByteArray), false, s0_0, s0_1)) = some (r1, r2, r3, r4) := by rw [if_pos rfl] at H; exact H
   simp only [Option.some.injEq, Prod.mk.injEq] at H
   obtain ⟨rfl, rfl, rfl, rfl⟩ := H
   go_wp2
   go_ret2
   exact ⟨eA, r5k10_, r5n13_, r5o14_⟩
  replace c12 := Bool.eq_false_iff.mpr c12
  subst c12
  replace H : (if 0 ≤ s0_1 then (if s0_1 ≤ (wrap64 (s0_1 + 1)) then (if (wrap64 (s0_1 + 1)) ≤ (s0_0.size : Int) then ((a2_.f kj1 s0_0 s0_1 (wrap64 (s0_1 + 1)) (s0_0.extract (s0_1 : Int).toNat ((wrap64 (s0_1 + 1)) : Int).toNat)).bind fun bt197 => (if bt197.2.1 = true then ((aW_.f kj1 bt197.1 (⟨#[60]⟩ : ByteArray) 0).bind fun t201 => (if t201 ≥ 0 then (some ((⟨#[]⟩ : ByteArray), false, bt197.2.2.1, bt197.2.2.2)) else ((aU_.f kj1 bt197.1).bind fun bt202 => (some (bt202.1, (bt202.2 == 0), bt197.2.2.1, bt197.2.2.2))))) else (some ((⟨#[]⟩ : ByteArray), false, bt197.2.2.1, bt197.2.2.2)))) else (none)) else (none)) else (none)) = some (r1, r2, r3, r4) := by rw [if_neg nF] at H; exact H
  obtain ⟨c13, H⟩ := gp H
  have c13b0 := eq_true c13
  have c13b1 := dT c13
  clear c13
  obtain ⟨c14, H⟩ := gp H
  have c14b0 := eq_true c14
  have c14b1 := dT c14
  obtain ⟨c15, H⟩ := gp H
  have c15b0 := eq_true c15
  have c15b1 := dT c15
  replace H := bi H
  obtain ⟨⟨t197, t198, t199, t200⟩, A160, H⟩ := H
  try dsimp only at H
  have A16 := aA_.mk A160
  clear A160
  by_cases c17 : t198 = true
  rotate_left
  ·replace c17 := Bool.eq_false_iff.mpr c17
   subst c17
   replace H : (some ((⟨#[]⟩ : ByteArray), false, t199, t200)) = some (r1, r2, r3, r4) := by rw [if_neg nF] at H; exact H
   simp only [Option.some.injEq, Prod.mk.injEq] at H
   obtain ⟨rfl, rfl, rfl, rfl⟩ := H
   try go_wp2
   replace HI0 := aA_.mk (aD_.drew HI0.out)
   replace HK := aA_.mk (aM_ HK.out)
   replace HB := aA_.mk (aI_ HB.out)
   refine start_ (n := 26) (S := fun w' => w'.cell? ⟨g, 0, none⟩ = some (.string s0_0) ∧ w'.cell? ⟨g, 1, none⟩ = some (.int .i64 s0_1)) (ds := [20]) #[false, false, false, false, false, false, false, false, false, false, false, false, false, false, false, false, false, false, false, false, false, false, false, false, false, false] (by kernel_rfl) rfl rfl ⟨(a9_ HI0.out.1), (bA_ HI0.out.1)⟩ (fun hHeld => ?_); refine cZ_ aO_.tab3 aO_.bits3 (fun HT_ HW_ => ?_)
   generalize wc.drew = w26 at HI0 HK HB hHeld ⊢
   refine pz 0 (some 43) HT_ ?_
   refine pz 1 (some 44) HT_ ?_
   refine pz 2 (some 45) HT_ ?_
   refine pz 3 (some 46) HT_ ?_
   refine pz 6 (some 49) HT_ ?_
   refine pz 7 (some 50) HT_ ?_
   refine pz 8 (some 51) HT_ ?_
   refine pz 10 (some 53) HT_ ?_
   refine pz 11 (some 54) HT_ ?_
   refine pz 12 (some 55) HT_ ?_
   refine pz 14 (some 57) HT_ ?_
   refine pz 15 (some 58) HT_ ?_
   refine pz 16 (some 59) HT_ ?_
   refine tm 4 (some 47) HT_ HW_ hHeld ?_
   refine pz 5 (some 48) HT_ ?_
   refine tm 9 (some 52) HT_ HW_ hHeld ?_
   refine tm 13 (some 56) HT_ HW_ hHeld ?_
   refine tm 17 (some 60) HT_ HW_ hHeld ?_
   refine pz 18 (some 61) HT_ ?_
   refine pz 19 (some 62) HT_ ?_
   refine last_ (i := 20) (N := some 63) #[true, true, true, true, true, true, true, true, true, true, true, true, true, true, true, true, true, true, true, true, true, false, false, false, false, false] rfl rfl (one_of HT_.out (by kernel_rfl)) (by decide) (fun K hK => ?_)
   refine goes_ Tryz.func56 (by kernel_rfl) rfl #[.pointer (some ⟨g, 0, none⟩), .int .i64 (wrap64 (s0_1 + 1)), .string (s0_0.extract (s0_1 : Int).toNat ((wrap64 (s0_1 + 1)) : Int).toNat)] (by rfl) rfl rfl mA ?_
   with_reducible refine (a2_.calls kj1 g s0_0 s0_1 (wrap64 (s0_1 + 1)) (s0_0.extract (s0_1 : Int).toNat ((wrap64 (s0_1 + 1)) : Int).toNat) t197 false t199 t200 w0 _ ?side1 ?side2 ?side3 A16.out).mono ?_
   (case side1 => exact r5k10_)
   (case side2 => exact r5n13_)
   (case side3 => exact HG.out)
   rintro e w27 ⟨rfl, hi, hb, hk⟩
   refine ⟨_, rfl, ?_⟩
   replace HK := aA_.mk (aJ_.trans (r5o14_) hk (.inl rfl))
   replace HB := aA_.mk (hb)
   replace HI0 := aA_.mk (hi)
   (try clear hb)
   (try clear hk)
   (try clear hi)
   refine hK.out _ _ ?_
   clear hK K
   refine nz (some 63) ?_
   refine pz 21 (some 42) HT_ ?_
   refine pz 22 (some 64) HT_ ?_
   refine pz 23 (some 65) HT_ ?_
   refine pz 24 (some 4) HT_ ?_
   refine pz 25 (some 5) HT_ ?_
   refine done_ (dO_ HT_.out (by kernel_rfl)) ?_
   try go_wp2
   go_ret2
   exact ⟨eA, r5k10_, r5n13_, r5o14_⟩
  subst c17
  replace H : ((aW_.f kj1 t197 (⟨#[60]⟩ : ByteArray) 0).bind fun t201 => (if t201 ≥ 0 then (some ((⟨#[]⟩ : ByteArray), false, t199, t200)) else ((aU_.f kj1 t197).bind fun bt202 => (some (bt202.1, (bt202.2 == 0), t199, t200))))) = some (r1, r2, r3, r4) := by rw [if_pos rfl] at H; exact H
  replace H := bi H
  obtain ⟨t201, A180, H⟩ := H
  try dsimp only at H
  have A18 := aA_.mk A180
  clear A180
  by_cases c19 : t201 ≥ 0
  ·rw [if_pos c19] at H
   have c19b0 := dT c19
   clear c19
   simp only [Option.some.injEq, Prod.mk.injEq] at H
   obtain ⟨rfl, rfl, rfl, rfl⟩ := H
   try go_wp2
   replace HI0 := aA_.mk (aD_.drew HI0.out)
   replace HK := aA_.mk (aM_ HK.out)
   replace HB := aA_.mk (aI_ HB.out)
   refine start_ (n := 26) (S := fun w' => w'.cell? ⟨g, 0, none⟩ = some (.string s0_0) ∧ w'.cell? ⟨g, 1, none⟩ = some (.int .i64 s0_1)) (ds := [20]) #[false, false, false, false, false, false, false, false, false, false, false, false, false, false, false, false, false, false, false, false, false, false, false, false, false, false] (by kernel_rfl) rfl rfl ⟨(a9_ HI0.out.1), (bA_ HI0.out.1)⟩ (fun hHeld => ?_); refine cZ_ aO_.tab3 aO_.bits3 (fun HT_ HW_ => ?_)
   generalize wc.drew = w20 at HI0 HK HB hHeld ⊢
   refine pz 0 (some 43) HT_ ?_
   refine pz 1 (some 44) HT_ ?_
   refine pz 2 (some 45) HT_ ?_
   refine pz 3 (some 46) HT_ ?_
   refine pz 6 (some 49) HT_ ?_
   refine pz 7 (some 50) HT_ ?_
   refine pz 8 (some 51) HT_ ?_
   refine pz 10 (some 53) HT_ ?_
   refine pz 11 (some 54) HT_ ?_
   refine pz 12 (some 55) HT_ ?_
   refine pz 14 (some 57) HT_ ?_
   refine pz 15 (some 58) HT_ ?_
   refine pz 16 (some 59) HT_ ?_
   refine tm 4 (some 47) HT_ HW_ hHeld ?_
   refine pz 5 (some 48) HT_ ?_
   refine tm 9 (some 52) HT_ HW_ hHeld ?_
   refine tm 13 (some 56) HT_ HW_ hHeld ?_
   refine tm 17 (some 60) HT_ HW_ hHeld ?_
   refine pz 18 (some 61) HT_ ?_
   refine pz 19 (some 62) HT_ ?_
   refine last_ (i := 20) (N := some 63) #[true, true, true, true, true, true, true, true, true, true, true, true, true, true, true, true, true, true, true, true, true, false, false, false, false, false] rfl rfl (one_of HT_.out (by kernel_rfl)) (by decide) (fun K hK => ?_)
   refine goes_ Tryz.func56 (by kernel_rfl) rfl #[.pointer (some ⟨g, 0, none⟩), .int .i64 (wrap64 (s0_1 + 1)), .string (s0_0.extract (s0_1 : Int).toNat ((wrap64 (s0_1 + 1)) : Int).toNat)] (by rfl) rfl rfl mA ?_
   with_reducible refine (a2_.calls kj1 g s0_0 s0_1 (wrap64 (s0_1 + 1)) (s0_0.extract (s0_1 : Int).toNat ((wrap64 (s0_1 + 1)) : Int).toNat) t197 true t199 t200 w0 _ ?side1 ?side2 ?side3 A16.out).mono ?_
   (case side1 => exact r5k10_)
   (case side2 => exact r5n13_)
   (case side3 => exact HG.out)
   rintro e w21 ⟨rfl, hi, hb, hk⟩
   refine ⟨_, rfl, ?_⟩
   replace HK := aA_.mk (aJ_.trans (r5o14_) hk (.inl rfl))
   replace HB := aA_.mk (hb)
   replace HI0 := aA_.mk (hi)
   (try clear hb)
   (try clear hk)
   (try clear hi)
   refine hK.out _ _ ?_
   clear hK K
   refine nz (some 63) ?_
   refine pz 21 (some 42) HT_ ?_
   refine pz 22 (some 64) HT_ ?_
   refine pz 23 (some 65) HT_ ?_
   refine pz 24 (some 4) HT_ ?_
   refine pz 25 (some 5) HT_ ?_
   refine done_ (dO_ HT_.out (by kernel_rfl)) ?_
   try go_wp2_with (first | (go_at_call 59; (with_reducible refine (aW_.calls kj1 t197 (⟨#[60]⟩ : ByteArray) 0 t201 _ ?side1 A18.out).mono ?_); (case side1 => exact Glob.step HG.out (r5n13_)); rintro e w' ⟨rfl, ⟨nd, rfl⟩⟩))
   go_ret2
   exact ⟨eA, r5k10_, r5n13_, r5o14_⟩
  rw [if_neg c19] at H
  have c19b0 := dF c19
  clear c19
  replace H := bi H
  obtain ⟨⟨t202, t203⟩, A220, H⟩ := H
  try dsimp only at H
  have A22 := aA_.mk A220
  clear A220
  simp only [Option.some.injEq, Prod.mk.injEq] at H
  obtain ⟨rfl, rfl, rfl, rfl⟩ := H
  try go_wp2
  replace HI0 := aA_.mk (aD_.drew HI0.out)
  replace HK := aA_.mk (aM_ HK.out)
  replace HB := aA_.mk (aI_ HB.out)
  refine start_ (n := 26) (S := fun w' => w'.cell? ⟨g, 0, none⟩ = some (.string s0_0) ∧ w'.cell? ⟨g, 1, none⟩ = some (.int .i64 s0_1)) (ds := [20]) #[false, false, false, false, false, false, false, false, false, false, false, false, false, false, false, false, false, false, false, false, false, false, false, false, false, false] (by kernel_rfl) rfl rfl ⟨(a9_ HI0.out.1), (bA_ HI0.out.1)⟩ (fun hHeld => ?_); refine cZ_ aO_.tab3 aO_.bits3 (fun HT_ HW_ => ?_)
  generalize wc.drew = w23 at HI0 HK HB hHeld ⊢
  refine pz 0 (some 43) HT_ ?_
  refine pz 1 (some 44) HT_ ?_
  refine pz 2 (some 45) HT_ ?_
  refine pz 3 (some 46) HT_ ?_
  refine pz 6 (some 49) HT_ ?_
  refine pz 7 (some 50) HT_ ?_
  refine pz 8 (some 51) HT_ ?_
  refine pz 10 (some 53) HT_ ?_
  refine pz 11 (some 54) HT_ ?_
  refine pz 12 (some 55) HT_ ?_
  refine pz 14 (some 57) HT_ ?_
  refine pz 15 (some 58) HT_ ?_
  refine pz 16 (some 59) HT_ ?_
  refine tm 4 (some 47) HT_ HW_ hHeld ?_
  refine pz 5 (some 48) HT_ ?_
  refine tm 9 (some 52) HT_ HW_ hHeld ?_
  refine tm 13 (some 56) HT_ HW_ hHeld ?_
  refine tm 17 (some 60) HT_ HW_ hHeld ?_
  refine pz 18 (some 61) HT_ ?_
  refine pz 19 (some 62) HT_ ?_
  refine last_ (i := 20) (N := some 63) #[true, true, true, true, true, true, true, true, true, true, true, true, true, true, true, true, true, true, true, true, true, false, false, false, false, false] rfl rfl (one_of HT_.out (by kernel_rfl)) (by decide) (fun K hK => ?_)
  refine goes_ Tryz.func56 (by kernel_rfl) rfl #[.pointer (some ⟨g, 0, none⟩), .int .i64 (wrap64 (s0_1 + 1)), .string (s0_0.extract (s0_1 : Int).toNat ((wrap64 (s0_1 + 1)) : Int).toNat)] (by rfl) rfl rfl mA ?_
  with_reducible refine (a2_.calls kj1 g s0_0 s0_1 (wrap64 (s0_1 + 1)) (s0_0.extract (s0_1 : Int).toNat ((wrap64 (s0_1 + 1)) : Int).toNat) t197 true t199 t200 w0 _ ?side1 ?side2 ?side3 A16.out).mono ?_
  (case side1 => exact r5k10_)
  (case side2 => exact r5n13_)
  (case side3 => exact HG.out)
  rintro e w24 ⟨rfl, hi, hb, hk⟩
  refine ⟨_, rfl, ?_⟩
  replace HK := aA_.mk (aJ_.trans (r5o14_) hk (.inl rfl))
  replace HB := aA_.mk (hb)
  replace HI0 := aA_.mk (hi)
  (try clear hb)
  (try clear hk)
  (try clear hi)
  refine hK.out _ _ ?_
  clear hK K
  refine nz (some 63) ?_
  refine pz 21 (some 42) HT_ ?_
  refine pz 22 (some 64) HT_ ?_
  refine pz 23 (some 65) HT_ ?_
  refine pz 24 (some 4) HT_ ?_
  refine pz 25 (some 5) HT_ ?_
  refine done_ (dO_ HT_.out (by kernel_rfl)) ?_
  try go_wp2_with (first | (go_at_call 59; (with_reducible refine (aW_.calls kj1 t197 (⟨#[60]⟩ : ByteArray) 0 t201 _ ?side1 A18.out).mono ?_); (case side1 => exact Glob.step HG.out (r5n13_)); rintro e w' ⟨rfl, ⟨nd, rfl⟩⟩) | (refine gl (some 75) Tryz.func60 #[.string t197] ?_; (with_reducible refine (aU_.calls kj1 t197 t202 t203 _ ?side1 A22.out).mono ?_); (case side1 => exact Glob.step HG.out (r5n13_)); rintro e w25 ⟨rfl, hb⟩; refine ⟨_, rfl, ?_⟩; replace HK := aA_.mk (aJ_.trans (r5o14_) (aJ_.of_below hb g none) (.inl rfl)); replace HB := aA_.mk (bG_ (r5n13_) hb); replace HI0 := aA_.mk (aD_.below (r5k10_) hb); (try clear hb)))
  go_ret2
  exact ⟨eA, r5k10_, r5n13_, r5o14_⟩
def aY_.j0 : Nat → Bool → ByteArray → Int → ByteArray → ByteArray → Option (ByteArray × ByteArray × Bool × ByteArray × Int)
 | 0, _, _, _, _, _ => none
 | k + 1, x26, x1000, x1001, x209000, x209001 => if x26 = true then (some (x209000, x209001, false, x1000, x1001)) else ((aP_.f k x1000 (wrap64 (x1001 + 1))).bind fun bt213 => ((aO_.f k bt213.2.1 bt213.2.2).bind fun bt216 => (some (x209000, bt216.1, bt216.2.1, bt216.2.2.1, bt216.2.2.2))))
def aY_.f (k : Nat) (s0_0 : ByteArray) (s0_1 : Int) : Option (ByteArray × ByteArray × Bool × ByteArray × Int) := (aX_.f k s0_0 s0_1).bind fun bt205 => ((aP_.f k bt205.2.1 bt205.2.2).bind fun bt209 => (if bt205.1.toList = ([] : List UInt8) then (aY_.j0 k true bt209.2.1 bt209.2.2 bt205.1 (⟨#[]⟩ : ByteArray)) else ((aK_.f bt209.2.1 (⟨#[61]⟩ : ByteArray) bt209.2.2).bind fun t212 => (aY_.j0 k (!t212) bt209.2.1 bt209.2.2 bt205.1 (⟨#[]⟩ : ByteArray)))))
theorem aY_.mono_l : ∀ k, (∀ y0 y1 y2 y3 y4, LeO (aY_.j0 k y0 y1 y2 y3 y4) (aY_.j0 (k + 1) y0 y1 y2 y3 y4))
 | 0 => fun _ _ _ _ _ r h => by simp [aY_.j0] at h
 | k + 1 => by
  have ih0 := aY_.mono_l k
  ·intro y0 y1 y2 y3 y4
   unfold aY_.j0
   have m0 := @aX_.mono
   have m1 := @aP_.mono
   have m2 := @aO_.mono
   exact mo
theorem aY_.mono : ∀ a0 a1 k, LeO (aY_.f k a0 a1) (aY_.f (k + 1) a0 a1) := by
 intro a0 a1 k
 have ih0 := aY_.mono_l k
 unfold aY_.f
 have m0 := @aX_.mono
 have m1 := @aP_.mono
 have m2 := @aO_.mono
 exact mo
theorem aY_.calls (k : Nat) (g : Nat) (s0_0 : ByteArray) (s0_1 : Int) (r1 : ByteArray) (r2 : ByteArray) (r3 : Bool) (r4 : ByteArray) (r5 : Int) (w0 w : World) (hI : aD_ w0 w g s0_0 s0_1) (hB : Below w0.heap.size w0 w) (hG : Glob w0) (h : aY_.f k s0_0 s0_1 = some (r1, r2, r3, r4, r5)) :
 Calls Tryz.prog 76 #[.pointer (some ⟨g, 0, none⟩)] w fun e w' => e = .returned (.tuple #[.agg #[.string r1, .string r2], .bool r3]) ∧ aD_ w0 w' g r4 r5 ∧ Below w0.heap.size w0 w' ∧ aJ_ w w' g none := by
 have hu53 := Tryz.underlying53
 have HG := aA_.mk hG
 clear hG
 have HI0 := aA_.mk hI
 have HK := aA_.mk (aJ_.refl w g none)
 have HL := aA_.mk hB.size
 clear hI
 have HW0 := aA_.mk hB.size
 have HB := aA_.mk hB
 clear hB
 have H : ((aX_.f k s0_0 s0_1).bind fun bt205 => ((aP_.f k bt205.2.1 bt205.2.2).bind fun bt209 => (if bt205.1.toList = ([] : List UInt8) then (aY_.j0 k true bt209.2.1 bt209.2.2 bt205.1 (⟨#[]⟩ : ByteArray)) else ((aK_.f bt209.2.1 (⟨#[61]⟩ : ByteArray) bt209.2.2).bind fun t212 => (aY_.j0 k (!t212) bt209.2.1 bt209.2.2 bt205.1 (⟨#[]⟩ : ByteArray)))))) = some (r1, r2, r3, r4, r5) := h
 clear h
 replace H := bi H
 obtain ⟨⟨t205, t206, t207⟩, A20, H⟩ := H
 try dsimp only at H
 have A2 := aA_.mk A20
 clear A20
 replace H := bi H
 obtain ⟨⟨t209, t210, t211⟩, A30, H⟩ := H
 try dsimp only at H
 have A3 := aA_.mk A30
 clear A30
 have HC4 := aA_.mk H
 clear H
 go_enter Tryz.func76, Tryz.ntmps76
 go_upto_region 3 with (first | (refine be 2 #[.string (⟨#[]⟩ : ByteArray), .string (⟨#[]⟩ : ByteArray)] 53 ?_; intro gb204 hg w5 hbox hb; replace HB := aA_.mk (bG_ (r5n13_) hb); have BK204 := aA_.mk (hbox); have GW204 := aA_.mk ((by rw [hg]; exact (bF_ (w := w) (g := g) (row := none) (r5o14_)) : w.heap.size ≤ gb204)); have GE204 := aA_.mk ((Nat.le_trans HW0.out (by rw [hg]; exact (bF_ (w := w) (g := g) (row := none) (r5o14_)) : w.heap.size ≤ gb204) : w0.heap.size ≤ gb204)); replace HK := aA_.mk (aJ_.trans (r5o14_) (aJ_.of_below hb g none) (.inl rfl)); have NB0_204 := aA_.mk ((by rw [hg]; exact Nat.ne_of_lt (aD_.lt (show aD_ w0 _ g s0_0 s0_1 from r5k10_)) : g ≠ gb204)); have NB204_0 := aA_.mk ((by rw [hg]; exact Nat.ne_of_gt (aD_.lt (show aD_ w0 _ g s0_0 s0_1 from r5k10_)) : gb204 ≠ g)); replace HI0 := aA_.mk (aD_.below (r5k10_) hb); clear hb hbox hg) | (go_at_call 74; (with_reducible refine (aX_.calls k g s0_0 s0_1 t205 t206 t207 w0 _ ?side1 ?side2 ?side3 A2.out).mono ?_); (case side1 => exact r5d3_); (case side2 => exact r5j9_); (case side3 => exact HG.out); rintro e w6 ⟨rfl, hi, hb, hk⟩; replace BK204 := aA_.mk (aJ_.blk hk (g' := gb204) (o := .cells #[.string (⟨#[]⟩ : ByteArray), .string (⟨#[]⟩ : ByteArray)] 53 (0, 0)) (bK BK204) NB204_0.out (by simp)); replace HK := aA_.mk (aJ_.trans (r5m12_) hk (.inl rfl)); replace HB := aA_.mk (hb); replace HI0 := aA_.mk (hi); (try clear hb); (try clear hk); (try clear hi)) | (refine be 4 #[.string (⟨#[]⟩ : ByteArray), .string (⟨#[]⟩ : ByteArray)] 53 ?_; intro gb208 hg w7 hbox hb; replace HB := aA_.mk (bG_ (r5j9_) hb); have BK208 := aA_.mk (hbox); have GW208 := aA_.mk ((by rw [hg]; exact (bF_ (w := w) (g := g) (row := none) (r5m12_)) : w.heap.size ≤ gb208)); have GE208 := aA_.mk ((Nat.le_trans HW0.out (by rw [hg]; exact (bF_ (w := w) (g := g) (row := none) (r5m12_)) : w.heap.size ≤ gb208) : w0.heap.size ≤ gb208)); replace HK := aA_.mk (aJ_.trans (r5m12_) (aJ_.of_below hb g none) (.inl rfl)); have NB204_208 := nL BK204 hg; have NB208_204 := nG BK204 hg; replace BK204 := kB BK204 hb; have NB0_208 := aA_.mk ((by rw [hg]; exact Nat.ne_of_lt (aD_.lt (show aD_ w0 _ g t206 t207 from r5d3_)) : g ≠ gb208)); have NB208_0 := aA_.mk ((by rw [hg]; exact Nat.ne_of_gt (aD_.lt (show aD_ w0 _ g t206 t207 from r5d3_)) : gb208 ≠ g)); replace HI0 := aA_.mk (aD_.below (r5d3_) hb); clear hb hbox hg; have hnb8 := NB208_204.out; have hnc8 := NB204_208.out; have hnb9 := NB208_0.out; have hnc9 := NB0_208.out; have hcz10_0 : w7.cell? ⟨gb208, 0, none⟩ = some (.string (⟨#[]⟩ : ByteArray)) := (aC_ BK208.out 0).trans rfl; have hcz10_1 : w7.cell? ⟨gb208, 1, none⟩ = some (.string (⟨#[]⟩ : ByteArray)) := (aC_ BK208.out 1).trans rfl; have hfz10_0 := aE_ BK208.out 0; have hfz10_1 := aE_ BK208.out 1) | (go_at_call 75; (with_reducible refine (aP_.calls k g t206 t207 t209 t210 t211 w0 _ ?side1 ?side2 ?side3 A3.out).mono ?_); (case side1 => exact r5b1_); (case side2 => exact r5f5_); (case side3 => exact HG.out); rintro e w11 ⟨rfl, hi, hb, hk⟩; replace BK204 := aA_.mk (aJ_.blk hk (g' := gb204) (o := .cells #[.string (⟨#[]⟩ : ByteArray), .string (⟨#[]⟩ : ByteArray)] 53 (0, 0)) (by (with_reducible repeat (first | refine aZ_ ?_ _ | refine a0_ ?_ | refine aV_ ?_ _)); refine bT_ ?_ NB204_208.out _; (with_reducible repeat (first | refine aZ_ ?_ _ | refine a0_ ?_ | refine aV_ ?_ _)); refine bT_ ?_ NB204_208.out _; (with_reducible repeat (first | refine aZ_ ?_ _ | refine a0_ ?_ | refine aV_ ?_ _)); exact BK204.out) NB204_0.out (by simp)); replace BK208 := aA_.mk (aJ_.blk hk (g' := gb208) (o := .cells #[.string t205, .string (⟨#[]⟩ : ByteArray)] 53 (0, 0)) (bP BK208) NB208_0.out (by simp)); replace HK := aA_.mk (aJ_.trans (r5h7_) hk (.inl rfl)); replace HB := aA_.mk (hb); replace HI0 := aA_.mk (hi); (try clear hb); (try clear hk); (try clear hi)))
 repeat (go_quiet (fail); go_upto_region 3 with (first | ((with_reducible refine cV_ (N := 2) rfl ?_); refine dG_ ?hg (N := 2) ?hd (cs := #[.string (⟨#[]⟩ : ByteArray), .string (⟨#[]⟩ : ByteArray)]) (t := 53) ?hr ?_; (case hd => rfl); (case hg => rfl); (case hr => first | (go_simp; done) | (go_simp; rfl)); intro gb204 hg w5 hbox hb; have n0_ := aA_.mk (aD_.below (r5k10_) hb); have n1_ := aA_.mk (aJ_.trans (r5o14_) (aJ_.of_below hb g none) (.inl rfl)); have n2_ := aA_.mk (bG_ (r5n13_) hb); have n3_ := aA_.mk (hbox); have n4_ := aA_.mk ((by rw [hg]; exact (bF_ (w := w) (g := g) (row := none) (r5o14_)) : w.heap.size ≤ gb204)); have n5_ := aA_.mk ((Nat.le_trans HW0.out (by rw [hg]; exact (bF_ (w := w) (g := g) (row := none) (r5o14_)) : w.heap.size ≤ gb204) : w0.heap.size ≤ gb204)); have n6_ := aA_.mk ((by rw [hg]; exact Nat.ne_of_lt (aD_.lt (show aD_ w0 _ g s0_0 s0_1 from r5k10_)) : g ≠ gb204)); have n7_ := aA_.mk ((by rw [hg]; exact Nat.ne_of_gt (aD_.lt (show aD_ w0 _ g s0_0 s0_1 from r5k10_)) : gb204 ≠ g)); clear HI0; clear HK; clear HB; have HI0 := n0_; have HK := n1_; have HB := n2_; have BK204 := n3_; have GW204 := n4_; have GE204 := n5_; have NB0_204 := n6_; have NB204_0 := n7_; clear n0_ n1_ n2_ n3_ n4_ n5_ n6_ n7_; clear hb hbox hg) | (go_at_call 74; (with_reducible refine (aX_.calls k g s0_0 s0_1 t205 t206 t207 w0 _ ?side1 ?side2 ?side3 A2.out).mono ?_); (case side1 => exact r5d3_); (case side2 => exact r5j9_); (case side3 => exact HG.out); rintro e w6 ⟨rfl, hi, hb, hk⟩; have n0_ := aA_.mk (aJ_.blk hk (g' := gb204) (o := .cells #[.string (⟨#[]⟩ : ByteArray), .string (⟨#[]⟩ : ByteArray)] 53 (0, 0)) (bK BK204) NB204_0.out (by simp)); have n1_ := aA_.mk (aJ_.trans (r5m12_) hk (.inl rfl)); have n2_ := aA_.mk (hb); have n3_ := aA_.mk (hi); clear BK204; clear HK; clear HB; clear HI0; have BK204 := n0_; have HK := n1_; have HB := n2_; have HI0 := n3_; clear n0_ n1_ n2_ n3_; (try clear hb); (try clear hb2); (try clear hk); (try clear hi)) | ((with_reducible refine cV_ (N := 4) rfl ?_); refine dG_ ?hg (N := 4) ?hd (cs := #[.string (⟨#[]⟩ : ByteArray), .string (⟨#[]⟩ : ByteArray)]) (t := 53) ?hr ?_; (case hd => rfl); (case hg => rfl); (case hr => first | (go_simp; done) | (go_simp; rfl)); intro gb208 hg w7 hbox hb; have n0_ := aA_.mk (aD_.below (r5d3_) hb); have n1_ := aA_.mk (b4_ (g := gb204) (o := .cells #[.string (⟨#[]⟩ : ByteArray), .string (⟨#[]⟩ : ByteArray)] 53 (0, 0)) (bK BK204) hb); have n2_ := aA_.mk (aJ_.trans (r5m12_) (aJ_.of_below hb g none) (.inl rfl)); have n3_ := aA_.mk (bG_ (r5j9_) hb); have n4_ := aA_.mk (hbox); have n5_ := aA_.mk ((by rw [hg]; exact (bF_ (w := w) (g := g) (row := none) (r5m12_)) : w.heap.size ≤ gb208)); have n6_ := aA_.mk ((Nat.le_trans HW0.out (by rw [hg]; exact (bF_ (w := w) (g := g) (row := none) (r5m12_)) : w.heap.size ≤ gb208) : w0.heap.size ≤ gb208)); have n7_ := aA_.mk ((by rw [hg]; exact Nat.ne_of_lt (cT_ (g := gb204) (o := .cells #[.string (⟨#[]⟩ : ByteArray), .string (⟨#[]⟩ : ByteArray)] 53 (0, 0)) (bK BK204)) : gb204 ≠ gb208)); have n8_ := aA_.mk ((by rw [hg]; exact Nat.ne_of_gt (cT_ (g := gb204) (o := .cells #[.string (⟨#[]⟩ : ByteArray), .string (⟨#[]⟩ : ByteArray)] 53 (0, 0)) (bK BK204)) : gb208 ≠ gb204)); have n9_ := aA_.mk ((by rw [hg]; exact Nat.ne_of_lt (aD_.lt (show aD_ w0 _ g t206 t207 from r5d3_)) : g ≠ gb208)); have n10_ := aA_.mk ((by rw [hg]; exact Nat.ne_of_gt (aD_.lt (show aD_ w0 _ g t206 t207 from r5d3_)) : gb208 ≠ g)); clear HI0; clear BK204; clear HK; clear HB; have HI0 := n0_; have BK204 := n1_; have HK := n2_; have HB := n3_; have BK208 := n4_; have GW208 := n5_; have GE208 := n6_; have NB204_208 := n7_; have NB208_204 := n8_; have NB0_208 := n9_; have NB208_0 := n10_; clear n0_ n1_ n2_ n3_ n4_ n5_ n6_ n7_ n8_ n9_ n10_; clear hb hbox hg; have hnb8 := NB208_204.out; have hnc8 := NB204_208.out; have hnb9 := NB208_0.out; have hnc9 := NB0_208.out; have hcz10_0 : w7.cell? ⟨gb208, 0, none⟩ = some (.string (⟨#[]⟩ : ByteArray)) := (aC_ BK208.out 0).trans rfl; have hcz10_1 : w7.cell? ⟨gb208, 1, none⟩ = some (.string (⟨#[]⟩ : ByteArray)) := (aC_ BK208.out 1).trans rfl; have hfz10_0 := aE_ BK208.out 0; have hfz10_1 := aE_ BK208.out 1) | (go_at_call 75; (with_reducible refine (aP_.calls k g t206 t207 t209 t210 t211 w0 _ ?side1 ?side2 ?side3 A3.out).mono ?_); (case side1 => exact r5b1_); (case side2 => exact r5f5_); (case side3 => exact HG.out); rintro e w11 ⟨rfl, hi, hb, hk⟩; have n0_ := aA_.mk (aJ_.blk hk (g' := gb204) (o := .cells #[.string (⟨#[]⟩ : ByteArray), .string (⟨#[]⟩ : ByteArray)] 53 (0, 0)) (by (with_reducible repeat (first | refine aZ_ ?_ _ | refine a0_ ?_ | refine aV_ ?_ _)); refine bT_ ?_ NB204_208.out _; (with_reducible repeat (first | refine aZ_ ?_ _ | refine a0_ ?_ | refine aV_ ?_ _)); refine bT_ ?_ NB204_208.out _; (with_reducible repeat (first | refine aZ_ ?_ _ | refine a0_ ?_ | refine aV_ ?_ _)); exact BK204.out) NB204_0.out (by simp)); have n1_ := aA_.mk (aJ_.blk hk (g' := gb208) (o := .cells #[.string t205, .string (⟨#[]⟩ : ByteArray)] 53 (0, 0)) (bP BK208) NB208_0.out (by simp)); have n2_ := aA_.mk (aJ_.trans (r5h7_) hk (.inl rfl)); have n3_ := aA_.mk (hb); have n4_ := aA_.mk (hi); clear BK204; clear BK208; clear HK; clear HB; clear HI0; have BK204 := n0_; have BK208 := n1_; have HK := n2_; have HB := n3_; have HI0 := n4_; clear n0_ n1_ n2_ n3_ n4_; (try clear hb); (try clear hb2); (try clear hk); (try clear hi))))
 (try simp only [Act.put, List.setIfInBounds_toArray, List.set_cons_zero, List.set_cons_succ])
 go_cut [26] (fun v26 wc => ∃ (kq : Nat) (x26_3 : Bool), v26 = .bool x26_3 ∧ aA_ (aY_.j0 kq x26_3 t210 t211 t205 (⟨#[]⟩ : ByteArray) = some (r1, r2, r3, r4, r5)) ∧ aA_ (kq ≤ k) ∧ aA_ (wc.heap[gb204]? = some (.cells #[.string (⟨#[]⟩ : ByteArray), .string (⟨#[]⟩ : ByteArray)] 53 (0, 0))) ∧ aA_ (wc.heap[gb208]? = some (.cells #[.string t205, .string (⟨#[]⟩ : ByteArray)] 53 (0, 0))) ∧ aA_ (aD_ w0 wc g t210 t211) ∧ aA_ (aJ_ w wc g none) ∧ aA_ (Below w0.heap.size w0 wc))
 case first =>
  have H := HC4.out
  clear HC4
  by_cases c12 : t205.toList = ([] : List UInt8)
  ·rw [if_pos c12] at H
   obtain ⟨c12b0, c12b1⟩ := eqT c12
   (try (have c12b2 : t205.toList.isEmpty = true := by simpa using c12))
   clear c12
   (first | rw [c12b0] | rw [c12b2] | (simp only [c6_, dY_]; rw [c12b0]) | skip)
   have H' := aA_.mk H
   clear H
   have hnb13 := NB208_204.out
   have hnc13 := NB204_208.out
   have hnb14 := NB208_0.out
   have hnc14 := NB0_208.out
   obtain ⟨hcz15_0, hcz15_1, hfz15_0, hfz15_1⟩ := cells2 BK208
   go_wp2
   repeat (go_quiet (fail); try go_wp2)
   go_meet
   case rel => exact ⟨_, (true), cA, H', ⟨by first | omega | exact Nat.le_refl _⟩, ⟨bK BK204⟩, ⟨bK BK208⟩, ⟨r5b1_⟩, ⟨r5h7_⟩, ⟨r5f5_⟩⟩
  rw [if_neg c12] at H
  obtain ⟨c12b0, c12b1⟩ := eqF c12
  (try (have c12b2 : t205.toList.isEmpty = false := by simpa using c12))
  (first | rw [c12b0] | rw [c12b2] | (simp only [c6_, dY_]; rw [c12b0]) | skip)
  replace H := bi H
  obtain ⟨t212, A160, H⟩ := H
  try dsimp only at H
  have A16 := aA_.mk A160
  clear A160
  have H' := aA_.mk H
  clear H
  have hnb17 := NB208_204.out
  have hnc17 := NB204_208.out
  have hnb18 := NB208_0.out
  have hnc18 := NB0_208.out
  obtain ⟨hcz19_0, hcz19_1, hfz19_0, hfz19_1⟩ := cells2 BK208
  obtain ⟨HGz20, hgz20⟩ := HI0.out
  have hcz20_0 := a9_ HGz20
  have hcz20_1 := bA_ HGz20
  have hfz20_0 := aE_ HGz20 0
  have hfz20_1 := aE_ HGz20 1
  clear HGz20 hgz20
  go_wp2_with (first | (go_at_call 54; (with_reducible refine (aK_.calls t210 (⟨#[61]⟩ : ByteArray) t211 t212 _ ?side1 A16.out).mono ?_); (case side1 => exact Glob.step HG.out (r5f5_)); rintro e w' ⟨rfl, ⟨nd, rfl⟩⟩; (try first | exact ⟨rfl, _, World.drewN_drewN _ _ _⟩ | exact ⟨rfl, _, Eq.trans (World.drewN_drewN _ _ _) (congrArg (World.drewN _) (Nat.add_assoc _ _ _))⟩)))
  repeat (go_quiet (first | (go_at_call 54; (with_reducible refine (aK_.calls t210 (⟨#[61]⟩ : ByteArray) t211 t212 _ ?side1 A16.out).mono ?_); (case side1 => exact Glob.step HG.out (r5f5_)); rintro e w' ⟨rfl, ⟨nd, rfl⟩⟩; (try first | exact ⟨rfl, _, World.drewN_drewN _ _ _⟩ | exact ⟨rfl, _, Eq.trans (World.drewN_drewN _ _ _) (congrArg (World.drewN _) (Nat.add_assoc _ _ _))⟩))); try go_wp2_with (first | (go_at_call 54; (with_reducible refine (aK_.calls t210 (⟨#[61]⟩ : ByteArray) t211 t212 _ ?side1 A16.out).mono ?_); (case side1 => exact Glob.step HG.out (r5f5_)); rintro e w' ⟨rfl, ⟨nd, rfl⟩⟩; (try first | exact ⟨rfl, _, World.drewN_drewN _ _ _⟩ | exact ⟨rfl, _, Eq.trans (World.drewN_drewN _ _ _) (congrArg (World.drewN _) (Nat.add_assoc _ _ _))⟩))))
  go_meet
  case rel => exact ⟨_, (!t212), cA, H', ⟨by first | omega | exact Nat.le_refl _⟩, ⟨bK BK204⟩, ⟨bK BK208⟩, ⟨r5b1_⟩, ⟨r5h7_⟩, ⟨r5f5_⟩⟩
 clear HC4
 try clear c1
 try clear p2
 try clear c7
 try clear c8
 try clear c9
 try clear c12
 try clear c12b0
 try clear c12b1
 try clear c12b2
 try clear c13
 try clear c14
 try clear c17
 try clear c18
 try clear hcz10_0
 try clear hcz10_1
 try clear hcz15_0
 try clear hcz15_1
 try clear hcz19_0
 try clear hcz19_1
 try clear hcz20_0
 try clear hcz20_1
 try clear hfz10_0
 try clear hfz10_1
 try clear hfz15_0
 try clear hfz15_1
 try clear hfz19_0
 try clear hfz19_1
 try clear hfz20_0
 try clear hfz20_1
 obtain ⟨kq, x26_3, rfl, HA, HJ3, BK204, BK208, HI0, HK, HB⟩ := hcut
 cases kq with
 | zero => exact absurd HA.out (by simp [aY_.j0])
 | succ kj3 =>
  have H := HA.out
  clear HA
  simp only [aY_.j0] at H
  (try simp only [toList_lit] at H)
  by_cases c21 : x26_3 = true
  ·subst c21
   replace H : (some (t205, (⟨#[]⟩ : ByteArray), false, t210, t211)) = some (r1, r2, r3, r4, r5) := by rw [if_pos rfl] at H; exact H
   simp only [Option.some.injEq, Prod.mk.injEq] at H
   obtain ⟨rfl, rfl, rfl, rfl, rfl⟩ := H
   have hnb22 := NB208_204.out
   have hnc22 := NB204_208.out
   have hnb23 := NB208_0.out
   have hnc23 := NB0_208.out
   obtain ⟨hcz24_0, hcz24_1, hfz24_0, hfz24_1⟩ := cells2 BK208
   have hnb25 := NB204_0.out
   have hnc25 := NB0_204.out
   obtain ⟨hcz26_0, hcz26_1, hfz26_0, hfz26_1⟩ := cells2 BK204
   go_wp2
   repeat (go_quiet (fail); try go_wp2)
   refine bodyPost_ret (b8_ rfl _ _ gb204 53 #[.string t205, .string (⟨#[]⟩ : ByteArray)] (0, 0) _ rfl (bP BK204) Tryz.underlying53 rfl (by kernel_rfl)) rfl ?_
   exact ⟨eA, r5b1_, r5f5_, r5h7_⟩
  replace c21 := Bool.eq_false_iff.mpr c21
  subst c21
  replace H : ((aP_.f kj3 t210 (wrap64 (t211 + 1))).bind fun bt213 => ((aO_.f kj3 bt213.2.1 bt213.2.2).bind fun bt216 => (some (t205, bt216.1, bt216.2.1, bt216.2.2.1, bt216.2.2.2)))) = some (r1, r2, r3, r4, r5) := by rw [if_neg nF] at H; exact H
  replace H := bi H
  obtain ⟨⟨t213, t214, t215⟩, A270, H⟩ := H
  try dsimp only at H
  have A27 := aA_.mk A270
  clear A270
  replace H := bi H
  obtain ⟨⟨t216, t217, t218, t219⟩, A280, H⟩ := H
  try dsimp only at H
  have A28 := aA_.mk A280
  clear A280
  simp only [Option.some.injEq, Prod.mk.injEq] at H
  obtain ⟨rfl, rfl, rfl, rfl, rfl⟩ := H
  obtain ⟨HGz29, hgz29⟩ := HI0.out
  have hcz29_0 := a9_ HGz29
  have hcz29_1 := bA_ HGz29
  have hfz29_0 := aE_ HGz29 0
  have hfz29_1 := aE_ HGz29 1
  clear HGz29 hgz29
  go_wp2_with (first | (go_at_call 75; (with_reducible refine (aP_.calls kj3 g t210 (wrap64 (t211 + 1)) t213 t214 t215 w0 _ ?side1 ?side2 ?side3 A27.out).mono ?_); (case side1 => exact r5b1_); (case side2 => exact r5f5_); (case side3 => exact HG.out); rintro e w30 ⟨rfl, hi, hb, hk⟩; replace BK204 := aA_.mk (aJ_.blk hk (g' := gb204) (o := .cells #[.string (⟨#[]⟩ : ByteArray), .string (⟨#[]⟩ : ByteArray)] 53 (0, 0)) (by (with_reducible repeat (first | refine aZ_ ?_ _ | refine a0_ ?_ | refine aV_ ?_ _)); refine bT_ ?_ NB204_0.out _; (with_reducible repeat (first | refine aZ_ ?_ _ | refine a0_ ?_ | refine aV_ ?_ _)); exact BK204.out) NB204_0.out (by simp)); replace BK208 := aA_.mk (aJ_.blk hk (g' := gb208) (o := .cells #[.string t205, .string (⟨#[]⟩ : ByteArray)] 53 (0, 0)) (by (with_reducible repeat (first | refine aZ_ ?_ _ | refine a0_ ?_ | refine aV_ ?_ _)); refine bT_ ?_ NB208_0.out _; (with_reducible repeat (first | refine aZ_ ?_ _ | refine a0_ ?_ | refine aV_ ?_ _)); exact BK208.out) NB208_0.out (by simp)); replace HK := aA_.mk (aJ_.trans (r5h7_) hk (.inl rfl)); replace HB := aA_.mk (hb); replace HI0 := aA_.mk (hi); (try clear hb); (try clear hk); (try clear hi)) | (go_at_call 89; (with_reducible refine (aO_.calls kj3 g t214 t215 t216 t217 t218 t219 w0 _ ?side1 ?side2 ?side3 A28.out).mono ?_); (case side1 => exact r5b1_); (case side2 => exact r5f5_); (case side3 => exact HG.out); rintro e w31 ⟨rfl, hi, hb, hk⟩; replace BK204 := aA_.mk (aJ_.blk hk (g' := gb204) (o := .cells #[.string (⟨#[]⟩ : ByteArray), .string (⟨#[]⟩ : ByteArray)] 53 (0, 0)) (bK BK204) NB204_0.out (by simp)); replace BK208 := aA_.mk (aJ_.blk hk (g' := gb208) (o := .cells #[.string t205, .string (⟨#[]⟩ : ByteArray)] 53 (0, 0)) (bK BK208) NB208_0.out (by simp)); replace HK := aA_.mk (aJ_.trans (r5h7_) hk (.inl rfl)); replace HB := aA_.mk (hb); replace HI0 := aA_.mk (hi); (try clear hb); (try clear hk); (try clear hi); have hnb32 := NB208_204.out; have hnc32 := NB204_208.out; have hnb33 := NB208_0.out; have hnc33 := NB0_208.out; have hcz34_0 : w31.cell? ⟨gb208, 0, none⟩ = some (.string t205) := (aC_ BK208.out 0).trans rfl; have hcz34_1 : w31.cell? ⟨gb208, 1, none⟩ = some (.string (⟨#[]⟩ : ByteArray)) := (aC_ BK208.out 1).trans rfl; have hfz34_0 := aE_ BK208.out 0; have hfz34_1 := aE_ BK208.out 1; have hnb35 := NB204_0.out; have hnc35 := NB0_204.out; have hcz36_0 : w31.cell? ⟨gb204, 0, none⟩ = some (.string (⟨#[]⟩ : ByteArray)) := (aC_ BK204.out 0).trans rfl; have hcz36_1 : w31.cell? ⟨gb204, 1, none⟩ = some (.string (⟨#[]⟩ : ByteArray)) := (aC_ BK204.out 1).trans rfl; have hfz36_0 := aE_ BK204.out 0; have hfz36_1 := aE_ BK204.out 1))
  repeat (go_quiet (fail); try go_wp2_with (first | (go_at_call 75; (with_reducible refine (aP_.calls kj3 g t210 (wrap64 (t211 + 1)) t213 t214 t215 w0 _ ?side1 ?side2 ?side3 A27.out).mono ?_); (case side1 => exact r5b1_); (case side2 => exact r5f5_); (case side3 => exact HG.out); rintro e w30 ⟨rfl, hi, hb, hk⟩; have n0_ := aA_.mk (aJ_.blk hk (g' := gb204) (o := .cells #[.string (⟨#[]⟩ : ByteArray), .string (⟨#[]⟩ : ByteArray)] 53 (0, 0)) (by (with_reducible repeat (first | refine aZ_ ?_ _ | refine a0_ ?_ | refine aV_ ?_ _)); refine bT_ ?_ NB204_0.out _; (with_reducible repeat (first | refine aZ_ ?_ _ | refine a0_ ?_ | refine aV_ ?_ _)); exact BK204.out) NB204_0.out (by simp)); have n1_ := aA_.mk (aJ_.blk hk (g' := gb208) (o := .cells #[.string t205, .string (⟨#[]⟩ : ByteArray)] 53 (0, 0)) (by (with_reducible repeat (first | refine aZ_ ?_ _ | refine a0_ ?_ | refine aV_ ?_ _)); refine bT_ ?_ NB208_0.out _; (with_reducible repeat (first | refine aZ_ ?_ _ | refine a0_ ?_ | refine aV_ ?_ _)); exact BK208.out) NB208_0.out (by simp)); have n2_ := aA_.mk (aJ_.trans (r5h7_) hk (.inl rfl)); have n3_ := aA_.mk (hb); have n4_ := aA_.mk (hi); clear BK204; clear BK208; clear HK; clear HB; clear HI0; have BK204 := n0_; have BK208 := n1_; have HK := n2_; have HB := n3_; have HI0 := n4_; clear n0_ n1_ n2_ n3_ n4_; (try clear hb); (try clear hb2); (try clear hk); (try clear hi)) | (go_at_call 89; (with_reducible refine (aO_.calls kj3 g t214 t215 t216 t217 t218 t219 w0 _ ?side1 ?side2 ?side3 A28.out).mono ?_); (case side1 => exact r5b1_); (case side2 => exact r5f5_); (case side3 => exact HG.out); rintro e w31 ⟨rfl, hi, hb, hk⟩; have n0_ := aA_.mk (aJ_.blk hk (g' := gb204) (o := .cells #[.string (⟨#[]⟩ : ByteArray), .string (⟨#[]⟩ : ByteArray)] 53 (0, 0)) (bK BK204) NB204_0.out (by simp)); have n1_ := aA_.mk (aJ_.blk hk (g' := gb208) (o := .cells #[.string t205, .string (⟨#[]⟩ : ByteArray)] 53 (0, 0)) (bK BK208) NB208_0.out (by simp)); have n2_ := aA_.mk (aJ_.trans (r5h7_) hk (.inl rfl)); have n3_ := aA_.mk (hb); have n4_ := aA_.mk (hi); clear BK204; clear BK208; clear HK; clear HB; clear HI0; have BK204 := n0_; have BK208 := n1_; have HK := n2_; have HB := n3_; have HI0 := n4_; clear n0_ n1_ n2_ n3_ n4_; (try clear hb); (try clear hb2); (try clear hk); (try clear hi); have hnb32 := NB208_204.out; have hnc32 := NB204_208.out; have hnb33 := NB208_0.out; have hnc33 := NB0_208.out; have hcz34_0 : w31.cell? ⟨gb208, 0, none⟩ = some (.string t205) := (aC_ BK208.out 0).trans rfl; have hcz34_1 : w31.cell? ⟨gb208, 1, none⟩ = some (.string (⟨#[]⟩ : ByteArray)) := (aC_ BK208.out 1).trans rfl; have hfz34_0 := aE_ BK208.out 0; have hfz34_1 := aE_ BK208.out 1; have hnb35 := NB204_0.out; have hnc35 := NB0_204.out; have hcz36_0 : w31.cell? ⟨gb204, 0, none⟩ = some (.string (⟨#[]⟩ : ByteArray)) := (aC_ BK204.out 0).trans rfl; have hcz36_1 : w31.cell? ⟨gb204, 1, none⟩ = some (.string (⟨#[]⟩ : ByteArray)) := (aC_ BK204.out 1).trans rfl; have hfz36_0 := aE_ BK204.out 0; have hfz36_1 := aE_ BK204.out 1)))
  refine bodyPost_ret (b8_ rfl _ _ gb204 53 #[.string t205, .string t216] (0, 0) _ rfl (by (with_reducible repeat (first | refine aZ_ ?_ _ | refine a0_ ?_ | refine aV_ ?_ _)); refine cS_ (cs := #[.string t205, .string (⟨#[]⟩ : ByteArray)]) ?_ 1 _ rfl; (with_reducible repeat (first | refine aZ_ ?_ _ | refine a0_ ?_ | refine aV_ ?_ _)); refine cS_ (cs := #[.string (⟨#[]⟩ : ByteArray), .string (⟨#[]⟩ : ByteArray)]) ?_ 0 _ rfl; (with_reducible repeat (first | refine aZ_ ?_ _ | refine a0_ ?_ | refine aV_ ?_ _)); refine bT_ ?_ NB204_208.out _; (with_reducible repeat (first | refine aZ_ ?_ _ | refine a0_ ?_ | refine aV_ ?_ _)); exact BK204.out) Tryz.underlying53 rfl (by kernel_rfl)) rfl ?_
  exact ⟨eA, r5b1_, r5f5_, r5h7_⟩
end Go.Proofs.YtkoogebfdinbnaaGreat.Q
