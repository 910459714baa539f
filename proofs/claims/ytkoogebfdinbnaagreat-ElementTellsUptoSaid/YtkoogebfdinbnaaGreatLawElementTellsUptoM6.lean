/- Texts put together: what functions of the program compute, and plain words about them. -/
import Derived.Test.YtkoogebfdinbnaaGreatLawElementTellsUptoM1
import Derived.Test.YtkoogebfdinbnaaGreatLawElementTellsUptoM4
import Derived.Test.YtkoogebfdinbnaaGreatLawElementTellsUptoM5
namespace Go.Proofs.YtkoogebfdinbnaaGreat.Q
open Go.RowKit Go.Proofs.YtkoogebfdinbnaaGreatW.PrintWords Go.Proofs.YtkoogebfdinbnaaGreatW.PrintLast Go.Proofs.YtkoogebfdinbnaaGreatW.Own Go.Proofs.YtkoogebfdinbnaaGreatW.PrintMore
theorem r6a0_ {p_ : Prop} (h_ : p_ := by repeat (first | (with_reducible first | exact HI0.out | apply aD_.alloc | apply aD_.drewN | apply aD_.drew | apply aD_.set_0 | apply aD_.set_1 | refine aD_.far ?_ NB0_220.out _ | refine aD_.far ?_ NB0_224.out _ | refine aD_.far ?_ NB0_235.out _) | exact HI0.out)) : p_ := h_
theorem r6b1_ {p_ : Prop} (h_ : p_ := by repeat (first | (with_reducible first | exact HI0.out | apply aD_.alloc | apply aD_.drewN | apply aD_.drew | apply aD_.set_0 | apply aD_.set_1 | refine aD_.far ?_ NB0_220.out _ | refine aD_.far ?_ NB0_224.out _) | exact HI0.out)) : p_ := h_
theorem r6c2_ {p_ : Prop} (h_ : p_ := by repeat (first | (with_reducible first | exact HB.out | apply aH_ | apply aF_ | apply aI_ | refine aG_ ?_ (aD_.ge HI0.out) | refine aG_ ?_ GE220.out | refine aG_ ?_ GE224.out | refine aG_ ?_ GE235.out) | exact HB.out)) : p_ := h_
theorem r6d3_ {p_ : Prop} (h_ : p_ := by repeat (first | (with_reducible first | exact HK.out | apply aJ_.set_ | apply aL_ | apply aM_ | apply keep_alloc | refine aQ_ ?_ GW220.out _ | refine aQ_ ?_ GW224.out _ | refine aQ_ ?_ GW235.out _) | exact HK.out)) : p_ := h_
theorem r6e4_ {p_ : Prop} (h_ : p_ := by repeat (first | (with_reducible first | exact HI0.out | apply aD_.alloc | apply aD_.drewN | apply aD_.drew | apply aD_.set_0 | apply aD_.set_1 | refine aD_.far ?_ NB0_220.out _) | exact HI0.out)) : p_ := h_
theorem r6f5_ {p_ : Prop} (h_ : p_ := by repeat (first | (with_reducible first | exact HB.out | apply aH_ | apply aF_ | apply aI_ | refine aG_ ?_ (aD_.ge HI0.out) | refine aG_ ?_ GE220.out | refine aG_ ?_ GE224.out) | exact HB.out)) : p_ := h_
theorem r6g6_ {p_ : Prop} (h_ : p_ := by repeat (first | (with_reducible first | exact HK.out | apply aJ_.set_ | apply aL_ | apply aM_ | apply keep_alloc | refine aQ_ ?_ GW220.out _ | refine aQ_ ?_ GW224.out _) | exact HK.out)) : p_ := h_
theorem r6h7_ {p_ : Prop} (h_ : p_ := by repeat (first | (with_reducible first | exact HB.out | apply aH_ | apply aF_ | apply aI_ | refine aG_ ?_ (aD_.ge HI0.out) | refine aG_ ?_ GE220.out) | exact HB.out)) : p_ := h_
theorem r6i8_ {p_ : Prop} (h_ : p_ := by repeat (first | (with_reducible first | exact HI0.out | apply aD_.alloc | apply aD_.drewN | apply aD_.drew | apply aD_.set_0 | apply aD_.set_1) | exact HI0.out)) : p_ := h_
theorem r6j9_ {p_ : Prop} (h_ : p_ := by repeat (first | (with_reducible first | exact HK.out | apply aJ_.set_ | apply aL_ | apply aM_ | apply keep_alloc | refine aQ_ ?_ GW220.out _) | exact HK.out)) : p_ := h_
theorem r6k10_ {p_ : Prop} (h_ : p_ := by repeat (first | (with_reducible first | exact HB.out | apply aH_ | apply aF_ | apply aI_ | refine aG_ ?_ (aD_.ge HI0.out)) | exact HB.out)) : p_ := h_
theorem r6l11_ {p_ : Prop} (h_ : p_ := by repeat (first | (with_reducible first | exact HK.out | apply aJ_.set_ | apply aL_ | apply aM_ | apply keep_alloc) | exact HK.out)) : p_ := h_
attribute [local go_sem] d6_ d8_ max_two min_two dS_ dR_ d4_ d9_   -- for this text's walks alone
set_option linter.unusedVariables false
set_option linter.unusedSimpArgs false
set_option maxHeartbeats 20000000
set_option maxRecDepth 100000
mutual
def aT_.l0 : Nat → ByteArray → Int → Int → ByteArray → ByteArray → List (S53) → Bool → Option (Int × ByteArray × ByteArray × (List (S53)) × Bool × Bool × ByteArray × Int)
 | 0, _, _, _, _, _, _, _ => none
 | k + 1, x1000, x1001, x225000, x225001, x225002, x225003, x225004 => if x225001.toList = ([] : List UInt8) then (some (x225000, x225001, x225002, x225003, x225004, false, x1000, x1001)) else ((aP_.f k x1000 x1001).bind fun bt225 => ((aK_.f bt225.2.1 (⟨#[62]⟩ : ByteArray) bt225.2.2).bind fun t228 => (if t228 = true then (some (x225000, x225001, x225002, x225003, x225004, true, bt225.2.1, wrap64 (bt225.2.2 + 1))) else ((aK_.f bt225.2.1 (⟨#[47, 62]⟩ : ByteArray) bt225.2.2).bind fun t229 => (if t229 = true then (some (x225000, x225001, x225002, x225003, true, true, bt225.2.1, wrap64 (bt225.2.2 + 2))) else (if bt225.1 = 0 then (some (x225000, x225001, x225002, x225003, x225004, false, bt225.2.1, bt225.2.2)) else ((aY_.f k bt225.2.1 bt225.2.2).bind fun bt230 => (if bt230.2.2.1 = true then (aT_.l1 k 0 bt230.2.2.2.1 bt230.2.2.2.2 x225000 x225001 x225002 x225003 x225004 bt230.1 bt230.2.1) else (some (x225000, x225001, x225002, x225003, x225004, false, bt230.2.2.2.1, bt230.2.2.2.2))))))))))
def aT_.l1 : Nat → Int → ByteArray → Int → Int → ByteArray → ByteArray → List (S53) → Bool → ByteArray → ByteArray → Option (Int × ByteArray × ByteArray × (List (S53)) × Bool × Bool × ByteArray × Int)
 | 0, _, _, _, _, _, _, _, _, _, _ => none
 | k + 1, x8, x1000, x1001, x225000, x225001, x225002, x225003, x225004, x236000, x236001 => if x8 < (x225003.length : Int) then (if 0 ≤ x8 then (if ((cN_ x225003 x8).f0).toList = x236000.toList then (some (x225000, x225001, x225002, x225003, x225004, false, x1000, x1001)) else (aT_.l1 k (wrap64 (x8 + 1)) x1000 x1001 x225000 x225001 x225002 x225003 x225004 x236000 x236001)) else (none)) else (if x225003.length < 4398046511104 then (aT_.l0 k x1000 x1001 x225000 x225001 x225002 (x225003 ++ [(⟨x236000, x236001⟩ : S53)]) x225004) else (none))
end
def aT_.f (k : Nat) (s0_0 : ByteArray) (s0_1 : Int) : Option (Int × ByteArray × ByteArray × (List (S53)) × Bool × Bool × ByteArray × Int) := (aX_.f k s0_0 (wrap64 (s0_1 + 1))).bind fun bt221 => (aT_.l0 k bt221.2.1 bt221.2.2 1 bt221.1 (⟨#[]⟩ : ByteArray) ([] : List (S53)) false)
theorem aT_.mono_l : ∀ k, (∀ y0 y1 y2 y3 y4 y5 y6, LeO (aT_.l0 k y0 y1 y2 y3 y4 y5 y6) (aT_.l0 (k + 1) y0 y1 y2 y3 y4 y5 y6)) ∧ (∀ y0 y1 y2 y3 y4 y5 y6 y7 y8 y9, LeO (aT_.l1 k y0 y1 y2 y3 y4 y5 y6 y7 y8 y9) (aT_.l1 (k + 1) y0 y1 y2 y3 y4 y5 y6 y7 y8 y9))
 | 0 => ⟨fun _ _ _ _ _ _ _ r h => by simp [aT_.l0] at h, fun _ _ _ _ _ _ _ _ _ _ r h => by simp [aT_.l1] at h⟩
 | k + 1 => by
  obtain ⟨ih0, ih1⟩ := aT_.mono_l k
  refine ⟨?_, ?_⟩
  ·intro y0 y1 y2 y3 y4 y5 y6
   unfold aT_.l0
   have m0 := @aY_.mono
   have m1 := @aX_.mono
   have m2 := @aP_.mono
   exact mo
  ·intro y0 y1 y2 y3 y4 y5 y6 y7 y8 y9
   unfold aT_.l1
   have m0 := @aY_.mono
   have m1 := @aX_.mono
   have m2 := @aP_.mono
   exact mo
theorem aT_.mono : ∀ a0 a1 k, LeO (aT_.f k a0 a1) (aT_.f (k + 1) a0 a1) := by
 intro a0 a1 k
 obtain ⟨ih0, ih1⟩ := aT_.mono_l k
 unfold aT_.f
 have m0 := @aY_.mono
 have m1 := @aX_.mono
 have m2 := @aP_.mono
 exact mo
theorem aT_.calls (k : Nat) (g : Nat) (s0_0 : ByteArray) (s0_1 : Int) (r1 : Int) (r2 : ByteArray) (r3 : ByteArray) (r4 : List (S53)) (r5 : Bool) (r6 : Bool) (r7 : ByteArray) (r8 : Int) (w0 w : World) (hI : aD_ w0 w g s0_0 s0_1) (hB : Below w0.heap.size w0 w) (hG : Glob w0) (h : aT_.f k s0_0 s0_1 = some (r1, r2, r3, r4, r5, r6, r7, r8)) :
 Calls Tryz.prog 58 #[.pointer (some ⟨g, 0, none⟩)] w fun e w' => ∃ v3_ : Value, e = .returned (.tuple #[.agg #[.int .i64 r1, .string r2, .string r3, v3_, .bool r5], .bool r6]) ∧ Kd.R k53 53 w' w.heap.size (fun _ => True) v3_ r4 ∧ aD_ w0 w' g r7 r8 ∧ Below w0.heap.size w0 w' ∧ aJ_ w w' g none := by
 have hu45 := Tryz.underlying45
 have hu53 := Tryz.underlying53
 have HG := aA_.mk hG
 clear hG
 have HI0 := aA_.mk hI
 have HK := aA_.mk (aJ_.refl w g none)
 have HL := aA_.mk hB.size
 clear hI
 have HW0 := aA_.mk hB.size
 have HB := aA_.mk hB
 clear hB
 have H : ((aX_.f k s0_0 (wrap64 (s0_1 + 1))).bind fun bt221 => (aT_.l0 k bt221.2.1 bt221.2.2 1 bt221.1 (⟨#[]⟩ : ByteArray) ([] : List (S53)) false)) = some (r1, r2, r3, r4, r5, r6, r7, r8) := h
 clear h
 replace H := bi H
 obtain ⟨⟨t221, t222, t223⟩, A20, H⟩ := H
 try dsimp only at H
 have A2 := aA_.mk A20
 clear A20
 have H' := aA_.mk H
 clear H
 go_enter Tryz.func58, Tryz.ntmps58
 go_wp2_with (first | (refine be 2 #[.int .i64 0, .string (⟨#[]⟩ : ByteArray), .string (⟨#[]⟩ : ByteArray), .slice none 0 0, .bool false] 45 ?_; intro gb220 hg w3 hbox hb; replace HB := aA_.mk (bG_ (r6k10_) hb); have BK220 := aA_.mk (hbox); have GW220 := aA_.mk ((by rw [hg]; exact (bF_ (w := w) (g := g) (row := none) (r6l11_)) : w.heap.size ≤ gb220)); have GE220 := aA_.mk ((Nat.le_trans HW0.out (by rw [hg]; exact (bF_ (w := w) (g := g) (row := none) (r6l11_)) : w.heap.size ≤ gb220) : w0.heap.size ≤ gb220)); replace HK := aA_.mk (aJ_.trans (r6l11_) (aJ_.of_below hb g none) (.inl rfl)); have NB0_220 := aA_.mk ((by rw [hg]; exact Nat.ne_of_lt (aD_.lt (show aD_ w0 _ g s0_0 s0_1 from r6i8_)) : g ≠ gb220)); have NB220_0 := aA_.mk ((by rw [hg]; exact Nat.ne_of_gt (aD_.lt (show aD_ w0 _ g s0_0 s0_1 from r6i8_)) : gb220 ≠ g)); replace HI0 := aA_.mk (aD_.below (r6i8_) hb); clear hb hbox hg; obtain ⟨HGz4, hgz4⟩ := HI0.out; have hcz4_0 := a9_ HGz4; have hcz4_1 := bA_ HGz4; have hfz4_0 := aE_ HGz4 0; have hfz4_1 := aE_ HGz4 1; clear HGz4 hgz4) | (go_at_call 74; (with_reducible refine (aX_.calls k g s0_0 (wrap64 (s0_1 + 1)) t221 t222 t223 w0 _ ?side1 ?side2 ?side3 A2.out).mono ?_); (case side1 => exact r6e4_); (case side2 => exact r6h7_); (case side3 => exact HG.out); rintro e w5 ⟨rfl, hi, hb, hk⟩; replace BK220 := aA_.mk (aJ_.blk hk (g' := gb220) (o := .cells #[.int .i64 0, .string (⟨#[]⟩ : ByteArray), .string (⟨#[]⟩ : ByteArray), .slice none 0 0, .bool false] 45 (0, 0)) (by (with_reducible repeat (first | refine aZ_ ?_ _ | refine a0_ ?_ | refine aV_ ?_ _)); refine bT_ ?_ NB220_0.out _; (with_reducible repeat (first | refine aZ_ ?_ _ | refine a0_ ?_ | refine aV_ ?_ _)); exact BK220.out) NB220_0.out (by simp)); replace HK := aA_.mk (aJ_.trans (r6j9_) hk (.inl rfl)); replace HB := aA_.mk (hb); replace HI0 := aA_.mk (hi); (try clear hb); (try clear hk); (try clear hi)) | (refine be 4 #[.int .i64 0, .string (⟨#[]⟩ : ByteArray), .string (⟨#[]⟩ : ByteArray), .slice none 0 0, .bool false] 45 ?_; intro gb224 hg w6 hbox hb; replace HB := aA_.mk (bG_ (r6h7_) hb); have BK224 := aA_.mk (hbox); have GW224 := aA_.mk ((by rw [hg]; exact (bF_ (w := w) (g := g) (row := none) (r6j9_)) : w.heap.size ≤ gb224)); have GE224 := aA_.mk ((Nat.le_trans HW0.out (by rw [hg]; exact (bF_ (w := w) (g := g) (row := none) (r6j9_)) : w.heap.size ≤ gb224) : w0.heap.size ≤ gb224)); replace HK := aA_.mk (aJ_.trans (r6j9_) (aJ_.of_below hb g none) (.inl rfl)); have NB220_224 := nL BK220 hg; have NB224_220 := nG BK220 hg; replace BK220 := kB BK220 hb; have NB0_224 := aA_.mk ((by rw [hg]; exact Nat.ne_of_lt (aD_.lt (show aD_ w0 _ g t222 t223 from r6e4_)) : g ≠ gb224)); have NB224_0 := aA_.mk ((by rw [hg]; exact Nat.ne_of_gt (aD_.lt (show aD_ w0 _ g t222 t223 from r6e4_)) : gb224 ≠ g)); replace HI0 := aA_.mk (aD_.below (r6e4_) hb); clear hb hbox hg; have hnb7 := NB224_220.out; have hnc7 := NB220_224.out; have hnb8 := NB224_0.out; have hnc8 := NB0_224.out; have hcz9_0 : w6.cell? ⟨gb224, 0, none⟩ = some (.int .i64 0) := (aC_ BK224.out 0).trans rfl; have hcz9_1 : w6.cell? ⟨gb224, 1, none⟩ = some (.string (⟨#[]⟩ : ByteArray)) := (aC_ BK224.out 1).trans rfl; have hcz9_2 : w6.cell? ⟨gb224, 2, none⟩ = some (.string (⟨#[]⟩ : ByteArray)) := (aC_ BK224.out 2).trans rfl; have hcz9_3 : w6.cell? ⟨gb224, 3, none⟩ = some (.slice none 0 0) := (aC_ BK224.out 3).trans rfl; have hcz9_4 : w6.cell? ⟨gb224, 4, none⟩ = some (.bool false) := (aC_ BK224.out 4).trans rfl; have hfz9_0 := aE_ BK224.out 0; have hfz9_1 := aE_ BK224.out 1; have hfz9_2 := aE_ BK224.out 2; have hfz9_3 := aE_ BK224.out 3; have hfz9_4 := aE_ BK224.out 4))
 repeat (go_quiet (fail); try go_wp2_with (first | ((with_reducible refine cV_ (N := 2) rfl ?_); refine dG_ ?hg (N := 2) ?hd (cs := #[.int .i64 0, .string (⟨#[]⟩ : ByteArray), .string (⟨#[]⟩ : ByteArray), .slice none 0 0, .bool false]) (t := 45) ?hr ?_; (case hd => rfl); (case hg => rfl); (case hr => first | (go_simp; done) | (go_simp; rfl)); intro gb220 hg w3 hbox hb; have n0_ := aA_.mk (aD_.below (r6i8_) hb); have n1_ := aA_.mk (aJ_.trans (r6l11_) (aJ_.of_below hb g none) (.inl rfl)); have n2_ := aA_.mk (bG_ (r6k10_) hb); have n3_ := aA_.mk (hbox); have n4_ := aA_.mk ((by rw [hg]; exact (bF_ (w := w) (g := g) (row := none) (r6l11_)) : w.heap.size ≤ gb220)); have n5_ := aA_.mk ((Nat.le_trans HW0.out (by rw [hg]; exact (bF_ (w := w) (g := g) (row := none) (r6l11_)) : w.heap.size ≤ gb220) : w0.heap.size ≤ gb220)); have n6_ := aA_.mk ((by rw [hg]; exact Nat.ne_of_lt (aD_.lt (show aD_ w0 _ g s0_0 s0_1 from r6i8_)) : g ≠ gb220)); have n7_ := aA_.mk ((by rw [hg]; exact Nat.ne_of_gt (aD_.lt (show aD_ w0 _ g s0_0 s0_1 from r6i8_)) : gb220 ≠ g)); clear HI0; clear HK; clear HB; have HI0 := n0_; have HK := n1_; have HB := n2_; have BK220 := n3_; have GW220 := n4_; have GE220 := n5_; have NB0_220 := n6_; have NB220_0 := n7_; clear n0_ n1_ n2_ n3_ n4_ n5_ n6_ n7_; clear hb hbox hg; obtain ⟨HGz4, hgz4⟩ := HI0.out; have hcz4_0 := a9_ HGz4; have hcz4_1 := bA_ HGz4; have hfz4_0 := aE_ HGz4 0; have hfz4_1 := aE_ HGz4 1; clear HGz4 hgz4) | (go_at_call 74; (with_reducible refine (aX_.calls k g s0_0 (wrap64 (s0_1 + 1)) t221 t222 t223 w0 _ ?side1 ?side2 ?side3 A2.out).mono ?_); (case side1 => exact r6e4_); (case side2 => exact r6h7_); (case side3 => exact HG.out); rintro e w5 ⟨rfl, hi, hb, hk⟩; have n0_ := aA_.mk (aJ_.blk hk (g' := gb220) (o := .cells #[.int .i64 0, .string (⟨#[]⟩ : ByteArray), .string (⟨#[]⟩ : ByteArray), .slice none 0 0, .bool false] 45 (0, 0)) (by (with_reducible repeat (first | refine aZ_ ?_ _ | refine a0_ ?_ | refine aV_ ?_ _)); refine bT_ ?_ NB220_0.out _; (with_reducible repeat (first | refine aZ_ ?_ _ | refine a0_ ?_ | refine aV_ ?_ _)); exact BK220.out) NB220_0.out (by simp)); have n1_ := aA_.mk (aJ_.trans (r6j9_) hk (.inl rfl)); have n2_ := aA_.mk (hb); have n3_ := aA_.mk (hi); clear BK220; clear HK; clear HB; clear HI0; have BK220 := n0_; have HK := n1_; have HB := n2_; have HI0 := n3_; clear n0_ n1_ n2_ n3_; (try clear hb); (try clear hb2); (try clear hk); (try clear hi)) | ((with_reducible refine cV_ (N := 4) rfl ?_); refine dG_ ?hg (N := 4) ?hd (cs := #[.int .i64 0, .string (⟨#[]⟩ : ByteArray), .string (⟨#[]⟩ : ByteArray), .slice none 0 0, .bool false]) (t := 45) ?hr ?_; (case hd => rfl); (case hg => rfl); (case hr => first | (go_simp; done) | (go_simp; rfl)); intro gb224 hg w6 hbox hb; have n0_ := aA_.mk (aD_.below (r6e4_) hb); have n1_ := aA_.mk (b4_ (g := gb220) (o := .cells #[.int .i64 0, .string (⟨#[]⟩ : ByteArray), .string (⟨#[]⟩ : ByteArray), .slice none 0 0, .bool false] 45 (0, 0)) (bK BK220) hb); have n2_ := aA_.mk (aJ_.trans (r6j9_) (aJ_.of_below hb g none) (.inl rfl)); have n3_ := aA_.mk (bG_ (r6h7_) hb); have n4_ := aA_.mk (hbox); have n5_ := aA_.mk ((by rw [hg]; exact (bF_ (w := w) (g := g) (row := none) (r6j9_)) : w.heap.size ≤ gb224)); have n6_ := aA_.mk ((Nat.le_trans HW0.out (by rw [hg]; exact (bF_ (w := w) (g := g) (row := none) (r6j9_)) : w.heap.size ≤ gb224) : w0.heap.size ≤ gb224)); have n7_ := aA_.mk ((by rw [hg]; exact Nat.ne_of_lt (cT_ (g := gb220) (o := .cells #[.int .i64 0, .string (⟨#[]⟩ : ByteArray), .string (⟨#[]⟩ : ByteArray), .slice none 0 0, .bool false] 45 (0, 0)) (bK BK220)) : gb220 ≠ gb224)); have n8_ := aA_.mk ((by rw [hg]; exact Nat.ne_of_gt (cT_ (g := gb220) (o := .cells #[.int .i64 0, .string (⟨#[]⟩ : ByteArray), .string (⟨#[]⟩ : ByteArray), .slice none 0 0, .bool false] 45 (0, 0)) (bK BK220)) : gb224 ≠ gb220)); have n9_ := aA_.mk ((by rw [hg]; exact Nat.ne_of_lt (aD_.lt (show aD_ w0 _ g t222 t223 from r6e4_)) : g ≠ gb224)); have n10_ := aA_.mk ((by rw [hg]; exact Nat.ne_of_gt (aD_.lt (show aD_ w0 _ g t222 t223 from r6e4_)) : gb224 ≠ g)); clear HI0; clear BK220; clear HK; clear HB; have HI0 := n0_; have BK220 := n1_; have HK := n2_; have HB := n3_; have BK224 := n4_; have GW224 := n5_; have GE224 := n6_; have NB220_224 := n7_; have NB224_220 := n8_; have NB0_224 := n9_; have NB224_0 := n10_; clear n0_ n1_ n2_ n3_ n4_ n5_ n6_ n7_ n8_ n9_ n10_; clear hb hbox hg; have hnb7 := NB224_220.out; have hnc7 := NB220_224.out; have hnb8 := NB224_0.out; have hnc8 := NB0_224.out; have hcz9_0 : w6.cell? ⟨gb224, 0, none⟩ = some (.int .i64 0) := (aC_ BK224.out 0).trans rfl; have hcz9_1 : w6.cell? ⟨gb224, 1, none⟩ = some (.string (⟨#[]⟩ : ByteArray)) := (aC_ BK224.out 1).trans rfl; have hcz9_2 : w6.cell? ⟨gb224, 2, none⟩ = some (.string (⟨#[]⟩ : ByteArray)) := (aC_ BK224.out 2).trans rfl; have hcz9_3 : w6.cell? ⟨gb224, 3, none⟩ = some (.slice none 0 0) := (aC_ BK224.out 3).trans rfl; have hcz9_4 : w6.cell? ⟨gb224, 4, none⟩ = some (.bool false) := (aC_ BK224.out 4).trans rfl; have hfz9_0 := aE_ BK224.out 0; have hfz9_1 := aE_ BK224.out 1; have hfz9_2 := aE_ BK224.out 2; have hfz9_3 := aE_ BK224.out 3; have hfz9_4 := aE_ BK224.out 4)))
 (try simp only [Act.put, List.setIfInBounds_toArray, List.set_cons_zero, List.set_cons_succ])
 go_loopg [] k (fun kq w' => ∃ (x1000_1 : ByteArray) (x1001_1 : Int) (x221000_1 : Int) (x221001_1 : ByteArray) (x221002_1 : ByteArray) (x221004_1 : Bool) (x225003_1 : List (S53)) (x225004_1 : Bool) (u225003 : Value), aA_ (aT_.l0 kq x1000_1 x1001_1 1 t221 (⟨#[]⟩ : ByteArray) x225003_1 x225004_1 = some (r1, r2, r3, r4, r5, r6, r7, r8)) ∧ aA_ (kq ≤ k) ∧ aA_ (Kd.R k53 53 w' w.heap.size (fun _ => True) u225003 x225003_1) ∧ aA_ (w'.heap[gb220]? = some (.cells #[.int .i64 x221000_1, .string x221001_1, .string x221002_1, (.slice none 0 0), .bool x221004_1] 45 (0, 0))) ∧ aA_ (w'.heap[gb224]? = some (.cells #[.int .i64 1, .string t221, .string (⟨#[]⟩ : ByteArray), u225003, .bool x225004_1] 45 (0, 0))) ∧ aA_ (aD_ w0 w' g x1000_1 x1001_1) ∧ aA_ (aJ_ w w' g none) ∧ aA_ (Below w0.heap.size w0 w'))
 case atStart => exact ⟨(t222), (t223), (0), ((⟨#[]⟩ : ByteArray)), ((⟨#[]⟩ : ByteArray)), (false), (([] : List (S53))), (false), (.slice none 0 0), H', ⟨Nat.le_refl _⟩, ⟨by first | exact Kd.R_nil _ _ _ _ _ | exact Kd.N_nil _ _ _ _ _ | exact Kd.V_nil _ _ _ _ _ | exact Kd.Q_nil _ _ _ _ _ | exact Kd.S_nil _ _ _ _ _⟩, ⟨by (with_reducible repeat (first | refine aZ_ ?_ _ | refine a0_ ?_ | refine aV_ ?_ _)); refine bT_ ?_ NB220_224.out _; (with_reducible repeat (first | refine aZ_ ?_ _ | refine a0_ ?_ | refine aV_ ?_ _)); refine bT_ ?_ NB220_224.out _; (with_reducible repeat (first | refine aZ_ ?_ _ | refine a0_ ?_ | refine aV_ ?_ _)); refine bT_ ?_ NB220_224.out _; (with_reducible repeat (first | refine aZ_ ?_ _ | refine a0_ ?_ | refine aV_ ?_ _)); refine bT_ ?_ NB220_224.out _; (with_reducible repeat (first | refine aZ_ ?_ _ | refine a0_ ?_ | refine aV_ ?_ _)); refine bT_ ?_ NB220_224.out _; (with_reducible repeat (first | refine aZ_ ?_ _ | refine a0_ ?_ | refine aV_ ?_ _)); exact BK220.out⟩, ⟨bP BK224⟩, ⟨r6b1_⟩, ⟨r6g6_⟩, ⟨r6f5_⟩⟩
 clear H'
 try clear p2
 try clear c5
 try clear p6
 try clear c7
 try clear c8
 try clear hcz4_0
 try clear hcz4_1
 try clear hcz9_0
 try clear hcz9_1
 try clear hcz9_2
 try clear hcz9_3
 try clear hcz9_4
 try clear hfz4_0
 try clear hfz4_1
 try clear hfz9_0
 try clear hfz9_1
 try clear hfz9_2
 try clear hfz9_3
 try clear hfz9_4
 obtain ⟨x1000_1, x1001_1, x221000_1, x221001_1, x221002_1, x221004_1, x225003_1, x225004_1, u225003, HA, HK1, HO_225003, BK220, BK224, HI0, HK, HB⟩ := hrel
 cases gk with
 | zero => exact absurd HA.out (by simp [aT_.l0])
 | succ k1 =>
  have H := HA.out
  clear HA
  simp only [aT_.l0] at H
  (try simp only [toList_lit] at H)
  by_cases c10 : t221.toList = ([] : List UInt8)
  ·rw [if_pos c10] at H
   obtain ⟨c10b0, c10b1⟩ := eqT c10
   (try (have c10b2 : t221.toList.isEmpty = true := by simpa using c10))
   clear c10
   simp only [Option.some.injEq, Prod.mk.injEq] at H
   obtain ⟨rfl, rfl, rfl, rfl, rfl, rfl, rfl, rfl⟩ := H
   have hnb11 := NB224_220.out
   have hnc11 := NB220_224.out
   have hnb12 := NB224_0.out
   have hnc12 := NB0_224.out
   have hcz13_0 : wr.cell? ⟨gb224, 0, none⟩ = some (.int .i64 1) := (aC_ BK224.out 0).trans rfl
   have hcz13_1 : wr.cell? ⟨gb224, 1, none⟩ = some (.string t221) := (aC_ BK224.out 1).trans rfl
   have hcz13_2 : wr.cell? ⟨gb224, 2, none⟩ = some (.string (⟨#[]⟩ : ByteArray)) := (aC_ BK224.out 2).trans rfl
   have hcz13_3 : wr.cell? ⟨gb224, 3, none⟩ = some (u225003) := (aC_ BK224.out 3).trans rfl
   have hcz13_4 : wr.cell? ⟨gb224, 4, none⟩ = some (.bool x225004_1) := (aC_ BK224.out 4).trans rfl
   have hfz13_0 := aE_ BK224.out 0
   have hfz13_1 := aE_ BK224.out 1
   have hfz13_2 := aE_ BK224.out 2
   have hfz13_3 := aE_ BK224.out 3
   have hfz13_4 := aE_ BK224.out 4
   have hnb14 := NB220_0.out
   have hnc14 := NB0_220.out
   have hcz15_0 : wr.cell? ⟨gb220, 0, none⟩ = some (.int .i64 x221000_1) := (aC_ BK220.out 0).trans rfl
   have hcz15_1 : wr.cell? ⟨gb220, 1, none⟩ = some (.string x221001_1) := (aC_ BK220.out 1).trans rfl
   have hcz15_2 : wr.cell? ⟨gb220, 2, none⟩ = some (.string x221002_1) := (aC_ BK220.out 2).trans rfl
   have hcz15_3 : wr.cell? ⟨gb220, 3, none⟩ = some (.slice none 0 0) := (aC_ BK220.out 3).trans rfl
   have hcz15_4 : wr.cell? ⟨gb220, 4, none⟩ = some (.bool x221004_1) := (aC_ BK220.out 4).trans rfl
   have hfz15_0 := aE_ BK220.out 0
   have hfz15_1 := aE_ BK220.out 1
   have hfz15_2 := aE_ BK220.out 2
   have hfz15_3 := aE_ BK220.out 3
   have hfz15_4 := aE_ BK220.out 4
   obtain ⟨Ao16, co16, eo16⟩ := Kd.R_slice HO_225003.out
   subst eo16
   go_wp2
   repeat (go_quiet (fail); try go_wp2)
   refine bodyPost_ret (b8_ rfl _ _ gb220 45 #[.int .i64 1, .string t221, .string (⟨#[]⟩ : ByteArray), .slice Ao16 x225003_1.length co16, .bool x225004_1] (0, 0) _ rfl (bP BK220) Tryz.underlying45 rfl (by kernel_rfl)) rfl ?_
   exact ⟨_, by first | rfl | (simp [bL_, bK_] <;> rfl) | (simp [*, bL_, bK_] <;> rfl), by (with_reducible repeat (first | apply Kd.R_alloc | apply Kd.R_drewN | apply Kd.R_drew)); exact Kd.R_mono (Kd.R_far (p := ⟨gb220, 4, none⟩) (Kd.R_far (p := ⟨gb220, 3, none⟩) (Kd.R_far (p := ⟨gb220, 2, none⟩) (Kd.R_far (p := ⟨gb220, 1, none⟩) (Kd.R_far (p := ⟨gb220, 0, none⟩) (Kd.R_types HO_225003.out BK220.out (by decide)) (fun _ hk => hk.2) (.int .i64 1)) (fun _ hk => hk.2) (.string t221)) (fun _ hk => hk.2) (.string (⟨#[]⟩ : ByteArray))) (fun _ hk => hk.2) (.slice Ao16 x225003_1.length co16)) (fun _ hk => hk.2) (.bool x225004_1)) (fun _ hk => trivial), r6b1_, r6f5_, r6g6_⟩
  rw [if_neg c10] at H
  obtain ⟨c10b0, c10b1⟩ := eqF c10
  (try (have c10b2 : t221.toList.isEmpty = false := by simpa using c10))
  replace H := bi H
  obtain ⟨⟨t225, t226, t227⟩, A170, H⟩ := H
  try dsimp only at H
  have A17 := aA_.mk A170
  clear A170
  replace H := bi H
  obtain ⟨t228, A180, H⟩ := H
  try dsimp only at H
  have A18 := aA_.mk A180
  clear A180
  by_cases c19 : t228 = true
  ·subst c19
   replace H : (some (1, t221, (⟨#[]⟩ : ByteArray), x225003_1, x225004_1, true, t226, wrap64 (t227 + 1))) = some (r1, r2, r3, r4, r5, r6, r7, r8) := by rw [if_pos rfl] at H; exact H
   simp only [Option.some.injEq, Prod.mk.injEq] at H
   obtain ⟨rfl, rfl, rfl, rfl, rfl, rfl, rfl, rfl⟩ := H
   have hnb20 := NB224_220.out
   have hnc20 := NB220_224.out
   have hnb21 := NB224_0.out
   have hnc21 := NB0_224.out
   have hcz22_0 : wr.cell? ⟨gb224, 0, none⟩ = some (.int .i64 1) := (aC_ BK224.out 0).trans rfl
   have hcz22_1 : wr.cell? ⟨gb224, 1, none⟩ = some (.string t221) := (aC_ BK224.out 1).trans rfl
   have hcz22_2 : wr.cell? ⟨gb224, 2, none⟩ = some (.string (⟨#[]⟩ : ByteArray)) := (aC_ BK224.out 2).trans rfl
   have hcz22_3 : wr.cell? ⟨gb224, 3, none⟩ = some (u225003) := (aC_ BK224.out 3).trans rfl
   have hcz22_4 : wr.cell? ⟨gb224, 4, none⟩ = some (.bool x225004_1) := (aC_ BK224.out 4).trans rfl
   have hfz22_0 := aE_ BK224.out 0
   have hfz22_1 := aE_ BK224.out 1
   have hfz22_2 := aE_ BK224.out 2
   have hfz22_3 := aE_ BK224.out 3
   have hfz22_4 := aE_ BK224.out 4
   go_wp2_with (first | (go_at_call 75; (with_reducible refine (aP_.calls k1 g x1000_1 x1001_1 t225 t226 t227 w0 _ ?side1 ?side2 ?side3 A17.out).mono ?_); (case side1 => exact r6b1_); (case side2 => exact r6f5_); (case side3 => exact HG.out); rintro e w23 ⟨rfl, hi, hb, hk⟩; replace HO_225003 := aA_.mk (Kd.R_mono (Kd.R_keep (aD_.apart (show aD_ w0 _ g x1000_1 x1001_1 from r6b1_) (kR HO_225003) (by decide)) hk (fun _ h => h.2)) (fun _ h => h.1)); replace BK220 := aA_.mk (aJ_.blk hk (g' := gb220) (o := .cells #[.int .i64 x221000_1, .string x221001_1, .string x221002_1, .slice none 0 0, .bool x221004_1] 45 (0, 0)) (bK BK220) NB220_0.out (by simp)); replace BK224 := aA_.mk (aJ_.blk hk (g' := gb224) (o := .cells #[.int .i64 1, .string t221, .string (⟨#[]⟩ : ByteArray), u225003, .bool x225004_1] 45 (0, 0)) (bK BK224) NB224_0.out (by simp)); replace HK := aA_.mk (aJ_.trans (r6g6_) hk (.inl rfl)); replace HB := aA_.mk (hb); replace HI0 := aA_.mk (hi); (try clear hb); (try clear hk); (try clear hi); obtain ⟨HGz24, hgz24⟩ := HI0.out; have hcz24_0 := a9_ HGz24; have hcz24_1 := bA_ HGz24; have hfz24_0 := aE_ HGz24 0; have hfz24_1 := aE_ HGz24 1; clear HGz24 hgz24) | (go_at_call 54; (with_reducible refine (aK_.calls t226 (⟨#[62]⟩ : ByteArray) t227 true _ ?side1 A18.out).mono ?_); (case side1 => exact Glob.step HG.out (r6f5_)); rintro e w' ⟨rfl, ⟨nd, rfl⟩⟩; (try first | exact ⟨rfl, _, World.drewN_drewN _ _ _⟩ | exact ⟨rfl, _, Eq.trans (World.drewN_drewN _ _ _) (congrArg (World.drewN _) (Nat.add_assoc _ _ _))⟩); have hcz25_0 : w23.cell? ⟨gb224, 0, none⟩ = some (.int .i64 1) := (aC_ BK224.out 0).trans rfl; have hcz25_1 : w23.cell? ⟨gb224, 1, none⟩ = some (.string t221) := (aC_ BK224.out 1).trans rfl; have hcz25_2 : w23.cell? ⟨gb224, 2, none⟩ = some (.string (⟨#[]⟩ : ByteArray)) := (aC_ BK224.out 2).trans rfl; have hcz25_3 : w23.cell? ⟨gb224, 3, none⟩ = some (u225003) := (aC_ BK224.out 3).trans rfl; have hcz25_4 : w23.cell? ⟨gb224, 4, none⟩ = some (.bool x225004_1) := (aC_ BK224.out 4).trans rfl; have hfz25_0 := aE_ BK224.out 0; have hfz25_1 := aE_ BK224.out 1; have hfz25_2 := aE_ BK224.out 2; have hfz25_3 := aE_ BK224.out 3; have hfz25_4 := aE_ BK224.out 4; have hnb26 := NB220_0.out; have hnc26 := NB0_220.out; have hcz27_0 : w23.cell? ⟨gb220, 0, none⟩ = some (.int .i64 x221000_1) := (aC_ BK220.out 0).trans rfl; have hcz27_1 : w23.cell? ⟨gb220, 1, none⟩ = some (.string x221001_1) := (aC_ BK220.out 1).trans rfl; have hcz27_2 : w23.cell? ⟨gb220, 2, none⟩ = some (.string x221002_1) := (aC_ BK220.out 2).trans rfl; have hcz27_3 : w23.cell? ⟨gb220, 3, none⟩ = some (.slice none 0 0) := (aC_ BK220.out 3).trans rfl; have hcz27_4 : w23.cell? ⟨gb220, 4, none⟩ = some (.bool x221004_1) := (aC_ BK220.out 4).trans rfl; have hfz27_0 := aE_ BK220.out 0; have hfz27_1 := aE_ BK220.out 1; have hfz27_2 := aE_ BK220.out 2; have hfz27_3 := aE_ BK220.out 3; have hfz27_4 := aE_ BK220.out 4; obtain ⟨Ao28, co28, eo28⟩ := Kd.R_slice HO_225003.out; subst eo28))
   repeat (go_quiet (first | (go_at_call 54; (with_reducible refine (aK_.calls t226 (⟨#[62]⟩ : ByteArray) t227 true _ ?side1 A18.out).mono ?_); (case side1 => exact Glob.step HG.out (r6f5_)); rintro e w' ⟨rfl, ⟨nd, rfl⟩⟩; (try first | exact ⟨rfl, _, World.drewN_drewN _ _ _⟩ | exact ⟨rfl, _, Eq.trans (World.drewN_drewN _ _ _) (congrArg (World.drewN _) (Nat.add_assoc _ _ _))⟩); have hcz25_0 : w23.cell? ⟨gb224, 0, none⟩ = some (.int .i64 1) := (aC_ BK224.out 0).trans rfl; have hcz25_1 : w23.cell? ⟨gb224, 1, none⟩ = some (.string t221) := (aC_ BK224.out 1).trans rfl; have hcz25_2 : w23.cell? ⟨gb224, 2, none⟩ = some (.string (⟨#[]⟩ : ByteArray)) := (aC_ BK224.out 2).trans rfl; have hcz25_3 : w23.cell? ⟨gb224, 3, none⟩ = some (u225003) := (aC_ BK224.out 3).trans rfl; have hcz25_4 : w23.cell? ⟨gb224, 4, none⟩ = some (.bool x225004_1) := (aC_ BK224.out 4).trans rfl; have hfz25_0 := aE_ BK224.out 0; have hfz25_1 := aE_ BK224.out 1; have hfz25_2 := aE_ BK224.out 2; have hfz25_3 := aE_ BK224.out 3; have hfz25_4 := aE_ BK224.out 4; have hnb26 := NB220_0.out; have hnc26 := NB0_220.out; have hcz27_0 : w23.cell? ⟨gb220, 0, none⟩ = some (.int .i64 x221000_1) := (aC_ BK220.out 0).trans rfl; have hcz27_1 : w23.cell? ⟨gb220, 1, none⟩ = some (.string x221001_1) := (aC_ BK220.out 1).trans rfl; have hcz27_2 : w23.cell? ⟨gb220, 2, none⟩ = some (.string x221002_1) := (aC_ BK220.out 2).trans rfl; have hcz27_3 : w23.cell? ⟨gb220, 3, none⟩ = some (.slice none 0 0) := (aC_ BK220.out 3).trans rfl; have hcz27_4 : w23.cell? ⟨gb220, 4, none⟩ = some (.bool x221004_1) := (aC_ BK220.out 4).trans rfl; have hfz27_0 := aE_ BK220.out 0; have hfz27_1 := aE_ BK220.out 1; have hfz27_2 := aE_ BK220.out 2; have hfz27_3 := aE_ BK220.out 3; have hfz27_4 := aE_ BK220.out 4; obtain ⟨Ao28, co28, eo28⟩ := Kd.R_slice HO_225003.out; subst eo28)); try go_wp2_with (first | (go_at_call 75; (with_reducible refine (aP_.calls k1 g x1000_1 x1001_1 t225 t226 t227 w0 _ ?side1 ?side2 ?side3 A17.out).mono ?_); (case side1 => exact r6b1_); (case side2 => exact r6f5_); (case side3 => exact HG.out); rintro e w23 ⟨rfl, hi, hb, hk⟩; have n0_ := aA_.mk (Kd.R_mono (Kd.R_keep (aD_.apart (show aD_ w0 _ g x1000_1 x1001_1 from r6b1_) (kR HO_225003) (by decide)) hk (fun _ h => h.2)) (fun _ h => h.1)); have n1_ := aA_.mk (aJ_.blk hk (g' := gb220) (o := .cells #[.int .i64 x221000_1, .string x221001_1, .string x221002_1, .slice none 0 0, .bool x221004_1] 45 (0, 0)) (bK BK220) NB220_0.out (by simp)); have n2_ := aA_.mk (aJ_.blk hk (g' := gb224) (o := .cells #[.int .i64 1, .string t221, .string (⟨#[]⟩ : ByteArray), u225003, .bool x225004_1] 45 (0, 0)) (bK BK224) NB224_0.out (by simp)); have n3_ := aA_.mk (aJ_.trans (r6g6_) hk (.inl rfl)); have n4_ := aA_.mk (hb); have n5_ := aA_.mk (hi); clear HO_225003; clear BK220; clear BK224; clear HK; clear HB; clear HI0; have HO_225003 := n0_; have BK220 := n1_; have BK224 := n2_; have HK := n3_; have HB := n4_; have HI0 := n5_; clear n0_ n1_ n2_ n3_ n4_ n5_; (try clear hb); (try clear hb2); (try clear hk); (try clear hi); obtain ⟨HGz24, hgz24⟩ := HI0.out; have hcz24_0 := a9_ HGz24; have hcz24_1 := bA_ HGz24; have hfz24_0 := aE_ HGz24 0; have hfz24_1 := aE_ HGz24 1; clear HGz24 hgz24) | (go_at_call 54; (with_reducible refine (aK_.calls t226 (⟨#[62]⟩ : ByteArray) t227 true _ ?side1 A18.out).mono ?_); (case side1 => exact Glob.step HG.out (r6f5_)); rintro e w' ⟨rfl, ⟨nd, rfl⟩⟩; (try first | exact ⟨rfl, _, World.drewN_drewN _ _ _⟩ | exact ⟨rfl, _, Eq.trans (World.drewN_drewN _ _ _) (congrArg (World.drewN _) (Nat.add_assoc _ _ _))⟩); have hcz25_0 : w23.cell? ⟨gb224, 0, none⟩ = some (.int .i64 1) := (aC_ BK224.out 0).trans rfl; have hcz25_1 : w23.cell? ⟨gb224, 1, none⟩ = some (.string t221) := (aC_ BK224.out 1).trans rfl; have hcz25_2 : w23.cell? ⟨gb224, 2, none⟩ = some (.string (⟨#[]⟩ : ByteArray)) := (aC_ BK224.out 2).trans rfl; have hcz25_3 : w23.cell? ⟨gb224, 3, none⟩ = some (u225003) := (aC_ BK224.out 3).trans rfl; have hcz25_4 : w23.cell? ⟨gb224, 4, none⟩ = some (.bool x225004_1) := (aC_ BK224.out 4).trans rfl; have hfz25_0 := aE_ BK224.out 0; have hfz25_1 := aE_ BK224.out 1; have hfz25_2 := aE_ BK224.out 2; have hfz25_3 := aE_ BK224.out 3; have hfz25_4 := aE_ BK224.out 4; have hnb26 := NB220_0.out; have hnc26 := NB0_220.out; have hcz27_0 : w23.cell? ⟨gb220, 0, none⟩ = some (.int .i64 x221000_1) := (aC_ BK220.out 0).trans rfl; have hcz27_1 : w23.cell? ⟨gb220, 1, none⟩ = some (.string x221001_1) := (aC_ BK220.out 1).trans rfl; have hcz27_2 : w23.cell? ⟨gb220, 2, none⟩ = some (.string x221002_1) := (aC_ BK220.out 2).trans rfl; have hcz27_3 : w23.cell? ⟨gb220, 3, none⟩ = some (.slice none 0 0) := (aC_ BK220.out 3).trans rfl; have hcz27_4 : w23.cell? ⟨gb220, 4, none⟩ = some (.bool x221004_1) := (aC_ BK220.out 4).trans rfl; have hfz27_0 := aE_ BK220.out 0; have hfz27_1 := aE_ BK220.out 1; have hfz27_2 := aE_ BK220.out 2; have hfz27_3 := aE_ BK220.out 3; have hfz27_4 := aE_ BK220.out 4; obtain ⟨Ao28, co28, eo28⟩ := Kd.R_slice HO_225003.out; subst eo28)))
   refine bodyPost_ret (b8_ rfl _ _ gb220 45 #[.int .i64 1, .string t221, .string (⟨#[]⟩ : ByteArray), .slice Ao28 x225003_1.length co28, .bool x225004_1] (0, 0) _ rfl (by (with_reducible repeat (first | refine aZ_ ?_ _ | refine a0_ ?_ | refine aV_ ?_ _)); refine cS_ (cs := #[.int .i64 1, .string t221, .string (⟨#[]⟩ : ByteArray), .slice Ao28 x225003_1.length co28, .bool x221004_1]) ?_ 4 _ rfl; (with_reducible repeat (first | refine aZ_ ?_ _ | refine a0_ ?_ | refine aV_ ?_ _)); refine cS_ (cs := #[.int .i64 1, .string t221, .string (⟨#[]⟩ : ByteArray), .slice none 0 0, .bool x221004_1]) ?_ 3 _ rfl; (with_reducible repeat (first | refine aZ_ ?_ _ | refine a0_ ?_ | refine aV_ ?_ _)); refine cS_ (cs := #[.int .i64 1, .string t221, .string x221002_1, .slice none 0 0, .bool x221004_1]) ?_ 2 _ rfl; (with_reducible repeat (first | refine aZ_ ?_ _ | refine a0_ ?_ | refine aV_ ?_ _)); refine cS_ (cs := #[.int .i64 1, .string x221001_1, .string x221002_1, .slice none 0 0, .bool x221004_1]) ?_ 1 _ rfl; (with_reducible repeat (first | refine aZ_ ?_ _ | refine a0_ ?_ | refine aV_ ?_ _)); refine cS_ (cs := #[.int .i64 x221000_1, .string x221001_1, .string x221002_1, .slice none 0 0, .bool x221004_1]) ?_ 0 _ rfl; (with_reducible repeat (first | refine aZ_ ?_ _ | refine a0_ ?_ | refine aV_ ?_ _)); refine bT_ ?_ NB220_0.out _; (with_reducible repeat (first | refine aZ_ ?_ _ | refine a0_ ?_ | refine aV_ ?_ _)); exact BK220.out) Tryz.underlying45 rfl (by kernel_rfl)) rfl ?_
   exact ⟨_, by first | rfl | (simp [bL_, bK_] <;> rfl) | (simp [*, bL_, bK_] <;> rfl), by (with_reducible repeat (first | apply Kd.R_alloc | apply Kd.R_drewN | apply Kd.R_drew)); exact Kd.R_mono (Kd.R_far (p := ⟨gb220, 4, none⟩) (Kd.R_far (p := ⟨gb220, 3, none⟩) (Kd.R_far (p := ⟨gb220, 2, none⟩) (Kd.R_far (p := ⟨gb220, 1, none⟩) (Kd.R_far (p := ⟨gb220, 0, none⟩) (Kd.R_far (p := ⟨g, 1, none⟩) (Kd.R_types (aD_.apart HI0.out HO_225003.out (by decide)) BK220.out (by decide)) (fun _ hk => hk.1.2) (.int .i64 (wrap64 (t227 + 1)))) (fun _ hk => hk.2) (.int .i64 1)) (fun _ hk => hk.2) (.string t221)) (fun _ hk => hk.2) (.string (⟨#[]⟩ : ByteArray))) (fun _ hk => hk.2) (.slice Ao28 x225003_1.length co28)) (fun _ hk => hk.2) (.bool x225004_1)) (fun _ hk => trivial), r6b1_, r6f5_, r6g6_⟩
  replace c19 := Bool.eq_false_iff.mpr c19
  subst c19
  replace H : ((aK_.f t226 (⟨#[47, 62]⟩ : ByteArray) t227).bind fun t229 => (if t229 = true then (some (1, t221, (⟨#[]⟩ : ByteArray), x225003_1, true, true, t226, wrap64 (t227 + 2))) else (if t225 = 0 then (some (1, t221, (⟨#[]⟩ : ByteArray), x225003_1, x225004_1, false, t226, t227)) else ((aY_.f k1 t226 t227).bind fun bt230 => (if bt230.2.2.1 = true then (aT_.l1 k1 0 bt230.2.2.2.1 bt230.2.2.2.2 1 t221 (⟨#[]⟩ : ByteArray) x225003_1 x225004_1 bt230.1 bt230.2.1) else (some (1, t221, (⟨#[]⟩ : ByteArray), x225003_1, x225004_1, false, bt230.2.2.2.1, bt230.2.2.2.2))))))) = some (r1, r2, r3, r4, r5, r6, r7, r8) := by rw [if_neg nF] at H; exact H
  replace H := bi H
  obtain ⟨t229, A290, H⟩ := H
  try dsimp only at H
  have A29 := aA_.mk A290
  clear A290
  by_cases c30 : t229 = true
  ·subst c30
   replace H : (some (1, t221, (⟨#[]⟩ : ByteArray), x225003_1, true, true, t226, wrap64 (t227 + 2))) = some (r1, r2, r3, r4, r5, r6, r7, r8) := by rw [if_pos rfl] at H; exact H
   simp only [Option.some.injEq, Prod.mk.injEq] at H
   obtain ⟨rfl, rfl, rfl, rfl, rfl, rfl, rfl, rfl⟩ := H
   have hnb31 := NB224_220.out
   have hnc31 := NB220_224.out
   have hnb32 := NB224_0.out
   have hnc32 := NB0_224.out
   have hcz33_0 : wr.cell? ⟨gb224, 0, none⟩ = some (.int .i64 1) := (aC_ BK224.out 0).trans rfl
   have hcz33_1 : wr.cell? ⟨gb224, 1, none⟩ = some (.string t221) := (aC_ BK224.out 1).trans rfl
   have hcz33_2 : wr.cell? ⟨gb224, 2, none⟩ = some (.string (⟨#[]⟩ : ByteArray)) := (aC_ BK224.out 2).trans rfl
   have hcz33_3 : wr.cell? ⟨gb224, 3, none⟩ = some (u225003) := (aC_ BK224.out 3).trans rfl
   have hcz33_4 : wr.cell? ⟨gb224, 4, none⟩ = some (.bool x225004_1) := (aC_ BK224.out 4).trans rfl
   have hfz33_0 := aE_ BK224.out 0
   have hfz33_1 := aE_ BK224.out 1
   have hfz33_2 := aE_ BK224.out 2
   have hfz33_3 := aE_ BK224.out 3
   have hfz33_4 := aE_ BK224.out 4
   go_wp2_with (first | (go_at_call 75; (with_reducible refine (aP_.calls k1 g x1000_1 x1001_1 t225 t226 t227 w0 _ ?side1 ?side2 ?side3 A17.out).mono ?_); (case side1 => exact r6b1_); (case side2 => exact r6f5_); (case side3 => exact HG.out); rintro e w34 ⟨rfl, hi, hb, hk⟩; replace HO_225003 := aA_.mk (Kd.R_mono (Kd.R_keep (aD_.apart (show aD_ w0 _ g x1000_1 x1001_1 from r6b1_) (kR HO_225003) (by decide)) hk (fun _ h => h.2)) (fun _ h => h.1)); replace BK220 := aA_.mk (aJ_.blk hk (g' := gb220) (o := .cells #[.int .i64 x221000_1, .string x221001_1, .string x221002_1, .slice none 0 0, .bool x221004_1] 45 (0, 0)) (bK BK220) NB220_0.out (by simp)); replace BK224 := aA_.mk (aJ_.blk hk (g' := gb224) (o := .cells #[.int .i64 1, .string t221, .string (⟨#[]⟩ : ByteArray), u225003, .bool x225004_1] 45 (0, 0)) (bK BK224) NB224_0.out (by simp)); replace HK := aA_.mk (aJ_.trans (r6g6_) hk (.inl rfl)); replace HB := aA_.mk (hb); replace HI0 := aA_.mk (hi); (try clear hb); (try clear hk); (try clear hi); obtain ⟨HGz35, hgz35⟩ := HI0.out; have hcz35_0 := a9_ HGz35; have hcz35_1 := bA_ HGz35; have hfz35_0 := aE_ HGz35 0; have hfz35_1 := aE_ HGz35 1; clear HGz35 hgz35) | (go_at_call 54; (with_reducible refine (aK_.calls t226 (⟨#[62]⟩ : ByteArray) t227 false _ ?side1 A18.out).mono ?_); (case side1 => exact Glob.step HG.out (r6f5_)); rintro e w' ⟨rfl, ⟨nd, rfl⟩⟩; (try first | exact ⟨rfl, _, World.drewN_drewN _ _ _⟩ | exact ⟨rfl, _, Eq.trans (World.drewN_drewN _ _ _) (congrArg (World.drewN _) (Nat.add_assoc _ _ _))⟩)) | (go_at_call 54; (with_reducible refine (aK_.calls t226 (⟨#[47, 62]⟩ : ByteArray) t227 true _ ?side1 A29.out).mono ?_); (case side1 => exact Glob.step HG.out (r6f5_)); rintro e w' ⟨rfl, ⟨nd, rfl⟩⟩; (try first | exact ⟨rfl, _, World.drewN_drewN _ _ _⟩ | exact ⟨rfl, _, Eq.trans (World.drewN_drewN _ _ _) (congrArg (World.drewN _) (Nat.add_assoc _ _ _))⟩); have hcz36_0 : w34.cell? ⟨gb224, 0, none⟩ = some (.int .i64 1) := (aC_ BK224.out 0).trans rfl; have hcz36_1 : w34.cell? ⟨gb224, 1, none⟩ = some (.string t221) := (aC_ BK224.out 1).trans rfl; have hcz36_2 : w34.cell? ⟨gb224, 2, none⟩ = some (.string (⟨#[]⟩ : ByteArray)) := (aC_ BK224.out 2).trans rfl; have hcz36_3 : w34.cell? ⟨gb224, 3, none⟩ = some (u225003) := (aC_ BK224.out 3).trans rfl; have hcz36_4 : w34.cell? ⟨gb224, 4, none⟩ = some (.bool x225004_1) := (aC_ BK224.out 4).trans rfl; have hfz36_0 := aE_ BK224.out 0; have hfz36_1 := aE_ BK224.out 1; have hfz36_2 := aE_ BK224.out 2; have hfz36_3 := aE_ BK224.out 3; have hfz36_4 := aE_ BK224.out 4; have hnb37 := NB220_0.out; have hnc37 := NB0_220.out; have hcz38_0 : w34.cell? ⟨gb220, 0, none⟩ = some (.int .i64 x221000_1) := (aC_ BK220.out 0).trans rfl; have hcz38_1 : w34.cell? ⟨gb220, 1, none⟩ = some (.string x221001_1) := (aC_ BK220.out 1).trans rfl; have hcz38_2 : w34.cell? ⟨gb220, 2, none⟩ = some (.string x221002_1) := (aC_ BK220.out 2).trans rfl; have hcz38_3 : w34.cell? ⟨gb220, 3, none⟩ = some (.slice none 0 0) := (aC_ BK220.out 3).trans rfl; have hcz38_4 : w34.cell? ⟨gb220, 4, none⟩ = some (.bool x221004_1) := (aC_ BK220.out 4).trans rfl; have hfz38_0 := aE_ BK220.out 0; have hfz38_1 := aE_ BK220.out 1; have hfz38_2 := aE_ BK220.out 2; have hfz38_3 := aE_ BK220.out 3; have hfz38_4 := aE_ BK220.out 4; obtain ⟨Ao39, co39, eo39⟩ := Kd.R_slice HO_225003.out; subst eo39))
   repeat (go_quiet (first | (go_at_call 54; (with_reducible refine (aK_.calls t226 (⟨#[62]⟩ : ByteArray) t227 false _ ?side1 A18.out).mono ?_); (case side1 => exact Glob.step HG.out (r6f5_)); rintro e w' ⟨rfl, ⟨nd, rfl⟩⟩; (try first | exact ⟨rfl, _, World.drewN_drewN _ _ _⟩ | exact ⟨rfl, _, Eq.trans (World.drewN_drewN _ _ _) (congrArg (World.drewN _) (Nat.add_assoc _ _ _))⟩)) | (go_at_call 54; (with_reducible refine (aK_.calls t226 (⟨#[47, 62]⟩ : ByteArray) t227 true _ ?side1 A29.out).mono ?_); (case side1 => exact Glob.step HG.out (r6f5_)); rintro e w' ⟨rfl, ⟨nd, rfl⟩⟩; (try first | exact ⟨rfl, _, World.drewN_drewN _ _ _⟩ | exact ⟨rfl, _, Eq.trans (World.drewN_drewN _ _ _) (congrArg (World.drewN _) (Nat.add_assoc _ _ _))⟩); have hcz36_0 : w34.cell? ⟨gb224, 0, none⟩ = some (.int .i64 1) := (aC_ BK224.out 0).trans rfl; have hcz36_1 : w34.cell? ⟨gb224, 1, none⟩ = some (.string t221) := (aC_ BK224.out 1).trans rfl; have hcz36_2 : w34.cell? ⟨gb224, 2, none⟩ = some (.string (⟨#[]⟩ : ByteArray)) := (aC_ BK224.out 2).trans rfl; have hcz36_3 : w34.cell? ⟨gb224, 3, none⟩ = some (u225003) := (aC_ BK224.out 3).trans rfl; have hcz36_4 : w34.cell? ⟨gb224, 4, none⟩ = some (.bool x225004_1) := (aC_ BK224.out 4).trans rfl; have hfz36_0 := aE_ BK224.out 0; have hfz36_1 := aE_ BK224.out 1; have hfz36_2 := aE_ BK224.out 2; have hfz36_3 := aE_ BK224.out 3; have hfz36_4 := aE_ BK224.out 4; have hnb37 := NB220_0.out; have hnc37 := NB0_220.out; have hcz38_0 : w34.cell? ⟨gb220, 0, none⟩ = some (.int .i64 x221000_1) := (aC_ BK220.out 0).trans rfl; have hcz38_1 : w34.cell? ⟨gb220, 1, none⟩ = some (.string x221001_1) := (aC_ BK220.out 1).trans rfl; have hcz38_2 : w34.cell? ⟨gb220, 2, none⟩ = some (.string x221002_1) := (aC_ BK220.out 2).trans rfl; have hcz38_3 : w34.cell? ⟨gb220, 3, none⟩ = some (.slice none 0 0) := (aC_ BK220.out 3).trans rfl; have hcz38_4 : w34.cell? ⟨gb220, 4, none⟩ = some (.bool x221004_1) := (aC_ BK220.out 4).trans rfl; have hfz38_0 := aE_ BK220.out 0; have hfz38_1 := aE_ BK220.out 1; have hfz38_2 := aE_ BK220.out 2; have hfz38_3 := aE_ BK220.out 3; have hfz38_4 := aE_ BK220.out 4; obtain ⟨Ao39, co39, eo39⟩ := Kd.R_slice HO_225003.out; subst eo39)); try go_wp2_with (first | (go_at_call 75; (with_reducible refine (aP_.calls k1 g x1000_1 x1001_1 t225 t226 t227 w0 _ ?side1 ?side2 ?side3 A17.out).mono ?_); (case side1 => exact r6b1_); (case side2 => exact r6f5_); (case side3 => exact HG.out); rintro e w34 ⟨rfl, hi, hb, hk⟩; have n0_ := aA_.mk (Kd.R_mono (Kd.R_keep (aD_.apart (show aD_ w0 _ g x1000_1 x1001_1 from r6b1_) (kR HO_225003) (by decide)) hk (fun _ h => h.2)) (fun _ h => h.1)); have n1_ := aA_.mk (aJ_.blk hk (g' := gb220) (o := .cells #[.int .i64 x221000_1, .string x221001_1, .string x221002_1, .slice none 0 0, .bool x221004_1] 45 (0, 0)) (bK BK220) NB220_0.out (by simp)); have n2_ := aA_.mk (aJ_.blk hk (g' := gb224) (o := .cells #[.int .i64 1, .string t221, .string (⟨#[]⟩ : ByteArray), u225003, .bool x225004_1] 45 (0, 0)) (bK BK224) NB224_0.out (by simp)); have n3_ := aA_.mk (aJ_.trans (r6g6_) hk (.inl rfl)); have n4_ := aA_.mk (hb); have n5_ := aA_.mk (hi); clear HO_225003; clear BK220; clear BK224; clear HK; clear HB; clear HI0; have HO_225003 := n0_; have BK220 := n1_; have BK224 := n2_; have HK := n3_; have HB := n4_; have HI0 := n5_; clear n0_ n1_ n2_ n3_ n4_ n5_; (try clear hb); (try clear hb2); (try clear hk); (try clear hi); obtain ⟨HGz35, hgz35⟩ := HI0.out; have hcz35_0 := a9_ HGz35; have hcz35_1 := bA_ HGz35; have hfz35_0 := aE_ HGz35 0; have hfz35_1 := aE_ HGz35 1; clear HGz35 hgz35) | (go_at_call 54; (with_reducible refine (aK_.calls t226 (⟨#[62]⟩ : ByteArray) t227 false _ ?side1 A18.out).mono ?_); (case side1 => exact Glob.step HG.out (r6f5_)); rintro e w' ⟨rfl, ⟨nd, rfl⟩⟩; (try first | exact ⟨rfl, _, World.drewN_drewN _ _ _⟩ | exact ⟨rfl, _, Eq.trans (World.drewN_drewN _ _ _) (congrArg (World.drewN _) (Nat.add_assoc _ _ _))⟩)) | (go_at_call 54; (with_reducible refine (aK_.calls t226 (⟨#[47, 62]⟩ : ByteArray) t227 true _ ?side1 A29.out).mono ?_); (case side1 => exact Glob.step HG.out (r6f5_)); rintro e w' ⟨rfl, ⟨nd, rfl⟩⟩; (try first | exact ⟨rfl, _, World.drewN_drewN _ _ _⟩ | exact ⟨rfl, _, Eq.trans (World.drewN_drewN _ _ _) (congrArg (World.drewN _) (Nat.add_assoc _ _ _))⟩); have hcz36_0 : w34.cell? ⟨gb224, 0, none⟩ = some (.int .i64 1) := (aC_ BK224.out 0).trans rfl; have hcz36_1 : w34.cell? ⟨gb224, 1, none⟩ = some (.string t221) := (aC_ BK224.out 1).trans rfl; have hcz36_2 : w34.cell? ⟨gb224, 2, none⟩ = some (.string (⟨#[]⟩ : ByteArray)) := (aC_ BK224.out 2).trans rfl; have hcz36_3 : w34.cell? ⟨gb224, 3, none⟩ = some (u225003) := (aC_ BK224.out 3).trans rfl; have hcz36_4 : w34.cell? ⟨gb224, 4, none⟩ = some (.bool x225004_1) := (aC_ BK224.out 4).trans rfl; have hfz36_0 := aE_ BK224.out 0; have hfz36_1 := aE_ BK224.out 1; have hfz36_2 := aE_ BK224.out 2; have hfz36_3 := aE_ BK224.out 3; have hfz36_4 := aE_ BK224.out 4; have hnb37 := NB220_0.out; have hnc37 := NB0_220.out; have hcz38_0 : w34.cell? ⟨gb220, 0, none⟩ = some (.int .i64 x221000_1) := (aC_ BK220.out 0).trans rfl; have hcz38_1 : w34.cell? ⟨gb220, 1, none⟩ = some (.string x221001_1) := (aC_ BK220.out 1).trans rfl; have hcz38_2 : w34.cell? ⟨gb220, 2, none⟩ = some (.string x221002_1) := (aC_ BK220.out 2).trans rfl; have hcz38_3 : w34.cell? ⟨gb220, 3, none⟩ = some (.slice none 0 0) := (aC_ BK220.out 3).trans rfl; have hcz38_4 : w34.cell? ⟨gb220, 4, none⟩ = some (.bool x221004_1) := (aC_ BK220.out 4).trans rfl; have hfz38_0 := aE_ BK220.out 0; have hfz38_1 := aE_ BK220.out 1; have hfz38_2 := aE_ BK220.out 2; have hfz38_3 := aE_ BK220.out 3; have hfz38_4 := aE_ BK220.out 4; obtain ⟨Ao39, co39, eo39⟩ := Kd.R_slice HO_225003.out; subst eo39)))
   refine bodyPost_ret (b8_ rfl _ _ gb220 45 #[.int .i64 1, .string t221, .string (⟨#[]⟩ : ByteArray), .slice Ao39 x225003_1.length co39, .bool true] (0, 0) _ rfl (by (with_reducible repeat (first | refine aZ_ ?_ _ | refine a0_ ?_ | refine aV_ ?_ _)); refine cS_ (cs := #[.int .i64 1, .string t221, .string (⟨#[]⟩ : ByteArray), .slice Ao39 x225003_1.length co39, .bool x221004_1]) ?_ 4 _ rfl; (with_reducible repeat (first | refine aZ_ ?_ _ | refine a0_ ?_ | refine aV_ ?_ _)); refine cS_ (cs := #[.int .i64 1, .string t221, .string (⟨#[]⟩ : ByteArray), .slice none 0 0, .bool x221004_1]) ?_ 3 _ rfl; (with_reducible repeat (first | refine aZ_ ?_ _ | refine a0_ ?_ | refine aV_ ?_ _)); refine cS_ (cs := #[.int .i64 1, .string t221, .string x221002_1, .slice none 0 0, .bool x221004_1]) ?_ 2 _ rfl; (with_reducible repeat (first | refine aZ_ ?_ _ | refine a0_ ?_ | refine aV_ ?_ _)); refine cS_ (cs := #[.int .i64 1, .string x221001_1, .string x221002_1, .slice none 0 0, .bool x221004_1]) ?_ 1 _ rfl; (with_reducible repeat (first | refine aZ_ ?_ _ | refine a0_ ?_ | refine aV_ ?_ _)); refine cS_ (cs := #[.int .i64 x221000_1, .string x221001_1, .string x221002_1, .slice none 0 0, .bool x221004_1]) ?_ 0 _ rfl; (with_reducible repeat (first | refine aZ_ ?_ _ | refine a0_ ?_ | refine aV_ ?_ _)); refine bT_ ?_ NB220_224.out _; (with_reducible repeat (first | refine aZ_ ?_ _ | refine a0_ ?_ | refine aV_ ?_ _)); refine bT_ ?_ NB220_0.out _; (with_reducible repeat (first | refine aZ_ ?_ _ | refine a0_ ?_ | refine aV_ ?_ _)); exact BK220.out) Tryz.underlying45 rfl (by kernel_rfl)) rfl ?_
   exact ⟨_, by first | rfl | (simp [bL_, bK_] <;> rfl) | (simp [*, bL_, bK_] <;> rfl), by (with_reducible repeat (first | apply Kd.R_alloc | apply Kd.R_drewN | apply Kd.R_drew)); exact Kd.R_mono (Kd.R_far (p := ⟨gb220, 4, none⟩) (Kd.R_far (p := ⟨gb220, 3, none⟩) (Kd.R_far (p := ⟨gb220, 2, none⟩) (Kd.R_far (p := ⟨gb220, 1, none⟩) (Kd.R_far (p := ⟨gb220, 0, none⟩) (Kd.R_far (p := ⟨gb224, 4, none⟩) (Kd.R_far (p := ⟨g, 1, none⟩) (Kd.R_types (Kd.R_types (aD_.apart HI0.out HO_225003.out (by decide)) BK224.out (by decide)) BK220.out (by decide)) (fun _ hk => hk.1.1.2) (.int .i64 (wrap64 (t227 + 2)))) (fun _ hk => hk.1.2) (.bool true)) (fun _ hk => hk.2) (.int .i64 1)) (fun _ hk => hk.2) (.string t221)) (fun _ hk => hk.2) (.string (⟨#[]⟩ : ByteArray))) (fun _ hk => hk.2) (.slice Ao39 x225003_1.length co39)) (fun _ hk => hk.2) (.bool true)) (fun _ hk => trivial), r6b1_, r6f5_, r6g6_⟩
  replace c30 := Bool.eq_false_iff.mpr c30
  subst c30
  replace H : (if t225 = 0 then (some (1, t221, (⟨#[]⟩ : ByteArray), x225003_1, x225004_1, false, t226, t227)) else ((aY_.f k1 t226 t227).bind fun bt230 => (if bt230.2.2.1 = true then (aT_.l1 k1 0 bt230.2.2.2.1 bt230.2.2.2.2 1 t221 (⟨#[]⟩ : ByteArray) x225003_1 x225004_1 bt230.1 bt230.2.1) else (some (1, t221, (⟨#[]⟩ : ByteArray), x225003_1, x225004_1, false, bt230.2.2.2.1, bt230.2.2.2.2))))) = some (r1, r2, r3, r4, r5, r6, r7, r8) := by rw [if_neg nF] at H; exact H
  by_cases c40 : t225 = 0
  ·rw [if_pos c40] at H
   obtain ⟨c40b0, c40b1⟩ := eqT c40
   clear c40
   simp only [Option.some.injEq, Prod.mk.injEq] at H
   obtain ⟨rfl, rfl, rfl, rfl, rfl, rfl, rfl, rfl⟩ := H
   have hnb41 := NB224_220.out
   have hnc41 := NB220_224.out
   have hnb42 := NB224_0.out
   have hnc42 := NB0_224.out
   have hcz43_0 : wr.cell? ⟨gb224, 0, none⟩ = some (.int .i64 1) := (aC_ BK224.out 0).trans rfl
   have hcz43_1 : wr.cell? ⟨gb224, 1, none⟩ = some (.string t221) := (aC_ BK224.out 1).trans rfl
   have hcz43_2 : wr.cell? ⟨gb224, 2, none⟩ = some (.string (⟨#[]⟩ : ByteArray)) := (aC_ BK224.out 2).trans rfl
   have hcz43_3 : wr.cell? ⟨gb224, 3, none⟩ = some (u225003) := (aC_ BK224.out 3).trans rfl
   have hcz43_4 : wr.cell? ⟨gb224, 4, none⟩ = some (.bool x225004_1) := (aC_ BK224.out 4).trans rfl
   have hfz43_0 := aE_ BK224.out 0
   have hfz43_1 := aE_ BK224.out 1
   have hfz43_2 := aE_ BK224.out 2
   have hfz43_3 := aE_ BK224.out 3
   have hfz43_4 := aE_ BK224.out 4
   go_wp2_with (first | (go_at_call 75; (with_reducible refine (aP_.calls k1 g x1000_1 x1001_1 t225 t226 t227 w0 _ ?side1 ?side2 ?side3 A17.out).mono ?_); (case side1 => exact r6b1_); (case side2 => exact r6f5_); (case side3 => exact HG.out); rintro e w44 ⟨rfl, hi, hb, hk⟩; replace HO_225003 := aA_.mk (Kd.R_mono (Kd.R_keep (aD_.apart (show aD_ w0 _ g x1000_1 x1001_1 from r6b1_) (kR HO_225003) (by decide)) hk (fun _ h => h.2)) (fun _ h => h.1)); replace BK220 := aA_.mk (aJ_.blk hk (g' := gb220) (o := .cells #[.int .i64 x221000_1, .string x221001_1, .string x221002_1, .slice none 0 0, .bool x221004_1] 45 (0, 0)) (bK BK220) NB220_0.out (by simp)); replace BK224 := aA_.mk (aJ_.blk hk (g' := gb224) (o := .cells #[.int .i64 1, .string t221, .string (⟨#[]⟩ : ByteArray), u225003, .bool x225004_1] 45 (0, 0)) (bK BK224) NB224_0.out (by simp)); replace HK := aA_.mk (aJ_.trans (r6g6_) hk (.inl rfl)); replace HB := aA_.mk (hb); replace HI0 := aA_.mk (hi); (try clear hb); (try clear hk); (try clear hi); obtain ⟨HGz45, hgz45⟩ := HI0.out; have hcz45_0 := a9_ HGz45; have hcz45_1 := bA_ HGz45; have hfz45_0 := aE_ HGz45 0; have hfz45_1 := aE_ HGz45 1; clear HGz45 hgz45) | (go_at_call 54; (with_reducible refine (aK_.calls t226 (⟨#[62]⟩ : ByteArray) t227 false _ ?side1 A18.out).mono ?_); (case side1 => exact Glob.step HG.out (r6f5_)); rintro e w' ⟨rfl, ⟨nd, rfl⟩⟩; (try first | exact ⟨rfl, _, World.drewN_drewN _ _ _⟩ | exact ⟨rfl, _, Eq.trans (World.drewN_drewN _ _ _) (congrArg (World.drewN _) (Nat.add_assoc _ _ _))⟩)) | (go_at_call 54; (with_reducible refine (aK_.calls t226 (⟨#[47, 62]⟩ : ByteArray) t227 false _ ?side1 A29.out).mono ?_); (case side1 => exact Glob.step HG.out (r6f5_)); rintro e w' ⟨rfl, ⟨nd, rfl⟩⟩; (try first | exact ⟨rfl, _, World.drewN_drewN _ _ _⟩ | exact ⟨rfl, _, Eq.trans (World.drewN_drewN _ _ _) (congrArg (World.drewN _) (Nat.add_assoc _ _ _))⟩); have hcz46_0 : w44.cell? ⟨gb224, 0, none⟩ = some (.int .i64 1) := (aC_ BK224.out 0).trans rfl; have hcz46_1 : w44.cell? ⟨gb224, 1, none⟩ = some (.string t221) := (aC_ BK224.out 1).trans rfl; have hcz46_2 : w44.cell? ⟨gb224, 2, none⟩ = some (.string (⟨#[]⟩ : ByteArray)) := (aC_ BK224.out 2).trans rfl; have hcz46_3 : w44.cell? ⟨gb224, 3, none⟩ = some (u225003) := (aC_ BK224.out 3).trans rfl; have hcz46_4 : w44.cell? ⟨gb224, 4, none⟩ = some (.bool x225004_1) := (aC_ BK224.out 4).trans rfl; have hfz46_0 := aE_ BK224.out 0; have hfz46_1 := aE_ BK224.out 1; have hfz46_2 := aE_ BK224.out 2; have hfz46_3 := aE_ BK224.out 3; have hfz46_4 := aE_ BK224.out 4; have hnb47 := NB220_0.out; have hnc47 := NB0_220.out; have hcz48_0 : w44.cell? ⟨gb220, 0, none⟩ = some (.int .i64 x221000_1) := (aC_ BK220.out 0).trans rfl; have hcz48_1 : w44.cell? ⟨gb220, 1, none⟩ = some (.string x221001_1) := (aC_ BK220.out 1).trans rfl; have hcz48_2 : w44.cell? ⟨gb220, 2, none⟩ = some (.string x221002_1) := (aC_ BK220.out 2).trans rfl; have hcz48_3 : w44.cell? ⟨gb220, 3, none⟩ = some (.slice none 0 0) := (aC_ BK220.out 3).trans rfl; have hcz48_4 : w44.cell? ⟨gb220, 4, none⟩ = some (.bool x221004_1) := (aC_ BK220.out 4).trans rfl; have hfz48_0 := aE_ BK220.out 0; have hfz48_1 := aE_ BK220.out 1; have hfz48_2 := aE_ BK220.out 2; have hfz48_3 := aE_ BK220.out 3; have hfz48_4 := aE_ BK220.out 4; obtain ⟨Ao49, co49, eo49⟩ := Kd.R_slice HO_225003.out; subst eo49))
   repeat (go_quiet (first | (go_at_call 54; (with_reducible refine (aK_.calls t226 (⟨#[62]⟩ : ByteArray) t227 false _ ?side1 A18.out).mono ?_); (case side1 => exact Glob.step HG.out (r6f5_)); rintro e w' ⟨rfl, ⟨nd, rfl⟩⟩; (try first | exact ⟨rfl, _, World.drewN_drewN _ _ _⟩ | exact ⟨rfl, _, Eq.trans (World.drewN_drewN _ _ _) (congrArg (World.drewN _) (Nat.add_assoc _ _ _))⟩)) | (go_at_call 54; (with_reducible refine (aK_.calls t226 (⟨#[47, 62]⟩ : ByteArray) t227 false _ ?side1 A29.out).mono ?_); (case side1 => exact Glob.step HG.out (r6f5_)); rintro e w' ⟨rfl, ⟨nd, rfl⟩⟩; (try first | exact ⟨rfl, _, World.drewN_drewN _ _ _⟩ | exact ⟨rfl, _, Eq.trans (World.drewN_drewN _ _ _) (congrArg (World.drewN _) (Nat.add_assoc _ _ _))⟩); have hcz46_0 : w44.cell? ⟨gb224, 0, none⟩ = some (.int .i64 1) := (aC_ BK224.out 0).trans rfl; have hcz46_1 : w44.cell? ⟨gb224, 1, none⟩ = some (.string t221) := (aC_ BK224.out 1).trans rfl; have hcz46_2 : w44.cell? ⟨gb224, 2, none⟩ = some (.string (⟨#[]⟩ : ByteArray)) := (aC_ BK224.out 2).trans rfl; have hcz46_3 : w44.cell? ⟨gb224, 3, none⟩ = some (u225003) := (aC_ BK224.out 3).trans rfl; have hcz46_4 : w44.cell? ⟨gb224, 4, none⟩ = some (.bool x225004_1) := (aC_ BK224.out 4).trans rfl; have hfz46_0 := aE_ BK224.out 0; have hfz46_1 := aE_ BK224.out 1; have hfz46_2 := aE_ BK224.out 2; have hfz46_3 := aE_ BK224.out 3; have hfz46_4 := aE_ BK224.out 4; have hnb47 := NB220_0.out; have hnc47 := NB0_220.out; have hcz48_0 : w44.cell? ⟨gb220, 0, none⟩ = some (.int .i64 x221000_1) := (aC_ BK220.out 0).trans rfl; have hcz48_1 : w44.cell? ⟨gb220, 1, none⟩ = some (.string x221001_1) := (aC_ BK220.out 1).trans rfl; have hcz48_2 : w44.cell? ⟨gb220, 2, none⟩ = some (.string x221002_1) := (aC_ BK220.out 2).trans rfl; have hcz48_3 : w44.cell? ⟨gb220, 3, none⟩ = some (.slice none 0 0) := (aC_ BK220.out 3).trans rfl; have hcz48_4 : w44.cell? ⟨gb220, 4, none⟩ = some (.bool x221004_1) := (aC_ BK220.out 4).trans rfl; have hfz48_0 := aE_ BK220.out 0; have hfz48_1 := aE_ BK220.out 1; have hfz48_2 := aE_ BK220.out 2; have hfz48_3 := aE_ BK220.out 3; have hfz48_4 := aE_ BK220.out 4; obtain ⟨Ao49, co49, eo49⟩ := Kd.R_slice HO_225003.out; subst eo49)); try go_wp2_with (first | (go_at_call 75; (with_reducible refine (aP_.calls k1 g x1000_1 x1001_1 t225 t226 t227 w0 _ ?side1 ?side2 ?side3 A17.out).mono ?_); (case side1 => exact r6b1_); (case side2 => exact r6f5_); (case side3 => exact HG.out); rintro e w44 ⟨rfl, hi, hb, hk⟩; have n0_ := aA_.mk (Kd.R_mono (Kd.R_keep (aD_.apart (show aD_ w0 _ g x1000_1 x1001_1 from r6b1_) (kR HO_225003) (by decide)) hk (fun _ h => h.2)) (fun _ h => h.1)); have n1_ := aA_.mk (aJ_.blk hk (g' := gb220) (o := .cells #[.int .i64 x221000_1, .string x221001_1, .string x221002_1, .slice none 0 0, .bool x221004_1] 45 (0, 0)) (bK BK220) NB220_0.out (by simp)); have n2_ := aA_.mk (aJ_.blk hk (g' := gb224) (o := .cells #[.int .i64 1, .string t221, .string (⟨#[]⟩ : ByteArray), u225003, .bool x225004_1] 45 (0, 0)) (bK BK224) NB224_0.out (by simp)); have n3_ := aA_.mk (aJ_.trans (r6g6_) hk (.inl rfl)); have n4_ := aA_.mk (hb); have n5_ := aA_.mk (hi); clear HO_225003; clear BK220; clear BK224; clear HK; clear HB; clear HI0; have HO_225003 := n0_; have BK220 := n1_; have BK224 := n2_; have HK := n3_; have HB := n4_; have HI0 := n5_; clear n0_ n1_ n2_ n3_ n4_ n5_; (try clear hb); (try clear hb2); (try clear hk); (try clear hi); obtain ⟨HGz45, hgz45⟩ := HI0.out; have hcz45_0 := a9_ HGz45; have hcz45_1 := bA_ HGz45; have hfz45_0 := aE_ HGz45 0; have hfz45_1 := aE_ HGz45 1; clear HGz45 hgz45) | (go_at_call 54; (with_reducible refine (aK_.calls t226 (⟨#[62]⟩ : ByteArray) t227 false _ ?side1 A18.out).mono ?_); (case side1 => exact Glob.step HG.out (r6f5_)); rintro e w' ⟨rfl, ⟨nd, rfl⟩⟩; (try first | exact ⟨rfl, _, World.drewN_drewN _ _ _⟩ | exact ⟨rfl, _, Eq.trans (World.drewN_drewN _ _ _) (congrArg (World.drewN _) (Nat.add_assoc _ _ _))⟩)) | (go_at_call 54; (with_reducible refine (aK_.calls t226 (⟨#[47, 62]⟩ : ByteArray) t227 false _ ?side1 A29.out).mono ?_); (case side1 => exact Glob.step HG.out (r6f5_)); rintro e w' ⟨rfl, ⟨nd, rfl⟩⟩; (try first | exact ⟨rfl, _, World.drewN_drewN _ _ _⟩ | exact ⟨rfl, _, Eq.trans (World.drewN_drewN _ _ _) (congrArg (World.drewN _) (Nat.add_assoc _ _ _))⟩); have hcz46_0 : w44.cell? ⟨gb224, 0, none⟩ = some (.int .i64 1) := (aC_ BK224.out 0).trans rfl; have hcz46_1 : w44.cell? ⟨gb224, 1, none⟩ = some (.string t221) := (aC_ BK224.out 1).trans rfl; have hcz46_2 : w44.cell? ⟨gb224, 2, none⟩ = some (.string (⟨#[]⟩ : ByteArray)) := (aC_ BK224.out 2).trans rfl; have hcz46_3 : w44.cell? ⟨gb224, 3, none⟩ = some (u225003) := (aC_ BK224.out 3).trans rfl; have hcz46_4 : w44.cell? ⟨gb224, 4, none⟩ = some (.bool x225004_1) := (aC_ BK224.out 4).trans rfl; have hfz46_0 := aE_ BK224.out 0; have hfz46_1 := aE_ BK224.out 1; have hfz46_2 := aE_ BK224.out 2; have hfz46_3 := aE_ BK224.out 3; have hfz46_4 := aE_ BK224.out 4; have hnb47 := NB220_0.out; have hnc47 := NB0_220.out; have hcz48_0 : w44.cell? ⟨gb220, 0, none⟩ = some (.int .i64 x221000_1) := (aC_ BK220.out 0).trans rfl; have hcz48_1 : w44.cell? ⟨gb220, 1, none⟩ = some (.string x221001_1) := (aC_ BK220.out 1).trans rfl; have hcz48_2 : w44.cell? ⟨gb220, 2, none⟩ = some (.string x221002_1) := (aC_ BK220.out 2).trans rfl; have hcz48_3 : w44.cell? ⟨gb220, 3, none⟩ = some (.slice none 0 0) := (aC_ BK220.out 3).trans rfl; have hcz48_4 : w44.cell? ⟨gb220, 4, none⟩ = some (.bool x221004_1) := (aC_ BK220.out 4).trans rfl; have hfz48_0 := aE_ BK220.out 0; have hfz48_1 := aE_ BK220.out 1; have hfz48_2 := aE_ BK220.out 2; have hfz48_3 := aE_ BK220.out 3; have hfz48_4 := aE_ BK220.out 4; obtain ⟨Ao49, co49, eo49⟩ := Kd.R_slice HO_225003.out; subst eo49)))
   refine bodyPost_ret (b8_ rfl _ _ gb220 45 #[.int .i64 1, .string t221, .string (⟨#[]⟩ : ByteArray), .slice Ao49 x225003_1.length co49, .bool x225004_1] (0, 0) _ rfl (bP BK220) Tryz.underlying45 rfl (by kernel_rfl)) rfl ?_
   exact ⟨_, by first | rfl | (simp [bL_, bK_] <;> rfl) | (simp [*, bL_, bK_] <;> rfl), by (with_reducible repeat (first | apply Kd.R_alloc | apply Kd.R_drewN | apply Kd.R_drew)); exact Kd.R_mono (Kd.R_far (p := ⟨gb220, 4, none⟩) (Kd.R_far (p := ⟨gb220, 3, none⟩) (Kd.R_far (p := ⟨gb220, 2, none⟩) (Kd.R_far (p := ⟨gb220, 1, none⟩) (Kd.R_far (p := ⟨gb220, 0, none⟩) (Kd.R_types HO_225003.out BK220.out (by decide)) (fun _ hk => hk.2) (.int .i64 1)) (fun _ hk => hk.2) (.string t221)) (fun _ hk => hk.2) (.string (⟨#[]⟩ : ByteArray))) (fun _ hk => hk.2) (.slice Ao49 x225003_1.length co49)) (fun _ hk => hk.2) (.bool x225004_1)) (fun _ hk => trivial), r6b1_, r6f5_, r6g6_⟩
  rw [if_neg c40] at H
  obtain ⟨c40b0, c40b1⟩ := eqF c40
  replace H := bi H
  obtain ⟨⟨t230, t231, t232, t233, t234⟩, A500, H⟩ := H
  try dsimp only at H
  have A50 := aA_.mk A500
  clear A500
  by_cases c51 : t232 = true
  rotate_left
  ·replace c51 := Bool.eq_false_iff.mpr c51
   subst c51
   replace H : (some (1, t221, (⟨#[]⟩ : ByteArray), x225003_1, x225004_1, false, t233, t234)) = some (r1, r2, r3, r4, r5, r6, r7, r8) := by rw [if_neg nF] at H; exact H
   simp only [Option.some.injEq, Prod.mk.injEq] at H
   obtain ⟨rfl, rfl, rfl, rfl, rfl, rfl, rfl, rfl⟩ := H
   have hnb96 := NB224_220.out
   have hnc96 := NB220_224.out
   have hnb97 := NB224_0.out
   have hnc97 := NB0_224.out
   have hcz98_0 : wr.cell? ⟨gb224, 0, none⟩ = some (.int .i64 1) := (aC_ BK224.out 0).trans rfl
   have hcz98_1 : wr.cell? ⟨gb224, 1, none⟩ = some (.string t221) := (aC_ BK224.out 1).trans rfl
   have hcz98_2 : wr.cell? ⟨gb224, 2, none⟩ = some (.string (⟨#[]⟩ : ByteArray)) := (aC_ BK224.out 2).trans rfl
   have hcz98_3 : wr.cell? ⟨gb224, 3, none⟩ = some (u225003) := (aC_ BK224.out 3).trans rfl
   have hcz98_4 : wr.cell? ⟨gb224, 4, none⟩ = some (.bool x225004_1) := (aC_ BK224.out 4).trans rfl
   have hfz98_0 := aE_ BK224.out 0
   have hfz98_1 := aE_ BK224.out 1
   have hfz98_2 := aE_ BK224.out 2
   have hfz98_3 := aE_ BK224.out 3
   have hfz98_4 := aE_ BK224.out 4
   go_wp2_with (first | (go_at_call 75; (with_reducible refine (aP_.calls k1 g x1000_1 x1001_1 t225 t226 t227 w0 _ ?side1 ?side2 ?side3 A17.out).mono ?_); (case side1 => exact r6b1_); (case side2 => exact r6f5_); (case side3 => exact HG.out); rintro e w99 ⟨rfl, hi, hb, hk⟩; replace HO_225003 := aA_.mk (Kd.R_mono (Kd.R_keep (aD_.apart (show aD_ w0 _ g x1000_1 x1001_1 from r6b1_) (kR HO_225003) (by decide)) hk (fun _ h => h.2)) (fun _ h => h.1)); replace BK220 := aA_.mk (aJ_.blk hk (g' := gb220) (o := .cells #[.int .i64 x221000_1, .string x221001_1, .string x221002_1, .slice none 0 0, .bool x221004_1] 45 (0, 0)) (bK BK220) NB220_0.out (by simp)); replace BK224 := aA_.mk (aJ_.blk hk (g' := gb224) (o := .cells #[.int .i64 1, .string t221, .string (⟨#[]⟩ : ByteArray), u225003, .bool x225004_1] 45 (0, 0)) (bK BK224) NB224_0.out (by simp)); replace HK := aA_.mk (aJ_.trans (r6g6_) hk (.inl rfl)); replace HB := aA_.mk (hb); replace HI0 := aA_.mk (hi); (try clear hb); (try clear hk); (try clear hi); obtain ⟨HGz100, hgz100⟩ := HI0.out; have hcz100_0 := a9_ HGz100; have hcz100_1 := bA_ HGz100; have hfz100_0 := aE_ HGz100 0; have hfz100_1 := aE_ HGz100 1; clear HGz100 hgz100) | (go_at_call 54; (with_reducible refine (aK_.calls t226 (⟨#[62]⟩ : ByteArray) t227 false _ ?side1 A18.out).mono ?_); (case side1 => exact Glob.step HG.out (r6f5_)); rintro e w' ⟨rfl, ⟨nd, rfl⟩⟩; (try first | exact ⟨rfl, _, World.drewN_drewN _ _ _⟩ | exact ⟨rfl, _, Eq.trans (World.drewN_drewN _ _ _) (congrArg (World.drewN _) (Nat.add_assoc _ _ _))⟩)) | (go_at_call 54; (with_reducible refine (aK_.calls t226 (⟨#[47, 62]⟩ : ByteArray) t227 false _ ?side1 A29.out).mono ?_); (case side1 => exact Glob.step HG.out (r6f5_)); rintro e w' ⟨rfl, ⟨nd, rfl⟩⟩; (try first | exact ⟨rfl, _, World.drewN_drewN _ _ _⟩ | exact ⟨rfl, _, Eq.trans (World.drewN_drewN _ _ _) (congrArg (World.drewN _) (Nat.add_assoc _ _ _))⟩)) | (go_at_call 76; (with_reducible refine (aY_.calls k1 g t226 t227 t230 t231 false t233 t234 w0 _ ?side1 ?side2 ?side3 A50.out).mono ?_); (case side1 => exact r6b1_); (case side2 => exact r6f5_); (case side3 => exact HG.out); rintro e w101 ⟨rfl, hi, hb, hk⟩; replace HO_225003 := aA_.mk (Kd.R_mono (Kd.R_keep (aD_.apart (show aD_ w0 _ g t226 t227 from r6b1_) (kR HO_225003) (by decide)) hk (fun _ h => h.2)) (fun _ h => h.1)); replace BK220 := aA_.mk (aJ_.blk hk (g' := gb220) (o := .cells #[.int .i64 x221000_1, .string x221001_1, .string x221002_1, .slice none 0 0, .bool x221004_1] 45 (0, 0)) (bK BK220) NB220_0.out (by simp)); replace BK224 := aA_.mk (aJ_.blk hk (g' := gb224) (o := .cells #[.int .i64 1, .string t221, .string (⟨#[]⟩ : ByteArray), u225003, .bool x225004_1] 45 (0, 0)) (bK BK224) NB224_0.out (by simp)); replace HK := aA_.mk (aJ_.trans (r6g6_) hk (.inl rfl)); replace HB := aA_.mk (hb); replace HI0 := aA_.mk (hi); (try clear hb); (try clear hk); (try clear hi)) | (refine be 6 #[.string (⟨#[]⟩ : ByteArray), .string (⟨#[]⟩ : ByteArray)] 53 ?_; intro gb235 hg w102 hbox hb; replace HO_225003 := aA_.mk (Kd.R_below (Kd.R_elderB (kR HO_225003) gb235 (Nat.le_of_eq hg.symm)) hb); replace HB := aA_.mk (bG_ (r6f5_) hb); have BK235 := aA_.mk (hbox); have GW235 := aA_.mk ((by rw [hg]; exact (bF_ (w := w) (g := g) (row := none) (r6g6_)) : w.heap.size ≤ gb235)); have GE235 := aA_.mk ((Nat.le_trans HW0.out (by rw [hg]; exact (bF_ (w := w) (g := g) (row := none) (r6g6_)) : w.heap.size ≤ gb235) : w0.heap.size ≤ gb235)); replace HK := aA_.mk (aJ_.trans (r6g6_) (aJ_.of_below hb g none) (.inl rfl)); have NB220_235 := nL BK220 hg; have NB235_220 := nG BK220 hg; replace BK220 := kB BK220 hb; have NB224_235 := nL BK224 hg; have NB235_224 := nG BK224 hg; replace BK224 := kB BK224 hb; have NB0_235 := aA_.mk ((by rw [hg]; exact Nat.ne_of_lt (aD_.lt (show aD_ w0 _ g t233 t234 from r6b1_)) : g ≠ gb235)); have NB235_0 := aA_.mk ((by rw [hg]; exact Nat.ne_of_gt (aD_.lt (show aD_ w0 _ g t233 t234 from r6b1_)) : gb235 ≠ g)); replace HI0 := aA_.mk (aD_.below (r6b1_) hb); clear hb hbox hg; have hnb103 := NB235_220.out; have hnc103 := NB220_235.out; have hnb104 := NB235_224.out; have hnc104 := NB224_235.out; have hnb105 := NB235_0.out; have hnc105 := NB0_235.out; have hcz106_0 : w102.cell? ⟨gb235, 0, none⟩ = some (.string (⟨#[]⟩ : ByteArray)) := (aC_ BK235.out 0).trans rfl; have hcz106_1 : w102.cell? ⟨gb235, 1, none⟩ = some (.string (⟨#[]⟩ : ByteArray)) := (aC_ BK235.out 1).trans rfl; have hfz106_0 := aE_ BK235.out 0; have hfz106_1 := aE_ BK235.out 1; have hcz107_0 : w102.cell? ⟨gb224, 0, none⟩ = some (.int .i64 1) := (aC_ BK224.out 0).trans rfl; have hcz107_1 : w102.cell? ⟨gb224, 1, none⟩ = some (.string t221) := (aC_ BK224.out 1).trans rfl; have hcz107_2 : w102.cell? ⟨gb224, 2, none⟩ = some (.string (⟨#[]⟩ : ByteArray)) := (aC_ BK224.out 2).trans rfl; have hcz107_3 : w102.cell? ⟨gb224, 3, none⟩ = some (u225003) := (aC_ BK224.out 3).trans rfl; have hcz107_4 : w102.cell? ⟨gb224, 4, none⟩ = some (.bool x225004_1) := (aC_ BK224.out 4).trans rfl; have hfz107_0 := aE_ BK224.out 0; have hfz107_1 := aE_ BK224.out 1; have hfz107_2 := aE_ BK224.out 2; have hfz107_3 := aE_ BK224.out 3; have hfz107_4 := aE_ BK224.out 4; have hnb108 := NB220_0.out; have hnc108 := NB0_220.out; have hcz109_0 : w102.cell? ⟨gb220, 0, none⟩ = some (.int .i64 x221000_1) := (aC_ BK220.out 0).trans rfl; have hcz109_1 : w102.cell? ⟨gb220, 1, none⟩ = some (.string x221001_1) := (aC_ BK220.out 1).trans rfl; have hcz109_2 : w102.cell? ⟨gb220, 2, none⟩ = some (.string x221002_1) := (aC_ BK220.out 2).trans rfl; have hcz109_3 : w102.cell? ⟨gb220, 3, none⟩ = some (.slice none 0 0) := (aC_ BK220.out 3).trans rfl; have hcz109_4 : w102.cell? ⟨gb220, 4, none⟩ = some (.bool x221004_1) := (aC_ BK220.out 4).trans rfl; have hfz109_0 := aE_ BK220.out 0; have hfz109_1 := aE_ BK220.out 1; have hfz109_2 := aE_ BK220.out 2; have hfz109_3 := aE_ BK220.out 3; have hfz109_4 := aE_ BK220.out 4; obtain ⟨Ao110, co110, eo110⟩ := Kd.R_slice HO_225003.out; subst eo110))
   repeat (go_quiet (first | (go_at_call 54; (with_reducible refine (aK_.calls t226 (⟨#[62]⟩ : ByteArray) t227 false _ ?side1 A18.out).mono ?_); (case side1 => exact Glob.step HG.out (r6f5_)); rintro e w' ⟨rfl, ⟨nd, rfl⟩⟩; (try first | exact ⟨rfl, _, World.drewN_drewN _ _ _⟩ | exact ⟨rfl, _, Eq.trans (World.drewN_drewN _ _ _) (congrArg (World.drewN _) (Nat.add_assoc _ _ _))⟩)) | (go_at_call 54; (with_reducible refine (aK_.calls t226 (⟨#[47, 62]⟩ : ByteArray) t227 false _ ?side1 A29.out).mono ?_); (case side1 => exact Glob.step HG.out (r6f5_)); rintro e w' ⟨rfl, ⟨nd, rfl⟩⟩; (try first | exact ⟨rfl, _, World.drewN_drewN _ _ _⟩ | exact ⟨rfl, _, Eq.trans (World.drewN_drewN _ _ _) (congrArg (World.drewN _) (Nat.add_assoc _ _ _))⟩))); try go_wp2_with (first | (go_at_call 75; (with_reducible refine (aP_.calls k1 g x1000_1 x1001_1 t225 t226 t227 w0 _ ?side1 ?side2 ?side3 A17.out).mono ?_); (case side1 => exact r6b1_); (case side2 => exact r6f5_); (case side3 => exact HG.out); rintro e w99 ⟨rfl, hi, hb, hk⟩; have n0_ := aA_.mk (Kd.R_mono (Kd.R_keep (aD_.apart (show aD_ w0 _ g x1000_1 x1001_1 from r6b1_) (kR HO_225003) (by decide)) hk (fun _ h => h.2)) (fun _ h => h.1)); have n1_ := aA_.mk (aJ_.blk hk (g' := gb220) (o := .cells #[.int .i64 x221000_1, .string x221001_1, .string x221002_1, .slice none 0 0, .bool x221004_1] 45 (0, 0)) (bK BK220) NB220_0.out (by simp)); have n2_ := aA_.mk (aJ_.blk hk (g' := gb224) (o := .cells #[.int .i64 1, .string t221, .string (⟨#[]⟩ : ByteArray), u225003, .bool x225004_1] 45 (0, 0)) (bK BK224) NB224_0.out (by simp)); have n3_ := aA_.mk (aJ_.trans (r6g6_) hk (.inl rfl)); have n4_ := aA_.mk (hb); have n5_ := aA_.mk (hi); clear HO_225003; clear BK220; clear BK224; clear HK; clear HB; clear HI0; have HO_225003 := n0_; have BK220 := n1_; have BK224 := n2_; have HK := n3_; have HB := n4_; have HI0 := n5_; clear n0_ n1_ n2_ n3_ n4_ n5_; (try clear hb); (try clear hb2); (try clear hk); (try clear hi); obtain ⟨HGz100, hgz100⟩ := HI0.out; have hcz100_0 := a9_ HGz100; have hcz100_1 := bA_ HGz100; have hfz100_0 := aE_ HGz100 0; have hfz100_1 := aE_ HGz100 1; clear HGz100 hgz100) | (go_at_call 54; (with_reducible refine (aK_.calls t226 (⟨#[62]⟩ : ByteArray) t227 false _ ?side1 A18.out).mono ?_); (case side1 => exact Glob.step HG.out (r6f5_)); rintro e w' ⟨rfl, ⟨nd, rfl⟩⟩; (try first | exact ⟨rfl, _, World.drewN_drewN _ _ _⟩ | exact ⟨rfl, _, Eq.trans (World.drewN_drewN _ _ _) (congrArg (World.drewN _) (Nat.add_assoc _ _ _))⟩)) | (go_at_call 54; (with_reducible refine (aK_.calls t226 (⟨#[47, 62]⟩ : ByteArray) t227 false _ ?side1 A29.out).mono ?_); (case side1 => exact Glob.step HG.out (r6f5_)); rintro e w' ⟨rfl, ⟨nd, rfl⟩⟩; (try first | exact ⟨rfl, _, World.drewN_drewN _ _ _⟩ | exact ⟨rfl, _, Eq.trans (World.drewN_drewN _ _ _) (congrArg (World.drewN _) (Nat.add_assoc _ _ _))⟩)) | (go_at_call 76; (with_reducible refine (aY_.calls k1 g t226 t227 t230 t231 false t233 t234 w0 _ ?side1 ?side2 ?side3 A50.out).mono ?_); (case side1 => exact r6b1_); (case side2 => exact r6f5_); (case side3 => exact HG.out); rintro e w101 ⟨rfl, hi, hb, hk⟩; have n0_ := aA_.mk (Kd.R_mono (Kd.R_keep (aD_.apart (show aD_ w0 _ g t226 t227 from r6b1_) (kR HO_225003) (by decide)) hk (fun _ h => h.2)) (fun _ h => h.1)); have n1_ := aA_.mk (aJ_.blk hk (g' := gb220) (o := .cells #[.int .i64 x221000_1, .string x221001_1, .string x221002_1, .slice none 0 0, .bool x221004_1] 45 (0, 0)) (bK BK220) NB220_0.out (by simp)); have n2_ := aA_.mk (aJ_.blk hk (g' := gb224) (o := .cells #[.int .i64 1, .string t221, .string (⟨#[]⟩ : ByteArray), u225003, .bool x225004_1] 45 (0, 0)) (bK BK224) NB224_0.out (by simp)); have n3_ := aA_.mk (aJ_.trans (r6g6_) hk (.inl rfl)); have n4_ := aA_.mk (hb); have n5_ := aA_.mk (hi); clear HO_225003; clear BK220; clear BK224; clear HK; clear HB; clear HI0; have HO_225003 := n0_; have BK220 := n1_; have BK224 := n2_; have HK := n3_; have HB := n4_; have HI0 := n5_; clear n0_ n1_ n2_ n3_ n4_ n5_; (try clear hb); (try clear hb2); (try clear hk); (try clear hi)) | ((with_reducible refine cV_ (N := 6) rfl ?_); refine dG_ ?hg (N := 6) ?hd (cs := #[.string (⟨#[]⟩ : ByteArray), .string (⟨#[]⟩ : ByteArray)]) (t := 53) ?hr ?_; (case hd => rfl); (case hg => rfl); (case hr => first | (go_simp; done) | (go_simp; rfl)); intro gb235 hg w102 hbox hb; have n0_ := aA_.mk (Kd.R_below (Kd.R_elderB (kR HO_225003) gb235 (Nat.le_of_eq hg.symm)) hb); have n1_ := aA_.mk (b4_ (g := gb220) (o := .cells #[.int .i64 x221000_1, .string x221001_1, .string x221002_1, .slice none 0 0, .bool x221004_1] 45 (0, 0)) (bK BK220) hb); have n2_ := aA_.mk (b4_ (g := gb224) (o := .cells #[.int .i64 1, .string t221, .string (⟨#[]⟩ : ByteArray), u225003, .bool x225004_1] 45 (0, 0)) (bK BK224) hb); have n3_ := aA_.mk (aD_.below (r6b1_) hb); have n4_ := aA_.mk (aJ_.trans (r6g6_) (aJ_.of_below hb g none) (.inl rfl)); have n5_ := aA_.mk (bG_ (r6f5_) hb); have n6_ := aA_.mk (hbox); have n7_ := aA_.mk ((by rw [hg]; exact (bF_ (w := w) (g := g) (row := none) (r6g6_)) : w.heap.size ≤ gb235)); have n8_ := aA_.mk ((Nat.le_trans HW0.out (by rw [hg]; exact (bF_ (w := w) (g := g) (row := none) (r6g6_)) : w.heap.size ≤ gb235) : w0.heap.size ≤ gb235)); have n9_ := aA_.mk ((by rw [hg]; exact Nat.ne_of_lt (cT_ (g := gb220) (o := .cells #[.int .i64 x221000_1, .string x221001_1, .string x221002_1, .slice none 0 0, .bool x221004_1] 45 (0, 0)) (bK BK220)) : gb220 ≠ gb235)); have n10_ := aA_.mk ((by rw [hg]; exact Nat.ne_of_gt (cT_ (g := gb220) (o := .cells #[.int .i64 x221000_1, .string x221001_1, .string x221002_1, .slice none 0 0, .bool x221004_1] 45 (0, 0)) (bK BK220)) : gb235 ≠ gb220)); have n11_ := aA_.mk ((by rw [hg]; exact Nat.ne_of_lt (cT_ (g := gb224) (o := .cells #[.int .i64 1, .string t221, .string (⟨#[]⟩ : ByteArray), u225003, .bool x225004_1] 45 (0, 0)) (bK BK224)) : gb224 ≠ gb235)); have n12_ := aA_.mk ((by rw [hg]; exact Nat.ne_of_gt (cT_ (g := gb224) (o := .cells #[.int .i64 1, .string t221, .string (⟨#[]⟩ : ByteArray), u225003, .bool x225004_1] 45 (0, 0)) (bK BK224)) : gb235 ≠ gb224)); have n13_ := aA_.mk ((by rw [hg]; exact Nat.ne_of_lt (aD_.lt (show aD_ w0 _ g t233 t234 from r6b1_)) : g ≠ gb235)); have n14_ := aA_.mk ((by rw [hg]; exact Nat.ne_of_gt (aD_.lt (show aD_ w0 _ g t233 t234 from r6b1_)) : gb235 ≠ g)); clear HO_225003; clear BK220; clear BK224; clear HI0; clear HK; clear HB; have HO_225003 := n0_; have BK220 := n1_; have BK224 := n2_; have HI0 := n3_; have HK := n4_; have HB := n5_; have BK235 := n6_; have GW235 := n7_; have GE235 := n8_; have NB220_235 := n9_; have NB235_220 := n10_; have NB224_235 := n11_; have NB235_224 := n12_; have NB0_235 := n13_; have NB235_0 := n14_; clear n0_ n1_ n2_ n3_ n4_ n5_ n6_ n7_ n8_ n9_ n10_ n11_ n12_ n13_ n14_; clear hb hbox hg; have hnb103 := NB235_220.out; have hnc103 := NB220_235.out; have hnb104 := NB235_224.out; have hnc104 := NB224_235.out; have hnb105 := NB235_0.out; have hnc105 := NB0_235.out; have hcz106_0 : w102.cell? ⟨gb235, 0, none⟩ = some (.string (⟨#[]⟩ : ByteArray)) := (aC_ BK235.out 0).trans rfl; have hcz106_1 : w102.cell? ⟨gb235, 1, none⟩ = some (.string (⟨#[]⟩ : ByteArray)) := (aC_ BK235.out 1).trans rfl; have hfz106_0 := aE_ BK235.out 0; have hfz106_1 := aE_ BK235.out 1; have hcz107_0 : w102.cell? ⟨gb224, 0, none⟩ = some (.int .i64 1) := (aC_ BK224.out 0).trans rfl; have hcz107_1 : w102.cell? ⟨gb224, 1, none⟩ = some (.string t221) := (aC_ BK224.out 1).trans rfl; have hcz107_2 : w102.cell? ⟨gb224, 2, none⟩ = some (.string (⟨#[]⟩ : ByteArray)) := (aC_ BK224.out 2).trans rfl; have hcz107_3 : w102.cell? ⟨gb224, 3, none⟩ = some (u225003) := (aC_ BK224.out 3).trans rfl; have hcz107_4 : w102.cell? ⟨gb224, 4, none⟩ = some (.bool x225004_1) := (aC_ BK224.out 4).trans rfl; have hfz107_0 := aE_ BK224.out 0; have hfz107_1 := aE_ BK224.out 1; have hfz107_2 := aE_ BK224.out 2; have hfz107_3 := aE_ BK224.out 3; have hfz107_4 := aE_ BK224.out 4; have hnb108 := NB220_0.out; have hnc108 := NB0_220.out; have hcz109_0 : w102.cell? ⟨gb220, 0, none⟩ = some (.int .i64 x221000_1) := (aC_ BK220.out 0).trans rfl; have hcz109_1 : w102.cell? ⟨gb220, 1, none⟩ = some (.string x221001_1) := (aC_ BK220.out 1).trans rfl; have hcz109_2 : w102.cell? ⟨gb220, 2, none⟩ = some (.string x221002_1) := (aC_ BK220.out 2).trans rfl; have hcz109_3 : w102.cell? ⟨gb220, 3, none⟩ = some (.slice none 0 0) := (aC_ BK220.out 3).trans rfl; have hcz109_4 : w102.cell? ⟨gb220, 4, none⟩ = some (.bool x221004_1) := (aC_ BK220.out 4).trans rfl; have hfz109_0 := aE_ BK220.out 0; have hfz109_1 := aE_ BK220.out 1; have hfz109_2 := aE_ BK220.out 2; have hfz109_3 := aE_ BK220.out 3; have hfz109_4 := aE_ BK220.out 4; obtain ⟨Ao110, co110, eo110⟩ := Kd.R_slice HO_225003.out; subst eo110)))
   refine bodyPost_ret (b8_ rfl _ _ gb220 45 #[.int .i64 1, .string t221, .string (⟨#[]⟩ : ByteArray), .slice Ao110 x225003_1.length co110, .bool x225004_1] (0, 0) _ rfl (by (with_reducible repeat (first | refine aZ_ ?_ _ | refine a0_ ?_ | refine aV_ ?_ _)); refine cS_ (cs := #[.int .i64 1, .string t221, .string (⟨#[]⟩ : ByteArray), .slice Ao110 x225003_1.length co110, .bool x221004_1]) ?_ 4 _ rfl; (with_reducible repeat (first | refine aZ_ ?_ _ | refine a0_ ?_ | refine aV_ ?_ _)); refine cS_ (cs := #[.int .i64 1, .string t221, .string (⟨#[]⟩ : ByteArray), .slice none 0 0, .bool x221004_1]) ?_ 3 _ rfl; (with_reducible repeat (first | refine aZ_ ?_ _ | refine a0_ ?_ | refine aV_ ?_ _)); refine cS_ (cs := #[.int .i64 1, .string t221, .string x221002_1, .slice none 0 0, .bool x221004_1]) ?_ 2 _ rfl; (with_reducible repeat (first | refine aZ_ ?_ _ | refine a0_ ?_ | refine aV_ ?_ _)); refine cS_ (cs := #[.int .i64 1, .string x221001_1, .string x221002_1, .slice none 0 0, .bool x221004_1]) ?_ 1 _ rfl; (with_reducible repeat (first | refine aZ_ ?_ _ | refine a0_ ?_ | refine aV_ ?_ _)); refine cS_ (cs := #[.int .i64 x221000_1, .string x221001_1, .string x221002_1, .slice none 0 0, .bool x221004_1]) ?_ 0 _ rfl; (with_reducible repeat (first | refine aZ_ ?_ _ | refine a0_ ?_ | refine aV_ ?_ _)); refine bT_ ?_ NB220_235.out _; (with_reducible repeat (first | refine aZ_ ?_ _ | refine a0_ ?_ | refine aV_ ?_ _)); refine bT_ ?_ NB220_235.out _; (with_reducible repeat (first | refine aZ_ ?_ _ | refine a0_ ?_ | refine aV_ ?_ _)); exact BK220.out) Tryz.underlying45 rfl (by kernel_rfl)) rfl ?_
   exact ⟨_, by first | rfl | (simp [bL_, bK_] <;> rfl) | (simp [*, bL_, bK_] <;> rfl), by (with_reducible repeat (first | apply Kd.R_alloc | apply Kd.R_drewN | apply Kd.R_drew)); exact Kd.R_mono (Kd.R_far (p := ⟨gb220, 4, none⟩) (Kd.R_far (p := ⟨gb220, 3, none⟩) (Kd.R_far (p := ⟨gb220, 2, none⟩) (Kd.R_far (p := ⟨gb220, 1, none⟩) (Kd.R_far (p := ⟨gb220, 0, none⟩) (Kd.R_far (p := ⟨gb235, 1, none⟩) (Kd.R_far (p := ⟨gb235, 0, none⟩) (Kd.R_types (Kd.R_mono HO_225003.out (fun k_ hk => (⟨hk, hk.2⟩ : _ ∧ k_ ≠ gb235))) BK220.out (by decide)) (fun _ hk => hk.1.2) (.string t230)) (fun _ hk => hk.1.2) (.string t231)) (fun _ hk => hk.2) (.int .i64 1)) (fun _ hk => hk.2) (.string t221)) (fun _ hk => hk.2) (.string (⟨#[]⟩ : ByteArray))) (fun _ hk => hk.2) (.slice Ao110 x225003_1.length co110)) (fun _ hk => hk.2) (.bool x225004_1)) (fun _ hk => trivial), r6a0_, r6c2_, r6d3_⟩
  subst c51
  replace H : (aT_.l1 k1 0 t233 t234 1 t221 (⟨#[]⟩ : ByteArray) x225003_1 x225004_1 t230 t231) = some (r1, r2, r3, r4, r5, r6, r7, r8) := by rw [if_pos rfl] at H; exact H
  have H' := aA_.mk H
  clear H
  have hnb52 := NB224_220.out
  have hnc52 := NB220_224.out
  have hnb53 := NB224_0.out
  have hnc53 := NB0_224.out
  have hcz54_0 : wr.cell? ⟨gb224, 0, none⟩ = some (.int .i64 1) := (aC_ BK224.out 0).trans rfl
  have hcz54_1 : wr.cell? ⟨gb224, 1, none⟩ = some (.string t221) := (aC_ BK224.out 1).trans rfl
  have hcz54_2 : wr.cell? ⟨gb224, 2, none⟩ = some (.string (⟨#[]⟩ : ByteArray)) := (aC_ BK224.out 2).trans rfl
  have hcz54_3 : wr.cell? ⟨gb224, 3, none⟩ = some (u225003) := (aC_ BK224.out 3).trans rfl
  have hcz54_4 : wr.cell? ⟨gb224, 4, none⟩ = some (.bool x225004_1) := (aC_ BK224.out 4).trans rfl
  have hfz54_0 := aE_ BK224.out 0
  have hfz54_1 := aE_ BK224.out 1
  have hfz54_2 := aE_ BK224.out 2
  have hfz54_3 := aE_ BK224.out 3
  have hfz54_4 := aE_ BK224.out 4
  go_wp2_with (first | (go_at_call 75; (with_reducible refine (aP_.calls k1 g x1000_1 x1001_1 t225 t226 t227 w0 _ ?side1 ?side2 ?side3 A17.out).mono ?_); (case side1 => exact r6b1_); (case side2 => exact r6f5_); (case side3 => exact HG.out); rintro e w55 ⟨rfl, hi, hb, hk⟩; replace HO_225003 := aA_.mk (Kd.R_mono (Kd.R_keep (aD_.apart (show aD_ w0 _ g x1000_1 x1001_1 from r6b1_) (kR HO_225003) (by decide)) hk (fun _ h => h.2)) (fun _ h => h.1)); replace BK220 := aA_.mk (aJ_.blk hk (g' := gb220) (o := .cells #[.int .i64 x221000_1, .string x221001_1, .string x221002_1, .slice none 0 0, .bool x221004_1] 45 (0, 0)) (bK BK220) NB220_0.out (by simp)); replace BK224 := aA_.mk (aJ_.blk hk (g' := gb224) (o := .cells #[.int .i64 1, .string t221, .string (⟨#[]⟩ : ByteArray), u225003, .bool x225004_1] 45 (0, 0)) (bK BK224) NB224_0.out (by simp)); replace HK := aA_.mk (aJ_.trans (r6g6_) hk (.inl rfl)); replace HB := aA_.mk (hb); replace HI0 := aA_.mk (hi); (try clear hb); (try clear hk); (try clear hi); obtain ⟨HGz56, hgz56⟩ := HI0.out; have hcz56_0 := a9_ HGz56; have hcz56_1 := bA_ HGz56; have hfz56_0 := aE_ HGz56 0; have hfz56_1 := aE_ HGz56 1; clear HGz56 hgz56) | (go_at_call 54; (with_reducible refine (aK_.calls t226 (⟨#[62]⟩ : ByteArray) t227 false _ ?side1 A18.out).mono ?_); (case side1 => exact Glob.step HG.out (r6f5_)); rintro e w' ⟨rfl, ⟨nd, rfl⟩⟩; (try first | exact ⟨rfl, _, World.drewN_drewN _ _ _⟩ | exact ⟨rfl, _, Eq.trans (World.drewN_drewN _ _ _) (congrArg (World.drewN _) (Nat.add_assoc _ _ _))⟩)) | (go_at_call 54; (with_reducible refine (aK_.calls t226 (⟨#[47, 62]⟩ : ByteArray) t227 false _ ?side1 A29.out).mono ?_); (case side1 => exact Glob.step HG.out (r6f5_)); rintro e w' ⟨rfl, ⟨nd, rfl⟩⟩; (try first | exact ⟨rfl, _, World.drewN_drewN _ _ _⟩ | exact ⟨rfl, _, Eq.trans (World.drewN_drewN _ _ _) (congrArg (World.drewN _) (Nat.add_assoc _ _ _))⟩)) | (go_at_call 76; (with_reducible refine (aY_.calls k1 g t226 t227 t230 t231 true t233 t234 w0 _ ?side1 ?side2 ?side3 A50.out).mono ?_); (case side1 => exact r6b1_); (case side2 => exact r6f5_); (case side3 => exact HG.out); rintro e w57 ⟨rfl, hi, hb, hk⟩; replace HO_225003 := aA_.mk (Kd.R_mono (Kd.R_keep (aD_.apart (show aD_ w0 _ g t226 t227 from r6b1_) (kR HO_225003) (by decide)) hk (fun _ h => h.2)) (fun _ h => h.1)); replace BK220 := aA_.mk (aJ_.blk hk (g' := gb220) (o := .cells #[.int .i64 x221000_1, .string x221001_1, .string x221002_1, .slice none 0 0, .bool x221004_1] 45 (0, 0)) (bK BK220) NB220_0.out (by simp)); replace BK224 := aA_.mk (aJ_.blk hk (g' := gb224) (o := .cells #[.int .i64 1, .string t221, .string (⟨#[]⟩ : ByteArray), u225003, .bool x225004_1] 45 (0, 0)) (bK BK224) NB224_0.out (by simp)); replace HK := aA_.mk (aJ_.trans (r6g6_) hk (.inl rfl)); replace HB := aA_.mk (hb); replace HI0 := aA_.mk (hi); (try clear hb); (try clear hk); (try clear hi)) | (refine be 6 #[.string (⟨#[]⟩ : ByteArray), .string (⟨#[]⟩ : ByteArray)] 53 ?_; intro gb235 hg w58 hbox hb; replace HO_225003 := aA_.mk (Kd.R_below (Kd.R_elderB (kR HO_225003) gb235 (Nat.le_of_eq hg.symm)) hb); replace HB := aA_.mk (bG_ (r6f5_) hb); have BK235 := aA_.mk (hbox); have GW235 := aA_.mk ((by rw [hg]; exact (bF_ (w := w) (g := g) (row := none) (r6g6_)) : w.heap.size ≤ gb235)); have GE235 := aA_.mk ((Nat.le_trans HW0.out (by rw [hg]; exact (bF_ (w := w) (g := g) (row := none) (r6g6_)) : w.heap.size ≤ gb235) : w0.heap.size ≤ gb235)); replace HK := aA_.mk (aJ_.trans (r6g6_) (aJ_.of_below hb g none) (.inl rfl)); have NB220_235 := nL BK220 hg; have NB235_220 := nG BK220 hg; replace BK220 := kB BK220 hb; have NB224_235 := nL BK224 hg; have NB235_224 := nG BK224 hg; replace BK224 := kB BK224 hb; have NB0_235 := aA_.mk ((by rw [hg]; exact Nat.ne_of_lt (aD_.lt (show aD_ w0 _ g t233 t234 from r6b1_)) : g ≠ gb235)); have NB235_0 := aA_.mk ((by rw [hg]; exact Nat.ne_of_gt (aD_.lt (show aD_ w0 _ g t233 t234 from r6b1_)) : gb235 ≠ g)); replace HI0 := aA_.mk (aD_.below (r6b1_) hb); clear hb hbox hg; have hnb59 := NB235_220.out; have hnc59 := NB220_235.out; have hnb60 := NB235_224.out; have hnc60 := NB224_235.out; have hnb61 := NB235_0.out; have hnc61 := NB0_235.out; have hcz62_0 : w58.cell? ⟨gb235, 0, none⟩ = some (.string (⟨#[]⟩ : ByteArray)) := (aC_ BK235.out 0).trans rfl; have hcz62_1 : w58.cell? ⟨gb235, 1, none⟩ = some (.string (⟨#[]⟩ : ByteArray)) := (aC_ BK235.out 1).trans rfl; have hfz62_0 := aE_ BK235.out 0; have hfz62_1 := aE_ BK235.out 1))
  repeat (go_quiet (first | (go_at_call 54; (with_reducible refine (aK_.calls t226 (⟨#[62]⟩ : ByteArray) t227 false _ ?side1 A18.out).mono ?_); (case side1 => exact Glob.step HG.out (r6f5_)); rintro e w' ⟨rfl, ⟨nd, rfl⟩⟩; (try first | exact ⟨rfl, _, World.drewN_drewN _ _ _⟩ | exact ⟨rfl, _, Eq.trans (World.drewN_drewN _ _ _) (congrArg (World.drewN _) (Nat.add_assoc _ _ _))⟩)) | (go_at_call 54; (with_reducible refine (aK_.calls t226 (⟨#[47, 62]⟩ : ByteArray) t227 false _ ?side1 A29.out).mono ?_); (case side1 => exact Glob.step HG.out (r6f5_)); rintro e w' ⟨rfl, ⟨nd, rfl⟩⟩; (try first | exact ⟨rfl, _, World.drewN_drewN _ _ _⟩ | exact ⟨rfl, _, Eq.trans (World.drewN_drewN _ _ _) (congrArg (World.drewN _) (Nat.add_assoc _ _ _))⟩))); try go_wp2_with (first | (go_at_call 75; (with_reducible refine (aP_.calls k1 g x1000_1 x1001_1 t225 t226 t227 w0 _ ?side1 ?side2 ?side3 A17.out).mono ?_); (case side1 => exact r6b1_); (case side2 => exact r6f5_); (case side3 => exact HG.out); rintro e w55 ⟨rfl, hi, hb, hk⟩; have n0_ := aA_.mk (Kd.R_mono (Kd.R_keep (aD_.apart (show aD_ w0 _ g x1000_1 x1001_1 from r6b1_) (kR HO_225003) (by decide)) hk (fun _ h => h.2)) (fun _ h => h.1)); have n1_ := aA_.mk (aJ_.blk hk (g' := gb220) (o := .cells #[.int .i64 x221000_1, .string x221001_1, .string x221002_1, .slice none 0 0, .bool x221004_1] 45 (0, 0)) (bK BK220) NB220_0.out (by simp)); have n2_ := aA_.mk (aJ_.blk hk (g' := gb224) (o := .cells #[.int .i64 1, .string t221, .string (⟨#[]⟩ : ByteArray), u225003, .bool x225004_1] 45 (0, 0)) (bK BK224) NB224_0.out (by simp)); have n3_ := aA_.mk (aJ_.trans (r6g6_) hk (.inl rfl)); have n4_ := aA_.mk (hb); have n5_ := aA_.mk (hi); clear HO_225003; clear BK220; clear BK224; clear HK; clear HB; clear HI0; have HO_225003 := n0_; have BK220 := n1_; have BK224 := n2_; have HK := n3_; have HB := n4_; have HI0 := n5_; clear n0_ n1_ n2_ n3_ n4_ n5_; (try clear hb); (try clear hb2); (try clear hk); (try clear hi); obtain ⟨HGz56, hgz56⟩ := HI0.out; have hcz56_0 := a9_ HGz56; have hcz56_1 := bA_ HGz56; have hfz56_0 := aE_ HGz56 0; have hfz56_1 := aE_ HGz56 1; clear HGz56 hgz56) | (go_at_call 54; (with_reducible refine (aK_.calls t226 (⟨#[62]⟩ : ByteArray) t227 false _ ?side1 A18.out).mono ?_); (case side1 => exact Glob.step HG.out (r6f5_)); rintro e w' ⟨rfl, ⟨nd, rfl⟩⟩; (try first | exact ⟨rfl, _, World.drewN_drewN _ _ _⟩ | exact ⟨rfl, _, Eq.trans (World.drewN_drewN _ _ _) (congrArg (World.drewN _) (Nat.add_assoc _ _ _))⟩)) | (go_at_call 54; (with_reducible refine (aK_.calls t226 (⟨#[47, 62]⟩ : ByteArray) t227 false _ ?side1 A29.out).mono ?_); (case side1 => exact Glob.step HG.out (r6f5_)); rintro e w' ⟨rfl, ⟨nd, rfl⟩⟩; (try first | exact ⟨rfl, _, World.drewN_drewN _ _ _⟩ | exact ⟨rfl, _, Eq.trans (World.drewN_drewN _ _ _) (congrArg (World.drewN _) (Nat.add_assoc _ _ _))⟩)) | (go_at_call 76; (with_reducible refine (aY_.calls k1 g t226 t227 t230 t231 true t233 t234 w0 _ ?side1 ?side2 ?side3 A50.out).mono ?_); (case side1 => exact r6b1_); (case side2 => exact r6f5_); (case side3 => exact HG.out); rintro e w57 ⟨rfl, hi, hb, hk⟩; have n0_ := aA_.mk (Kd.R_mono (Kd.R_keep (aD_.apart (show aD_ w0 _ g t226 t227 from r6b1_) (kR HO_225003) (by decide)) hk (fun _ h => h.2)) (fun _ h => h.1)); have n1_ := aA_.mk (aJ_.blk hk (g' := gb220) (o := .cells #[.int .i64 x221000_1, .string x221001_1, .string x221002_1, .slice none 0 0, .bool x221004_1] 45 (0, 0)) (bK BK220) NB220_0.out (by simp)); have n2_ := aA_.mk (aJ_.blk hk (g' := gb224) (o := .cells #[.int .i64 1, .string t221, .string (⟨#[]⟩ : ByteArray), u225003, .bool x225004_1] 45 (0, 0)) (bK BK224) NB224_0.out (by simp)); have n3_ := aA_.mk (aJ_.trans (r6g6_) hk (.inl rfl)); have n4_ := aA_.mk (hb); have n5_ := aA_.mk (hi); clear HO_225003; clear BK220; clear BK224; clear HK; clear HB; clear HI0; have HO_225003 := n0_; have BK220 := n1_; have BK224 := n2_; have HK := n3_; have HB := n4_; have HI0 := n5_; clear n0_ n1_ n2_ n3_ n4_ n5_; (try clear hb); (try clear hb2); (try clear hk); (try clear hi)) | ((with_reducible refine cV_ (N := 6) rfl ?_); refine dG_ ?hg (N := 6) ?hd (cs := #[.string (⟨#[]⟩ : ByteArray), .string (⟨#[]⟩ : ByteArray)]) (t := 53) ?hr ?_; (case hd => rfl); (case hg => rfl); (case hr => first | (go_simp; done) | (go_simp; rfl)); intro gb235 hg w58 hbox hb; have n0_ := aA_.mk (Kd.R_below (Kd.R_elderB (kR HO_225003) gb235 (Nat.le_of_eq hg.symm)) hb); have n1_ := aA_.mk (b4_ (g := gb220) (o := .cells #[.int .i64 x221000_1, .string x221001_1, .string x221002_1, .slice none 0 0, .bool x221004_1] 45 (0, 0)) (bK BK220) hb); have n2_ := aA_.mk (b4_ (g := gb224) (o := .cells #[.int .i64 1, .string t221, .string (⟨#[]⟩ : ByteArray), u225003, .bool x225004_1] 45 (0, 0)) (bK BK224) hb); have n3_ := aA_.mk (aD_.below (r6b1_) hb); have n4_ := aA_.mk (aJ_.trans (r6g6_) (aJ_.of_below hb g none) (.inl rfl)); have n5_ := aA_.mk (bG_ (r6f5_) hb); have n6_ := aA_.mk (hbox); have n7_ := aA_.mk ((by rw [hg]; exact (bF_ (w := w) (g := g) (row := none) (r6g6_)) : w.heap.size ≤ gb235)); have n8_ := aA_.mk ((Nat.le_trans HW0.out (by rw [hg]; exact (bF_ (w := w) (g := g) (row := none) (r6g6_)) : w.heap.size ≤ gb235) : w0.heap.size ≤ gb235)); have n9_ := aA_.mk ((by rw [hg]; exact Nat.ne_of_lt (cT_ (g := gb220) (o := .cells #[.int .i64 x221000_1, .string x221001_1, .string x221002_1, .slice none 0 0, .bool x221004_1] 45 (0, 0)) (bK BK220)) : gb220 ≠ gb235)); have n10_ := aA_.mk ((by rw [hg]; exact Nat.ne_of_gt (cT_ (g := gb220) (o := .cells #[.int .i64 x221000_1, .string x221001_1, .string x221002_1, .slice none 0 0, .bool x221004_1] 45 (0, 0)) (bK BK220)) : gb235 ≠ gb220)); have n11_ := aA_.mk ((by rw [hg]; exact Nat.ne_of_lt (cT_ (g := gb224) (o := .cells #[.int .i64 1, .string t221, .string (⟨#[]⟩ : ByteArray), u225003, .bool x225004_1] 45 (0, 0)) (bK BK224)) : gb224 ≠ gb235)); have n12_ := aA_.mk ((by rw [hg]; exact Nat.ne_of_gt (cT_ (g := gb224) (o := .cells #[.int .i64 1, .string t221, .string (⟨#[]⟩ : ByteArray), u225003, .bool x225004_1] 45 (0, 0)) (bK BK224)) : gb235 ≠ gb224)); have n13_ := aA_.mk ((by rw [hg]; exact Nat.ne_of_lt (aD_.lt (show aD_ w0 _ g t233 t234 from r6b1_)) : g ≠ gb235)); have n14_ := aA_.mk ((by rw [hg]; exact Nat.ne_of_gt (aD_.lt (show aD_ w0 _ g t233 t234 from r6b1_)) : gb235 ≠ g)); clear HO_225003; clear BK220; clear BK224; clear HI0; clear HK; clear HB; have HO_225003 := n0_; have BK220 := n1_; have BK224 := n2_; have HI0 := n3_; have HK := n4_; have HB := n5_; have BK235 := n6_; have GW235 := n7_; have GE235 := n8_; have NB220_235 := n9_; have NB235_220 := n10_; have NB224_235 := n11_; have NB235_224 := n12_; have NB0_235 := n13_; have NB235_0 := n14_; clear n0_ n1_ n2_ n3_ n4_ n5_ n6_ n7_ n8_ n9_ n10_ n11_ n12_ n13_ n14_; clear hb hbox hg; have hnb59 := NB235_220.out; have hnc59 := NB220_235.out; have hnb60 := NB235_224.out; have hnc60 := NB224_235.out; have hnb61 := NB235_0.out; have hnc61 := NB0_235.out; have hcz62_0 : w58.cell? ⟨gb235, 0, none⟩ = some (.string (⟨#[]⟩ : ByteArray)) := (aC_ BK235.out 0).trans rfl; have hcz62_1 : w58.cell? ⟨gb235, 1, none⟩ = some (.string (⟨#[]⟩ : ByteArray)) := (aC_ BK235.out 1).trans rfl; have hfz62_0 := aE_ BK235.out 0; have hfz62_1 := aE_ BK235.out 1)))
  (try simp only [Act.put, List.setIfInBounds_toArray, List.set_cons_zero, List.set_cons_succ])
  go_loopg [8] k1 (fun kq v8 w' => ∃ (x8_2 : Int) (x221000_2 : Int) (x221001_2 : ByteArray) (x221002_2 : ByteArray) (x221004_2 : Bool), v8 = .int .i64 x8_2 ∧ aA_ (aT_.l1 kq x8_2 t233 t234 1 t221 (⟨#[]⟩ : ByteArray) x225003_1 x225004_1 t230 t231 = some (r1, r2, r3, r4, r5, r6, r7, r8)) ∧ aA_ (kq ≤ k1) ∧ aA_ (Kd.R k53 53 w' w.heap.size (fun k_ => k_ ≠ gb235) u225003 x225003_1) ∧ aA_ (w'.heap[gb220]? = some (.cells #[.int .i64 x221000_2, .string x221001_2, .string x221002_2, (.slice none 0 0), .bool x221004_2] 45 (0, 0))) ∧ aA_ (w'.heap[gb224]? = some (.cells #[.int .i64 1, .string t221, .string (⟨#[]⟩ : ByteArray), u225003, .bool x225004_1] 45 (0, 0))) ∧ aA_ (w'.heap[gb235]? = some (.cells #[.string t230, .string t231] 53 (0, 0))) ∧ aA_ (aD_ w0 w' g t233 t234) ∧ aA_ (aJ_ w w' g none) ∧ aA_ (Below w0.heap.size w0 w'))
  case atStart => exact ⟨(0), (x221000_1), (x221001_1), (x221002_1), (x221004_1), cA, H', ⟨Nat.le_refl _⟩, ⟨by (with_reducible repeat (first | apply Kd.R_alloc | apply Kd.R_drewN | apply Kd.R_drew)); exact Kd.R_mono (Kd.R_far (p := ⟨gb235, 1, none⟩) (Kd.R_far (p := ⟨gb235, 0, none⟩) (Kd.R_mono HO_225003.out (fun k_ hk => (⟨hk, hk.2⟩ : _ ∧ k_ ≠ gb235))) (fun _ hk => hk.2) (.string t230)) (fun _ hk => hk.2) (.string t231)) (fun _ hk => hk.1.2)⟩, ⟨by (with_reducible repeat (first | refine aZ_ ?_ _ | refine a0_ ?_ | refine aV_ ?_ _)); refine bT_ ?_ NB220_235.out _; (with_reducible repeat (first | refine aZ_ ?_ _ | refine a0_ ?_ | refine aV_ ?_ _)); refine bT_ ?_ NB220_235.out _; (with_reducible repeat (first | refine aZ_ ?_ _ | refine a0_ ?_ | refine aV_ ?_ _)); exact BK220.out⟩, ⟨by (with_reducible repeat (first | refine aZ_ ?_ _ | refine a0_ ?_ | refine aV_ ?_ _)); refine bT_ ?_ NB224_235.out _; (with_reducible repeat (first | refine aZ_ ?_ _ | refine a0_ ?_ | refine aV_ ?_ _)); refine bT_ ?_ NB224_235.out _; (with_reducible repeat (first | refine aZ_ ?_ _ | refine a0_ ?_ | refine aV_ ?_ _)); exact BK224.out⟩, ⟨bP BK235⟩, ⟨r6a0_⟩, ⟨r6d3_⟩, ⟨r6c2_⟩⟩
  clear H'
  try clear c1
  try clear c2
  try clear p2
  try clear c3
  try clear c4
  try clear c5
  try clear c6
  try clear p6
  try clear c7
  try clear c8
  try clear c10
  try clear c10b0
  try clear c10b1
  try clear c10b2
  try clear c11
  try clear c12
  try clear c14
  try clear c19
  try clear c20
  try clear c21
  try clear c26
  try clear c30
  try clear c31
  try clear c32
  try clear c37
  try clear c40
  try clear c40b0
  try clear c40b1
  try clear c41
  try clear c42
  try clear c47
  try clear c51
  try clear c52
  try clear c53
  try clear c58
  try clear c59
  try clear c60
  try clear c61
  try clear hcz13_0
  try clear hcz13_1
  try clear hcz13_2
  try clear hcz13_3
  try clear hcz13_4
  try clear hcz15_0
  try clear hcz15_1
  try clear hcz15_2
  try clear hcz15_3
  try clear hcz15_4
  try clear hcz22_0
  try clear hcz22_1
  try clear hcz22_2
  try clear hcz22_3
  try clear hcz22_4
  try clear hcz24_0
  try clear hcz24_1
  try clear hcz25_0
  try clear hcz25_1
  try clear hcz25_2
  try clear hcz25_3
  try clear hcz25_4
  try clear hcz27_0
  try clear hcz27_1
  try clear hcz27_2
  try clear hcz27_3
  try clear hcz27_4
  try clear hcz33_0
  try clear hcz33_1
  try clear hcz33_2
  try clear hcz33_3
  try clear hcz33_4
  try clear hcz35_0
  try clear hcz35_1
  try clear hcz36_0
  try clear hcz36_1
  try clear hcz36_2
  try clear hcz36_3
  try clear hcz36_4
  try clear hcz38_0
  try clear hcz38_1
  try clear hcz38_2
  try clear hcz38_3
  try clear hcz38_4
  try clear hcz43_0
  try clear hcz43_1
  try clear hcz43_2
  try clear hcz43_3
  try clear hcz43_4
  try clear hcz45_0
  try clear hcz45_1
  try clear hcz46_0
  try clear hcz46_1
  try clear hcz46_2
  try clear hcz46_3
  try clear hcz46_4
  try clear hcz48_0
  try clear hcz48_1
  try clear hcz48_2
  try clear hcz48_3
  try clear hcz48_4
  try clear hcz4_0
  try clear hcz4_1
  try clear hcz54_0
  try clear hcz54_1
  try clear hcz54_2
  try clear hcz54_3
  try clear hcz54_4
  try clear hcz56_0
  try clear hcz56_1
  try clear hcz62_0
  try clear hcz62_1
  try clear hcz9_0
  try clear hcz9_1
  try clear hcz9_2
  try clear hcz9_3
  try clear hcz9_4
  try clear hfz13_0
  try clear hfz13_1
  try clear hfz13_2
  try clear hfz13_3
  try clear hfz13_4
  try clear hfz15_0
  try clear hfz15_1
  try clear hfz15_2
  try clear hfz15_3
  try clear hfz15_4
  try clear hfz22_0
  try clear hfz22_1
  try clear hfz22_2
  try clear hfz22_3
  try clear hfz22_4
  try clear hfz24_0
  try clear hfz24_1
  try clear hfz25_0
  try clear hfz25_1
  try clear hfz25_2
  try clear hfz25_3
  try clear hfz25_4
  try clear hfz27_0
  try clear hfz27_1
  try clear hfz27_2
  try clear hfz27_3
  try clear hfz27_4
  try clear hfz33_0
  try clear hfz33_1
  try clear hfz33_2
  try clear hfz33_3
  try clear hfz33_4
  try clear hfz35_0
  try clear hfz35_1
  try clear hfz36_0
  try clear hfz36_1
  try clear hfz36_2
  try clear hfz36_3
  try clear hfz36_4
  try clear hfz38_0
  try clear hfz38_1
  try clear hfz38_2
  try clear hfz38_3
  try clear hfz38_4
  try clear hfz43_0
  try clear hfz43_1
  try clear hfz43_2
  try clear hfz43_3
  try clear hfz43_4
  try clear hfz45_0
  try clear hfz45_1
  try clear hfz46_0
  try clear hfz46_1
  try clear hfz46_2
  try clear hfz46_3
  try clear hfz46_4
  try clear hfz48_0
  try clear hfz48_1
  try clear hfz48_2
  try clear hfz48_3
  try clear hfz48_4
  try clear hfz4_0
  try clear hfz4_1
  try clear hfz54_0
  try clear hfz54_1
  try clear hfz54_2
  try clear hfz54_3
  try clear hfz54_4
  try clear hfz56_0
  try clear hfz56_1
  try clear hfz62_0
  try clear hfz62_1
  try clear hfz9_0
  try clear hfz9_1
  try clear hfz9_2
  try clear hfz9_3
  try clear hfz9_4
  try clear p2
  try clear p6
  obtain ⟨x8_2, x221000_2, x221001_2, x221002_2, x221004_2, rfl, HA, HK2, HO_225003, BK220, BK224, BK235, HI0, HK, HB⟩ := hrel
  cases gk with
  | zero => exact absurd HA.out (by simp [aT_.l1])
  | succ k2 =>
   have H := HA.out
   clear HA
   simp only [aT_.l1] at H
   (try simp only [toList_lit] at H)
   by_cases c63 : x8_2 < (x225003_1.length : Int)
   rotate_left
   ·rw [if_neg c63] at H
    have c63b0 := dF c63
    clear c63
    obtain ⟨c84, H⟩ := gp H
    have LMc84 := aA_.mk c84
    clear c84
    obtain ⟨y237, hy237⟩ : ∃ y_ : List (S53), y_ = (x225003_1 ++ [(⟨t230, t231⟩ : S53)]) := ⟨_, rfl⟩
    replace H : (aT_.l0 k2 t233 t234 1 t221 (⟨#[]⟩ : ByteArray) y237 x225004_1) = some (r1, r2, r3, r4, r5, r6, r7, r8) := by first | (rw [hy237]; with_reducible exact H) | (have H2_ := (Option.bind_some _ _).symm.trans H; rw [hy237]; with_reducible exact H2_) | (have H2_ := (Option.bind_some _ _).symm.trans H; with_reducible exact H2_) | with_reducible exact H | (rw [hy237]; exact H) | exact H
    have Ny237 := aA_.mk hy237
    clear hy237
    have H' := aA_.mk H
    clear H
    have hnb85 := NB224_220.out
    have hnc85 := NB220_224.out
    have hnb86 := NB224_235.out
    have hnc86 := NB235_224.out
    have hnb87 := NB224_0.out
    have hnc87 := NB0_224.out
    have hcz88_0 : wr.cell? ⟨gb224, 0, none⟩ = some (.int .i64 1) := (aC_ BK224.out 0).trans rfl
    have hcz88_1 : wr.cell? ⟨gb224, 1, none⟩ = some (.string t221) := (aC_ BK224.out 1).trans rfl
    have hcz88_2 : wr.cell? ⟨gb224, 2, none⟩ = some (.string (⟨#[]⟩ : ByteArray)) := (aC_ BK224.out 2).trans rfl
    have hcz88_3 : wr.cell? ⟨gb224, 3, none⟩ = some (u225003) := (aC_ BK224.out 3).trans rfl
    have hcz88_4 : wr.cell? ⟨gb224, 4, none⟩ = some (.bool x225004_1) := (aC_ BK224.out 4).trans rfl
    have hfz88_0 := aE_ BK224.out 0
    have hfz88_1 := aE_ BK224.out 1
    have hfz88_2 := aE_ BK224.out 2
    have hfz88_3 := aE_ BK224.out 3
    have hfz88_4 := aE_ BK224.out 4
    obtain ⟨Ao89, co89, eo89⟩ := Kd.R_slice HO_225003.out
    subst eo89
    have hnb90 := NB235_220.out
    have hnc90 := NB220_235.out
    have hnb91 := NB235_0.out
    have hnc91 := NB0_235.out
    obtain ⟨hcz92_0, hcz92_1, hfz92_0, hfz92_1⟩ := cells2 BK235
    go_wp2_with (first | ((with_reducible refine dZ_ (b := .append) (xs := #[.tmp 92, .tmp 94]) rfl ?_); at_builtin; refine Kd.R_append k53 w.heap.size rfl (.tmp 92) (.tmp 94) 30 53 (.agg #[(.string ⟨#[]⟩), (.string ⟨#[]⟩)]) 32 rfl Tryz.underlying30 info53 rfl (by decide) (by omega) (.slice Ao89 x225003_1.length co89) x225003_1 (⟨t230, t231⟩ : S53) [.string t230, .string t231] (fun k_ => k_ ≠ gb235) (fun _ => False) rfl rfl ?aP (fun _ hk => hk.elim) ?aF ?aO (Below.refl _ _) ?aS ?aL ?_; (case aP => exact k53_mkM _ _ _ (⟨t230, t231⟩ : S53)); (case aF => exact (fun k_ hk => Kd.freshB (g := gb235) (o := .cells #[.string t230, .string t231] 53 (0, 0)) (bK BK235) k_ hk)); (case aO => exact (kR HO_225003)); (case aS => exact (bF_ (w := w) (g := g) (row := none) (r6d3_))); (case aL => have := LMc84.out; omega); intro v238 w93 ho hb hg hat; rw [← Ny237.out] at ho; replace BK220 := aA_.mk (b6_ (g := gb220) (o := .cells #[.int .i64 x221000_2, .string x221001_2, .string x221002_2, .slice none 0 0, .bool x221004_2] 45 (0, 0)) (bK BK220) hg (Kd.R_ne HO_225003.out BK220.out (by decide))); replace BK224 := aA_.mk (b6_ (g := gb224) (o := .cells #[.int .i64 1, .string t221, .string (⟨#[]⟩ : ByteArray), .slice Ao89 x225003_1.length co89, .bool x225004_1] 45 (0, 0)) (bK BK224) hg (Kd.R_ne HO_225003.out BK224.out (by decide))); replace BK235 := aA_.mk (b6_ (g := gb235) (o := .cells #[.string t230, .string t231] 53 (0, 0)) (bK BK235) hg (Kd.R_away HO_225003.out (fun _ hk => hk))); replace HB := aA_.mk (below_weaken (r6c2_) HL.out hb); replace HI0 := aA_.mk (aD_.grown (r6a0_) hg (aD_.own_ne HI0.out HO_225003.out (by decide))); replace HK := aA_.mk (aJ_.trans (r6d3_) (aJ_.of_grown hg g) (Kd.R_base2 HO_225003.out)); have HO239 := aA_.mk (ho); clear HO_225003; clear ho hb hg hat; obtain ⟨Ao94, co94, eo94⟩ := Kd.R_slice HO239.out; subst eo94; have hcz95_0 : w93.cell? ⟨gb224, 0, none⟩ = some (.int .i64 1) := (aC_ BK224.out 0).trans rfl; have hcz95_1 : w93.cell? ⟨gb224, 1, none⟩ = some (.string t221) := (aC_ BK224.out 1).trans rfl; have hcz95_2 : w93.cell? ⟨gb224, 2, none⟩ = some (.string (⟨#[]⟩ : ByteArray)) := (aC_ BK224.out 2).trans rfl; have hcz95_3 : w93.cell? ⟨gb224, 3, none⟩ = some (.slice Ao89 x225003_1.length co89) := (aC_ BK224.out 3).trans rfl; have hcz95_4 : w93.cell? ⟨gb224, 4, none⟩ = some (.bool x225004_1) := (aC_ BK224.out 4).trans rfl; have hfz95_0 := aE_ BK224.out 0; have hfz95_1 := aE_ BK224.out 1; have hfz95_2 := aE_ BK224.out 2; have hfz95_3 := aE_ BK224.out 3; have hfz95_4 := aE_ BK224.out 4))
    repeat (go_quiet (fail); try go_wp2_with (first | ((with_reducible refine dZ_ (b := .append) (xs := #[.tmp 92, .tmp 94]) rfl ?_); at_builtin; refine Kd.R_append k53 w.heap.size rfl (.tmp 92) (.tmp 94) 30 53 (.agg #[(.string ⟨#[]⟩), (.string ⟨#[]⟩)]) 32 rfl Tryz.underlying30 info53 rfl (by decide) (by omega) (.slice Ao89 x225003_1.length co89) x225003_1 (⟨t230, t231⟩ : S53) [.string t230, .string t231] (fun k_ => k_ ≠ gb235) (fun _ => False) rfl rfl ?aP (fun _ hk => hk.elim) ?aF ?aO (Below.refl _ _) ?aS ?aL ?_; (case aP => exact k53_mkM _ _ _ (⟨t230, t231⟩ : S53)); (case aF => exact (fun k_ hk => Kd.freshB (g := gb235) (o := .cells #[.string t230, .string t231] 53 (0, 0)) (bK BK235) k_ hk)); (case aO => exact (kR HO_225003)); (case aS => exact (bF_ (w := w) (g := g) (row := none) (r6d3_))); (case aL => have := LMc84.out; omega); intro v238 w93 ho hb hg hat; rw [← Ny237.out] at ho; have n0_ := aA_.mk (b6_ (g := gb220) (o := .cells #[.int .i64 x221000_2, .string x221001_2, .string x221002_2, .slice none 0 0, .bool x221004_2] 45 (0, 0)) (bK BK220) hg (Kd.R_ne HO_225003.out BK220.out (by decide))); have n1_ := aA_.mk (b6_ (g := gb224) (o := .cells #[.int .i64 1, .string t221, .string (⟨#[]⟩ : ByteArray), .slice Ao89 x225003_1.length co89, .bool x225004_1] 45 (0, 0)) (bK BK224) hg (Kd.R_ne HO_225003.out BK224.out (by decide))); have n2_ := aA_.mk (b6_ (g := gb235) (o := .cells #[.string t230, .string t231] 53 (0, 0)) (bK BK235) hg (Kd.R_away HO_225003.out (fun _ hk => hk))); have n3_ := aA_.mk (aD_.grown (r6a0_) hg (aD_.own_ne HI0.out HO_225003.out (by decide))); have n4_ := aA_.mk (below_weaken (r6c2_) HL.out hb); have n5_ := aA_.mk (aJ_.trans (r6d3_) (aJ_.of_grown hg g) (Kd.R_base2 HO_225003.out)); have n6_ := aA_.mk (ho); clear BK220; clear BK224; clear BK235; clear HI0; clear HB; clear HK; clear HO_225003; have BK220 := n0_; have BK224 := n1_; have BK235 := n2_; have HI0 := n3_; have HB := n4_; have HK := n5_; have HO239 := n6_; clear n0_ n1_ n2_ n3_ n4_ n5_ n6_; clear ho hb hg hat; obtain ⟨Ao94, co94, eo94⟩ := Kd.R_slice HO239.out; subst eo94; have hcz95_0 : w93.cell? ⟨gb224, 0, none⟩ = some (.int .i64 1) := (aC_ BK224.out 0).trans rfl; have hcz95_1 : w93.cell? ⟨gb224, 1, none⟩ = some (.string t221) := (aC_ BK224.out 1).trans rfl; have hcz95_2 : w93.cell? ⟨gb224, 2, none⟩ = some (.string (⟨#[]⟩ : ByteArray)) := (aC_ BK224.out 2).trans rfl; have hcz95_3 : w93.cell? ⟨gb224, 3, none⟩ = some (.slice Ao89 x225003_1.length co89) := (aC_ BK224.out 3).trans rfl; have hcz95_4 : w93.cell? ⟨gb224, 4, none⟩ = some (.bool x225004_1) := (aC_ BK224.out 4).trans rfl; have hfz95_0 := aE_ BK224.out 0; have hfz95_1 := aE_ BK224.out 1; have hfz95_2 := aE_ BK224.out 2; have hfz95_3 := aE_ BK224.out 3; have hfz95_4 := aE_ BK224.out 4)))
    go_roundg k2
    case measure => have := HK1.out; have := HK2.out; omega
    case rel => exact ⟨(t233), (t234), (x221000_2), (x221001_2), (x221002_2), (x221004_2), (y237), (x225004_1), (.slice Ao94 y237.length co94), H', ⟨by have := HK1.out; have := HK2.out; omega⟩, ⟨by (with_reducible repeat (first | apply Kd.R_alloc | apply Kd.R_drewN | apply Kd.R_drew)); exact Kd.R_mono (Kd.R_far (p := ⟨gb224, 3, none⟩) (Kd.R_types HO239.out BK224.out (by decide)) (fun _ hk => hk.2) (.slice Ao94 y237.length co94)) (fun _ hk => trivial)⟩, ⟨by (with_reducible repeat (first | refine aZ_ ?_ _ | refine a0_ ?_ | refine aV_ ?_ _)); refine bT_ ?_ NB220_224.out _; (with_reducible repeat (first | refine aZ_ ?_ _ | refine a0_ ?_ | refine aV_ ?_ _)); exact BK220.out⟩, ⟨bP BK224⟩, ⟨r6a0_⟩, ⟨r6d3_⟩, ⟨r6c2_⟩⟩
   rw [if_pos c63] at H
   have c63b0 := dT c63
   clear c63
   obtain ⟨c64, H⟩ := gp H
   have c64b0 := dT c64
   clear c64
   by_cases c65 : ((cN_ x225003_1 x8_2).f0).toList = t230.toList
   rotate_left
   ·rw [if_neg c65] at H
    obtain ⟨c65b0, c65b1⟩ := eqF c65
    have H' := aA_.mk H
    clear H
    have hnb76 := NB224_220.out
    have hnc76 := NB220_224.out
    have hnb77 := NB224_235.out
    have hnc77 := NB235_224.out
    have hnb78 := NB224_0.out
    have hnc78 := NB0_224.out
    have hcz79_0 : wr.cell? ⟨gb224, 0, none⟩ = some (.int .i64 1) := (aC_ BK224.out 0).trans rfl
    have hcz79_1 : wr.cell? ⟨gb224, 1, none⟩ = some (.string t221) := (aC_ BK224.out 1).trans rfl
    have hcz79_2 : wr.cell? ⟨gb224, 2, none⟩ = some (.string (⟨#[]⟩ : ByteArray)) := (aC_ BK224.out 2).trans rfl
    have hcz79_3 : wr.cell? ⟨gb224, 3, none⟩ = some (u225003) := (aC_ BK224.out 3).trans rfl
    have hcz79_4 : wr.cell? ⟨gb224, 4, none⟩ = some (.bool x225004_1) := (aC_ BK224.out 4).trans rfl
    have hfz79_0 := aE_ BK224.out 0
    have hfz79_1 := aE_ BK224.out 1
    have hfz79_2 := aE_ BK224.out 2
    have hfz79_3 := aE_ BK224.out 3
    have hfz79_4 := aE_ BK224.out 4
    obtain ⟨Ao80, co80, eo80⟩ := Kd.R_slice HO_225003.out
    subst eo80
    have p236 : 0 ≤ (x8_2 : Int) := dA
    have q236 : x8_2 < (x225003_1.length : Int) := dA
    obtain ⟨ad236, e236, hx236_0, hx236_1⟩ := at_T53 (Kd.R_reads' HO_225003.out).2.2 x8_2 p236 q236
    cases e236
    replace p236 := eq_true p236
    replace q236 := eq_true q236
    have hnb81 := NB235_220.out
    have hnc81 := NB220_235.out
    have hnb82 := NB235_0.out
    have hnc82 := NB0_235.out
    obtain ⟨hcz83_0, hcz83_1, hfz83_0, hfz83_1⟩ := cells2 BK235
    go_wp2
    repeat (go_quiet (fail); try go_wp2)
    go_roundg k2
    case measure => have := HK1.out; have := HK2.out; omega
    case rel => exact ⟨(wrap64 (x8_2 + 1)), (x221000_2), (x221001_2), (x221002_2), (x221004_2), cA, H', ⟨by have := HK1.out; have := HK2.out; omega⟩, ⟨kR HO_225003⟩, ⟨bK BK220⟩, ⟨bK BK224⟩, ⟨bK BK235⟩, ⟨r6a0_⟩, ⟨r6d3_⟩, ⟨r6c2_⟩⟩
   rw [if_pos c65] at H
   obtain ⟨c65b0, c65b1⟩ := eqT c65
   clear c65
   simp only [Option.some.injEq, Prod.mk.injEq] at H
   obtain ⟨rfl, rfl, rfl, rfl, rfl, rfl, rfl, rfl⟩ := H
   have hnb66 := NB224_220.out
   have hnc66 := NB220_224.out
   have hnb67 := NB224_235.out
   have hnc67 := NB235_224.out
   have hnb68 := NB224_0.out
   have hnc68 := NB0_224.out
   have hcz69_0 : wr.cell? ⟨gb224, 0, none⟩ = some (.int .i64 1) := (aC_ BK224.out 0).trans rfl
   have hcz69_1 : wr.cell? ⟨gb224, 1, none⟩ = some (.string t221) := (aC_ BK224.out 1).trans rfl
   have hcz69_2 : wr.cell? ⟨gb224, 2, none⟩ = some (.string (⟨#[]⟩ : ByteArray)) := (aC_ BK224.out 2).trans rfl
   have hcz69_3 : wr.cell? ⟨gb224, 3, none⟩ = some (u225003) := (aC_ BK224.out 3).trans rfl
   have hcz69_4 : wr.cell? ⟨gb224, 4, none⟩ = some (.bool x225004_1) := (aC_ BK224.out 4).trans rfl
   have hfz69_0 := aE_ BK224.out 0
   have hfz69_1 := aE_ BK224.out 1
   have hfz69_2 := aE_ BK224.out 2
   have hfz69_3 := aE_ BK224.out 3
   have hfz69_4 := aE_ BK224.out 4
   obtain ⟨Ao70, co70, eo70⟩ := Kd.R_slice HO_225003.out
   subst eo70
   have p236 : 0 ≤ (x8_2 : Int) := dA
   have q236 : x8_2 < (x225003_1.length : Int) := dA
   obtain ⟨ad236, e236, hx236_0, hx236_1⟩ := at_T53 (Kd.R_reads' HO_225003.out).2.2 x8_2 p236 q236
   cases e236
   replace p236 := eq_true p236
   replace q236 := eq_true q236
   have hnb71 := NB235_220.out
   have hnc71 := NB220_235.out
   have hnb72 := NB235_0.out
   have hnc72 := NB0_235.out
   obtain ⟨hcz73_0, hcz73_1, hfz73_0, hfz73_1⟩ := cells2 BK235
   have hnb74 := NB220_0.out
   have hnc74 := NB0_220.out
   have hcz75_0 : wr.cell? ⟨gb220, 0, none⟩ = some (.int .i64 x221000_2) := (aC_ BK220.out 0).trans rfl
   have hcz75_1 : wr.cell? ⟨gb220, 1, none⟩ = some (.string x221001_2) := (aC_ BK220.out 1).trans rfl
   have hcz75_2 : wr.cell? ⟨gb220, 2, none⟩ = some (.string x221002_2) := (aC_ BK220.out 2).trans rfl
   have hcz75_3 : wr.cell? ⟨gb220, 3, none⟩ = some (.slice none 0 0) := (aC_ BK220.out 3).trans rfl
   have hcz75_4 : wr.cell? ⟨gb220, 4, none⟩ = some (.bool x221004_2) := (aC_ BK220.out 4).trans rfl
   have hfz75_0 := aE_ BK220.out 0
   have hfz75_1 := aE_ BK220.out 1
   have hfz75_2 := aE_ BK220.out 2
   have hfz75_3 := aE_ BK220.out 3
   have hfz75_4 := aE_ BK220.out 4
   go_wp2
   repeat (go_quiet (fail); try go_wp2)
   refine bodyPost_ret (b8_ rfl _ _ gb220 45 #[.int .i64 1, .string t221, .string (⟨#[]⟩ : ByteArray), .slice (some ad236) x225003_1.length co70, .bool x225004_1] (0, 0) _ rfl (bP BK220) Tryz.underlying45 rfl (by kernel_rfl)) rfl ?_
   exact ⟨_, by first | rfl | (simp [bL_, bK_] <;> rfl) | (simp [*, bL_, bK_] <;> rfl), by (with_reducible repeat (first | apply Kd.R_alloc | apply Kd.R_drewN | apply Kd.R_drew)); exact Kd.R_mono (Kd.R_far (p := ⟨gb220, 4, none⟩) (Kd.R_far (p := ⟨gb220, 3, none⟩) (Kd.R_far (p := ⟨gb220, 2, none⟩) (Kd.R_far (p := ⟨gb220, 1, none⟩) (Kd.R_far (p := ⟨gb220, 0, none⟩) (Kd.R_types HO_225003.out BK220.out (by decide)) (fun _ hk => hk.2) (.int .i64 1)) (fun _ hk => hk.2) (.string t221)) (fun _ hk => hk.2) (.string (⟨#[]⟩ : ByteArray))) (fun _ hk => hk.2) (.slice (some ad236) x225003_1.length co70)) (fun _ hk => hk.2) (.bool x225004_1)) (fun _ hk => trivial), r6a0_, r6c2_, r6d3_⟩
end Go.Proofs.YtkoogebfdinbnaaGreat.Q
