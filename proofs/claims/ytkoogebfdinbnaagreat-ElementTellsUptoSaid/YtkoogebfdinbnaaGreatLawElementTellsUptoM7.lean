/- Texts put together: what functions of the program compute, and plain words about them. -/
import Derived.Test.YtkoogebfdinbnaaGreatLawElementTellsUptoM1
import Derived.Test.YtkoogebfdinbnaaGreatLawElementTellsUptoM4
import Derived.Test.YtkoogebfdinbnaaGreatLawElementTellsUptoM5
import Derived.Test.YtkoogebfdinbnaaGreatLawElementTellsUptoM6
import Derived.Test.YtkoogebfdinbnaaGreatLawElementTellsUptoM2
import Derived.Deep.RegionLaw
import Derived.Lib.Hide
import Derived.Outline
import Derived.Test.YtkoogebfdinbnaaGreatLawElementTellsUptoM3
import Derived.Test.YtkoogebfdinbnaaGreatProg
import Derived.Test.YtkoogebfdinbnaaGreatRows
import Derived.ChangeArms
import Derived.Deep.DeepHandedRow
import Derived.Shelf.Vars
import Derived.Below
import Derived.Deep.Draws
import Derived.Deep.AppendLies
import Derived.Maps.AppendAt
import Derived.OwnWalk
import Derived.Laws.BytesArg
import Derived.Laws.MakeOwn
import Derived.Laws.OwnMore
import Derived.Deep.OwnRows
import Derived.Tactics
import Derived.Lib.ConvBytes
import Derived.Laws.Slices
import Derived.WalkKit
import Derived.KernelRfl
import Derived.RowKit3
import Derived.Deep.LoopGhost
import Derived.Deep.QuietTactic
import Derived.BigQuiet
import Derived.WideLaws
import Derived.Deep.DeepCutAuto
import Derived.Deep.CutBlock
import Derived.Deep.RegionHeld3
import Derived.Laws.Rows
import Derived.Lib.AppendStr
import Derived.ArgAppend
import Derived.Laws.IdiomCopy
import Derived.OrdersHeld
import Derived.Laws.BitsLemmas
import Derived.RowKit
namespace Go.Proofs.YtkoogebfdinbnaaGreat.Q
open Go.RowKit Go.Proofs.YtkoogebfdinbnaaGreatW.PrintWords Go.Proofs.YtkoogebfdinbnaaGreatW.PrintLast Go.Proofs.YtkoogebfdinbnaaGreatW.Own Go.Proofs.YtkoogebfdinbnaaGreatW.PrintMore
theorem r7a0_ {p_ : Prop} (h_ : p_ := by repeat (first | (with_reducible first | exact HI0.out | apply aD_.alloc | apply aD_.drewN | apply aD_.drew | apply aD_.set_0 | apply aD_.set_1 | refine aD_.far ?_ NB0_240.out _) | exact HI0.out)) : p_ := h_
theorem r7b1_ {p_ : Prop} (h_ : p_ := by repeat (first | (with_reducible first | exact HB.out | apply aH_ | apply aF_ | apply aI_ | refine aG_ ?_ (aD_.ge HI0.out) | refine aG_ ?_ GE240.out) | exact HB.out)) : p_ := h_
theorem r7c2_ {p_ : Prop} (h_ : p_ := by repeat (first | (with_reducible first | exact HI0.out | apply aD_.alloc | apply aD_.drewN | apply aD_.drew | apply aD_.set_0 | apply aD_.set_1) | exact HI0.out)) : p_ := h_
theorem r7d3_ {p_ : Prop} (h_ : p_ := by repeat (first | (with_reducible first | exact HK.out | apply aJ_.set_ | apply aL_ | apply aM_ | apply keep_alloc | refine aQ_ ?_ GW240.out _) | exact HK.out)) : p_ := h_
theorem r7e4_ {p_ : Prop} (h_ : p_ := by repeat (first | (with_reducible first | exact HB.out | apply aH_ | apply aF_ | apply aI_ | refine aG_ ?_ (aD_.ge HI0.out)) | exact HB.out)) : p_ := h_
theorem r7f5_ {p_ : Prop} (h_ : p_ := by repeat (first | (with_reducible first | exact HK.out | apply aJ_.set_ | apply aL_ | apply aM_ | apply keep_alloc) | exact HK.out)) : p_ := h_
attribute [local go_sem] d6_ d8_ max_two min_two dS_ dR_ d4_ d9_   -- for this text's walks alone
set_option linter.unusedVariables false
set_option linter.unusedSimpArgs false
set_option maxHeartbeats 20000000
set_option maxRecDepth 100000
def aR_.f (k : Nat) (s0_0 : ByteArray) (s0_1 : Int) : Option (Int × ByteArray × ByteArray × (List (S53)) × Bool × Bool × ByteArray × Int) := (aK_.f s0_0 (⟨#[60, 33, 45, 45]⟩ : ByteArray) s0_1).bind fun t241 => (if t241 = true then ((a4_.f k s0_0 s0_1).bind fun bt242 => (some (bt242.1, bt242.2.1, bt242.2.2.1, bt242.2.2.2.1, bt242.2.2.2.2.1, bt242.2.2.2.2.2.1, bt242.2.2.2.2.2.2.1, bt242.2.2.2.2.2.2.2))) else ((aK_.f s0_0 (⟨#[60, 33, 91, 67, 68, 65, 84, 65, 91]⟩ : ByteArray) s0_1).bind fun t252 => (if t252 = true then ((a2_.f k s0_0 s0_1 (wrap64 (s0_1 + 9)) (⟨#[93, 93, 62]⟩ : ByteArray)).bind fun bt253 => (some (3, (⟨#[]⟩ : ByteArray), bt253.1, ([] : List (S53)), false, bt253.2.1, bt253.2.2.1, bt253.2.2.2))) else ((aK_.f s0_0 (⟨#[60, 63]⟩ : ByteArray) s0_1).bind fun t257 => (if t257 = true then ((a2_.f k s0_0 s0_1 (wrap64 (s0_1 + 2)) (⟨#[63, 62]⟩ : ByteArray)).bind fun bt258 => (if bt258.2.1 = true then (some (5, (⟨#[]⟩ : ByteArray), bt258.1, ([] : List (S53)), false, (s0_1 == 0), bt258.2.2.1, bt258.2.2.2)) else (some (5, (⟨#[]⟩ : ByteArray), bt258.1, ([] : List (S53)), false, false, bt258.2.2.1, bt258.2.2.2)))) else ((aK_.f s0_0 (⟨#[60, 47]⟩ : ByteArray) s0_1).bind fun t262 => (if t262 = true then ((bI_.f k s0_0 s0_1).bind fun bt263 => (some (bt263.1, bt263.2.1, bt263.2.2.1, bt263.2.2.2.1, bt263.2.2.2.2.1, bt263.2.2.2.2.2.1, bt263.2.2.2.2.2.2.1, bt263.2.2.2.2.2.2.2))) else ((aK_.f s0_0 (⟨#[60]⟩ : ByteArray) s0_1).bind fun t273 => (if t273 = true then ((aT_.f k s0_0 s0_1).bind fun bt274 => (some (bt274.1, bt274.2.1, bt274.2.2.1, bt274.2.2.2.1, bt274.2.2.2.2.1, bt274.2.2.2.2.2.1, bt274.2.2.2.2.2.2.1, bt274.2.2.2.2.2.2.2))) else ((aW_.f k s0_0 (⟨#[60]⟩ : ByteArray) s0_1).bind fun t284 => (if t284 < 0 then (if 0 ≤ s0_1 then (if s0_1 ≤ (s0_0.size : Int) then (if (s0_0.size : Int) ≤ (s0_0.size : Int) then ((aU_.f k (s0_0.extract (s0_1 : Int).toNat ((s0_0.size : Int) : Int).toNat)).bind fun bt285 => (some (3, (⟨#[]⟩ : ByteArray), bt285.1, ([] : List (S53)), false, (bt285.2 == 0), s0_0, (s0_0.size : Int)))) else (none)) else (none)) else (none)) else (if 0 ≤ s0_1 then (if s0_1 ≤ t284 then (if t284 ≤ (s0_0.size : Int) then ((aU_.f k (s0_0.extract (s0_1 : Int).toNat (t284 : Int).toNat)).bind fun bt287 => (some (3, (⟨#[]⟩ : ByteArray), bt287.1, ([] : List (S53)), false, (bt287.2 == 0), s0_0, t284))) else (none)) else (none)) else (none)))))))))))))
theorem aR_.mono : ∀ a0 a1 k, LeO (aR_.f k a0 a1) (aR_.f (k + 1) a0 a1) := by
 intro a0 a1 k
 unfold aR_.f
 have m0 := @aU_.mono
 have m1 := @aW_.mono
 have m2 := @bI_.mono
 have m3 := @a4_.mono
 have m4 := @aT_.mono
 have m5 := @a2_.mono
 exact mo
def aR_.T17 : Bool × List (List Nat × List Nat) := (true, [([], []), ([0], [0]), ([1], [1]), ([2], [2]), ([], []), ([4], [4]), ([5], [5]), ([6], [6]), ([], []), ([3, 7, 8], [3, 7, 8]), ([9], [9]), ([10], [10]), ([11], [11]), ([11], [11]), ([12, 10, 0, 1, 2, 3, 4, 5, 6, 7, 8, 9, 10, 11, 12], [12]), ([13, 14, 0, 1, 2, 3, 4, 5, 6, 7, 8, 9, 10, 11, 12, 13, 14], [13])])
def aR_.B17 : List Nat := [0, 1, 3, 7, 0, 16, 48, 112, 0, 511, 1023, 2047, 4095, 4095, 8191, 32767]
theorem aR_.tab17 : rtab .any (opsOf Tryz.f35 17) = aR_.T17 := by kernel_rfl
theorem aR_.bits17 : waitsOk aR_.T17.2 aR_.B17 = true := by kernel_rfl
theorem aR_.qd {P : Program} {f : FuncId} {args : Array Value} {w : World} {n : Nat} {v : Value} (h : Calls P f args (w.drewN n) fun e w' => e = .returned v ∧ aS_ (w.drewN n) w') : Calls P f args (w.drewN n) fun e w'' => e = .returned v ∧ ∃ m, w'' = w.drewN m := Calls.quiet_of (h.mono fun _ _ h => ⟨h.1, h.2.out⟩)
theorem aR_.calls (k : Nat) (g : Nat) (s0_0 : ByteArray) (s0_1 : Int) (r1 : Int) (r2 : ByteArray) (r3 : ByteArray) (r4 : List (S53)) (r5 : Bool) (r6 : Bool) (r7 : ByteArray) (r8 : Int) (w0 w : World) (hI : aD_ w0 w g s0_0 s0_1) (hB : Below w0.heap.size w0 w) (hG : Glob w0) (h : aR_.f k s0_0 s0_1 = some (r1, r2, r3, r4, r5, r6, r7, r8)) :
 Calls Tryz.prog 35 #[.pointer (some ⟨g, 0, none⟩)] w fun e w' => ∃ v3_ : Value, e = .returned (.tuple #[.agg #[.int .i64 r1, .string r2, .string r3, v3_, .bool r5], .bool r6]) ∧ Kd.R k53 53 w' w.heap.size (fun _ => True) v3_ r4 ∧ aD_ w0 w' g r7 r8 ∧ Below w0.heap.size w0 w' ∧ aJ_ w w' g none := by
 have hu45 := Tryz.underlying45
 have HG := aA_.mk hG
 clear hG
 have HI0 := aA_.mk hI
 have HK := aA_.mk (aJ_.refl w g none)
 have HL := aA_.mk hB.size
 clear hI
 have HW0 := aA_.mk hB.size
 have HB := aA_.mk hB
 clear hB
 have H : ((aK_.f s0_0 (⟨#[60, 33, 45, 45]⟩ : ByteArray) s0_1).bind fun t241 => (if t241 = true then ((a4_.f k s0_0 s0_1).bind fun bt242 => (some (bt242.1, bt242.2.1, bt242.2.2.1, bt242.2.2.2.1, bt242.2.2.2.2.1, bt242.2.2.2.2.2.1, bt242.2.2.2.2.2.2.1, bt242.2.2.2.2.2.2.2))) else ((aK_.f s0_0 (⟨#[60, 33, 91, 67, 68, 65, 84, 65, 91]⟩ : ByteArray) s0_1).bind fun t252 => (if t252 = true then ((a2_.f k s0_0 s0_1 (wrap64 (s0_1 + 9)) (⟨#[93, 93, 62]⟩ : ByteArray)).bind fun bt253 => (some (3, (⟨#[]⟩ : ByteArray), bt253.1, ([] : List (S53)), false, bt253.2.1, bt253.2.2.1, bt253.2.2.2))) else ((aK_.f s0_0 (⟨#[60, 63]⟩ : ByteArray) s0_1).bind fun t257 => (if t257 = true then ((a2_.f k s0_0 s0_1 (wrap64 (s0_1 + 2)) (⟨#[63, 62]⟩ : ByteArray)).bind fun bt258 => (if bt258.2.1 = true then (some (5, (⟨#[]⟩ : ByteArray), bt258.1, ([] : List (S53)), false, (s0_1 == 0), bt258.2.2.1, bt258.2.2.2)) else (some (5, (⟨#[]⟩ : ByteArray), bt258.1, ([] : List (S53)), false, false, bt258.2.2.1, bt258.2.2.2)))) else ((aK_.f s0_0 (⟨#[60, 47]⟩ : ByteArray) s0_1).bind fun t262 => (if t262 = true then ((bI_.f k s0_0 s0_1).bind fun bt263 => (some (bt263.1, bt263.2.1, bt263.2.2.1, bt263.2.2.2.1, bt263.2.2.2.2.1, bt263.2.2.2.2.2.1, bt263.2.2.2.2.2.2.1, bt263.2.2.2.2.2.2.2))) else ((aK_.f s0_0 (⟨#[60]⟩ : ByteArray) s0_1).bind fun t273 => (if t273 = true then ((aT_.f k s0_0 s0_1).bind fun bt274 => (some (bt274.1, bt274.2.1, bt274.2.2.1, bt274.2.2.2.1, bt274.2.2.2.2.1, bt274.2.2.2.2.2.1, bt274.2.2.2.2.2.2.1, bt274.2.2.2.2.2.2.2))) else ((aW_.f k s0_0 (⟨#[60]⟩ : ByteArray) s0_1).bind fun t284 => (if t284 < 0 then (if 0 ≤ s0_1 then (if s0_1 ≤ (s0_0.size : Int) then (if (s0_0.size : Int) ≤ (s0_0.size : Int) then ((aU_.f k (s0_0.extract (s0_1 : Int).toNat ((s0_0.size : Int) : Int).toNat)).bind fun bt285 => (some (3, (⟨#[]⟩ : ByteArray), bt285.1, ([] : List (S53)), false, (bt285.2 == 0), s0_0, (s0_0.size : Int)))) else (none)) else (none)) else (none)) else (if 0 ≤ s0_1 then (if s0_1 ≤ t284 then (if t284 ≤ (s0_0.size : Int) then ((aU_.f k (s0_0.extract (s0_1 : Int).toNat (t284 : Int).toNat)).bind fun bt287 => (some (3, (⟨#[]⟩ : ByteArray), bt287.1, ([] : List (S53)), false, (bt287.2 == 0), s0_0, t284))) else (none)) else (none)) else (none)))))))))))))) = some (r1, r2, r3, r4, r5, r6, r7, r8) := h
 clear h
 replace H := bi H
 obtain ⟨t241, A20, H⟩ := H
 try dsimp only at H
 have A2 := aA_.mk A20
 clear A20
 by_cases c3 : t241 = true
 ·subst c3
  replace H : ((a4_.f k s0_0 s0_1).bind fun bt242 => (some (bt242.1, bt242.2.1, bt242.2.2.1, bt242.2.2.2.1, bt242.2.2.2.2.1, bt242.2.2.2.2.2.1, bt242.2.2.2.2.2.2.1, bt242.2.2.2.2.2.2.2))) = some (r1, r2, r3, r4, r5, r6, r7, r8) := by rw [if_pos rfl] at H; exact H
  replace H := bi H
  obtain ⟨⟨t242, t243, t244, t245, t248, t249, t250, t251⟩, A40, H⟩ := H
  try dsimp only at H
  have A4 := aA_.mk A40
  clear A40
  simp only [Option.some.injEq, Prod.mk.injEq] at H
  obtain ⟨rfl, rfl, rfl, rfl, rfl, rfl, rfl, rfl⟩ := H
  go_enter Tryz.func35, Tryz.ntmps35
  try go_wp2_with (first | (refine be 2 #[.int .i64 0, .string (⟨#[]⟩ : ByteArray), .string (⟨#[]⟩ : ByteArray), .slice none 0 0, .bool false] 45 ?_; intro gb240 hg w5 hbox hb; replace HB := aA_.mk (bG_ (r7e4_) hb); have BK240 := aA_.mk (hbox); have GW240 := aA_.mk ((by rw [hg]; exact (bF_ (w := w) (g := g) (row := none) (r7f5_)) : w.heap.size ≤ gb240)); have GE240 := aA_.mk ((Nat.le_trans HW0.out (by rw [hg]; exact (bF_ (w := w) (g := g) (row := none) (r7f5_)) : w.heap.size ≤ gb240) : w0.heap.size ≤ gb240)); replace HK := aA_.mk (aJ_.trans (r7f5_) (aJ_.of_below hb g none) (.inl rfl)); have NB0_240 := aA_.mk ((by rw [hg]; exact Nat.ne_of_lt (aD_.lt (show aD_ w0 _ g s0_0 s0_1 from r7c2_)) : g ≠ gb240)); have NB240_0 := aA_.mk ((by rw [hg]; exact Nat.ne_of_gt (aD_.lt (show aD_ w0 _ g s0_0 s0_1 from r7c2_)) : gb240 ≠ g)); replace HI0 := aA_.mk (aD_.below (r7c2_) hb); clear hb hbox hg))
  generalize w5 = w6 at BK240 HI0 HK HB ⊢
  have sq0_ := (a9_ HI0.out.1)
  have sq1_ := (bA_ HI0.out.1)
  go_quiet ((go_at_call 54; exact aR_.qd (aK_.calls s0_0 (⟨#[60, 33, 45, 45]⟩ : ByteArray) s0_1 true _ (by exact Glob.step HG.out (r7b1_)) A2.out)))
  clear sq0_ sq1_
  try go_wp2_with (first | (refine gl (some 23) Tryz.func55 #[.pointer (some ⟨g, 0, none⟩)] ?_; (with_reducible refine (a4_.calls k g s0_0 s0_1 t242 t243 t244 t245 t248 t249 t250 t251 w0 _ ?side1 ?side2 ?side3 A4.out).mono ?_); (case side1 => exact r7a0_); (case side2 => exact r7b1_); (case side3 => exact HG.out); rintro e w7 ⟨v246, rfl, ho0, hi, hb, hk⟩; refine ⟨_, rfl, ?_⟩; replace BK240 := aA_.mk (aJ_.blk hk (g' := gb240) (o := .cells #[.int .i64 0, .string (⟨#[]⟩ : ByteArray), .string (⟨#[]⟩ : ByteArray), .slice none 0 0, .bool false] 45 (0, 0)) (bK BK240) NB240_0.out (by simp)); have HO247 := aA_.mk (Kd.R_lower ho0 (bF_ (w := w) (g := g) (row := none) (r7d3_))); replace HK := aA_.mk (aJ_.trans (r7d3_) hk (.inl rfl)); replace HB := aA_.mk (hb); replace HI0 := aA_.mk (hi); (try clear hb); (try clear hk); (try clear hi); (try clear ho0); have hnb8 := NB240_0.out; have hnc8 := NB0_240.out; have hcz9_0 : w7.cell? ⟨gb240, 0, none⟩ = some (.int .i64 0) := (aC_ BK240.out 0).trans rfl; have hcz9_1 : w7.cell? ⟨gb240, 1, none⟩ = some (.string (⟨#[]⟩ : ByteArray)) := (aC_ BK240.out 1).trans rfl; have hcz9_2 : w7.cell? ⟨gb240, 2, none⟩ = some (.string (⟨#[]⟩ : ByteArray)) := (aC_ BK240.out 2).trans rfl; have hcz9_3 : w7.cell? ⟨gb240, 3, none⟩ = some (.slice none 0 0) := (aC_ BK240.out 3).trans rfl; have hcz9_4 : w7.cell? ⟨gb240, 4, none⟩ = some (.bool false) := (aC_ BK240.out 4).trans rfl; have hfz9_0 := aE_ BK240.out 0; have hfz9_1 := aE_ BK240.out 1; have hfz9_2 := aE_ BK240.out 2; have hfz9_3 := aE_ BK240.out 3; have hfz9_4 := aE_ BK240.out 4; obtain ⟨Ao10, co10, eo10⟩ := Kd.R_slice HO247.out; subst eo10))
  refine bodyPost_ret (b8_ rfl _ _ gb240 45 #[.int .i64 t242, .string t243, .string t244, .slice Ao10 t245.length co10, .bool t248] (0, 0) _ rfl (bP BK240) Tryz.underlying45 rfl (by kernel_rfl)) rfl ?_
  exact ⟨_, by first | rfl | (simp [bL_, bK_] <;> rfl) | (simp [*, bL_, bK_] <;> rfl), by (with_reducible repeat (first | apply Kd.R_alloc | apply Kd.R_drewN | apply Kd.R_drew)); exact Kd.R_mono (Kd.R_far (p := ⟨gb240, 4, none⟩) (Kd.R_far (p := ⟨gb240, 3, none⟩) (Kd.R_far (p := ⟨gb240, 2, none⟩) (Kd.R_far (p := ⟨gb240, 1, none⟩) (Kd.R_far (p := ⟨gb240, 0, none⟩) (Kd.R_types HO247.out BK240.out (by decide)) (fun _ hk => hk.2) (.int .i64 t242)) (fun _ hk => hk.2) (.string t243)) (fun _ hk => hk.2) (.string t244)) (fun _ hk => hk.2) (.slice Ao10 t245.length co10)) (fun _ hk => hk.2) (.bool t248)) (fun _ hk => trivial), r7a0_, r7b1_, r7d3_⟩
 replace c3 := Bool.eq_false_iff.mpr c3
 subst c3
 replace H : ((aK_.f s0_0 (⟨#[60, 33, 91, 67, 68, 65, 84, 65, 91]⟩ : ByteArray) s0_1).bind fun t252 => (if t252 = true then ((a2_.f k s0_0 s0_1 (wrap64 (s0_1 + 9)) (⟨#[93, 93, 62]⟩ : ByteArray)).bind fun bt253 => (some (3, (⟨#[]⟩ : ByteArray), bt253.1, ([] : List (S53)), false, bt253.2.1, bt253.2.2.1, bt253.2.2.2))) else ((aK_.f s0_0 (⟨#[60, 63]⟩ : ByteArray) s0_1).bind fun t257 => (if t257 = true then ((a2_.f k s0_0 s0_1 (wrap64 (s0_1 + 2)) (⟨#[63, 62]⟩ : ByteArray)).bind fun bt258 => (if bt258.2.1 = true then (some (5, (⟨#[]⟩ : ByteArray), bt258.1, ([] : List (S53)), false, (s0_1 == 0), bt258.2.2.1, bt258.2.2.2)) else (some (5, (⟨#[]⟩ : ByteArray), bt258.1, ([] : List (S53)), false, false, bt258.2.2.1, bt258.2.2.2)))) else ((aK_.f s0_0 (⟨#[60, 47]⟩ : ByteArray) s0_1).bind fun t262 => (if t262 = true then ((bI_.f k s0_0 s0_1).bind fun bt263 => (some (bt263.1, bt263.2.1, bt263.2.2.1, bt263.2.2.2.1, bt263.2.2.2.2.1, bt263.2.2.2.2.2.1, bt263.2.2.2.2.2.2.1, bt263.2.2.2.2.2.2.2))) else ((aK_.f s0_0 (⟨#[60]⟩ : ByteArray) s0_1).bind fun t273 => (if t273 = true then ((aT_.f k s0_0 s0_1).bind fun bt274 => (some (bt274.1, bt274.2.1, bt274.2.2.1, bt274.2.2.2.1, bt274.2.2.2.2.1, bt274.2.2.2.2.2.1, bt274.2.2.2.2.2.2.1, bt274.2.2.2.2.2.2.2))) else ((aW_.f k s0_0 (⟨#[60]⟩ : ByteArray) s0_1).bind fun t284 => (if t284 < 0 then (if 0 ≤ s0_1 then (if s0_1 ≤ (s0_0.size : Int) then (if (s0_0.size : Int) ≤ (s0_0.size : Int) then ((aU_.f k (s0_0.extract (s0_1 : Int).toNat ((s0_0.size : Int) : Int).toNat)).bind fun bt285 => (some (3, (⟨#[]⟩ : ByteArray), bt285.1, ([] : List (S53)), false, (bt285.2 == 0), s0_0, (s0_0.size : Int)))) else (none)) else (none)) else (none)) else (if 0 ≤ s0_1 then (if s0_1 ≤ t284 then (if t284 ≤ (s0_0.size : Int) then ((aU_.f k (s0_0.extract (s0_1 : Int).toNat (t284 : Int).toNat)).bind fun bt287 => (some (3, (⟨#[]⟩ : ByteArray), bt287.1, ([] : List (S53)), false, (bt287.2 == 0), s0_0, t284))) else (none)) else (none)) else (none)))))))))))) = some (r1, r2, r3, r4, r5, r6, r7, r8) := by rw [if_neg nF] at H; exact H
 replace H := bi H
 obtain ⟨t252, A110, H⟩ := H
 try dsimp only at H
 have A11 := aA_.mk A110
 clear A110
 by_cases c12 : t252 = true
 ·subst c12
  replace H : ((a2_.f k s0_0 s0_1 (wrap64 (s0_1 + 9)) (⟨#[93, 93, 62]⟩ : ByteArray)).bind fun bt253 => (some (3, (⟨#[]⟩ : ByteArray), bt253.1, ([] : List (S53)), false, bt253.2.1, bt253.2.2.1, bt253.2.2.2))) = some (r1, r2, r3, r4, r5, r6, r7, r8) := by rw [if_pos rfl] at H; exact H
  replace H := bi H
  obtain ⟨⟨t253, t254, t255, t256⟩, A130, H⟩ := H
  try dsimp only at H
  have A13 := aA_.mk A130
  clear A130
  simp only [Option.some.injEq, Prod.mk.injEq] at H
  obtain ⟨rfl, rfl, rfl, rfl, rfl, rfl, rfl, rfl⟩ := H
  go_enter Tryz.func35, Tryz.ntmps35
  try go_wp2_with (first | (refine be 2 #[.int .i64 0, .string (⟨#[]⟩ : ByteArray), .string (⟨#[]⟩ : ByteArray), .slice none 0 0, .bool false] 45 ?_; intro gb240 hg w14 hbox hb; replace HB := aA_.mk (bG_ (r7e4_) hb); have BK240 := aA_.mk (hbox); have GW240 := aA_.mk ((by rw [hg]; exact (bF_ (w := w) (g := g) (row := none) (r7f5_)) : w.heap.size ≤ gb240)); have GE240 := aA_.mk ((Nat.le_trans HW0.out (by rw [hg]; exact (bF_ (w := w) (g := g) (row := none) (r7f5_)) : w.heap.size ≤ gb240) : w0.heap.size ≤ gb240)); replace HK := aA_.mk (aJ_.trans (r7f5_) (aJ_.of_below hb g none) (.inl rfl)); have NB0_240 := aA_.mk ((by rw [hg]; exact Nat.ne_of_lt (aD_.lt (show aD_ w0 _ g s0_0 s0_1 from r7c2_)) : g ≠ gb240)); have NB240_0 := aA_.mk ((by rw [hg]; exact Nat.ne_of_gt (aD_.lt (show aD_ w0 _ g s0_0 s0_1 from r7c2_)) : gb240 ≠ g)); replace HI0 := aA_.mk (aD_.below (r7c2_) hb); clear hb hbox hg))
  generalize w14 = w15 at BK240 HI0 HK HB ⊢
  have sq0_ := (a9_ HI0.out.1)
  have sq1_ := (bA_ HI0.out.1)
  go_quiet ((go_at_call 54; exact aR_.qd (aK_.calls s0_0 (⟨#[60, 33, 45, 45]⟩ : ByteArray) s0_1 false _ (by exact Glob.step HG.out (r7b1_)) A2.out)))
  clear sq0_ sq1_
  try go_wp2
  (try ((try simp only [World.drewN_drewN]); (first | generalize hq_ : World.drewN w15 _ = w15 | (rw [cD_ w15]; generalize hq_ : World.drewN w15 _ = w15)); have n0_ : aA_ (w15.heap[gb240]? = some (.cells #[.int .i64 0, .string (⟨#[]⟩ : ByteArray), .string (⟨#[]⟩ : ByteArray), .slice none 0 0, .bool false] 45 (0, 0))) := ⟨by rw [← hq_]; exact (bK BK240)⟩; have n1_ : aA_ (aD_ w0 w15 g s0_0 s0_1) := ⟨by rw [← hq_]; exact (r7a0_)⟩; have n2_ : aA_ (aJ_ w w15 g none) := ⟨by rw [← hq_]; exact (r7d3_)⟩; have n3_ : aA_ (Below w0.heap.size w0 w15) := ⟨by rw [← hq_]; exact (r7b1_)⟩; clear BK240 HI0 HK HB hq_; have BK240 := n0_; have HI0 := n1_; have HK := n2_; have HB := n3_; clear n0_ n1_ n2_ n3_))
  generalize w15 = w16 at BK240 HI0 HK HB ⊢
  have sq0_ := (a9_ HI0.out.1)
  have sq1_ := (bA_ HI0.out.1)
  go_quiet ((go_at_call 54; exact aR_.qd (aK_.calls s0_0 (⟨#[60, 33, 91, 67, 68, 65, 84, 65, 91]⟩ : ByteArray) s0_1 true _ (by exact Glob.step HG.out (r7b1_)) A11.out)))
  clear sq0_ sq1_
  obtain ⟨HGz17, hgz17⟩ := HI0.out
  have hcz17_0 := a9_ HGz17
  have hcz17_1 := bA_ HGz17
  have hfz17_0 := aE_ HGz17 0
  have hfz17_1 := aE_ HGz17 1
  clear HGz17 hgz17
  try go_wp2_with (first | (refine gl (some 43) Tryz.func56 #[.pointer (some ⟨g, 0, none⟩), .int .i64 (wrap64 (s0_1 + 9)), .string (⟨#[93, 93, 62]⟩ : ByteArray)] ?_; (with_reducible refine (a2_.calls k g s0_0 s0_1 (wrap64 (s0_1 + 9)) (⟨#[93, 93, 62]⟩ : ByteArray) t253 t254 t255 t256 w0 _ ?side1 ?side2 ?side3 A13.out).mono ?_); (case side1 => exact r7a0_); (case side2 => exact r7b1_); (case side3 => exact HG.out); rintro e w18 ⟨rfl, hi, hb, hk⟩; refine ⟨_, rfl, ?_⟩; replace BK240 := aA_.mk (aJ_.blk hk (g' := gb240) (o := .cells #[.int .i64 0, .string (⟨#[]⟩ : ByteArray), .string (⟨#[]⟩ : ByteArray), .slice none 0 0, .bool false] 45 (0, 0)) (bK BK240) NB240_0.out (by simp)); replace HK := aA_.mk (aJ_.trans (r7d3_) hk (.inl rfl)); replace HB := aA_.mk (hb); replace HI0 := aA_.mk (hi); (try clear hb); (try clear hk); (try clear hi); have hnb19 := NB240_0.out; have hnc19 := NB0_240.out; have hcz20_0 : w18.cell? ⟨gb240, 0, none⟩ = some (.int .i64 0) := (aC_ BK240.out 0).trans rfl; have hcz20_1 : w18.cell? ⟨gb240, 1, none⟩ = some (.string (⟨#[]⟩ : ByteArray)) := (aC_ BK240.out 1).trans rfl; have hcz20_2 : w18.cell? ⟨gb240, 2, none⟩ = some (.string (⟨#[]⟩ : ByteArray)) := (aC_ BK240.out 2).trans rfl; have hcz20_3 : w18.cell? ⟨gb240, 3, none⟩ = some (.slice none 0 0) := (aC_ BK240.out 3).trans rfl; have hcz20_4 : w18.cell? ⟨gb240, 4, none⟩ = some (.bool false) := (aC_ BK240.out 4).trans rfl; have hfz20_0 := aE_ BK240.out 0; have hfz20_1 := aE_ BK240.out 1; have hfz20_2 := aE_ BK240.out 2; have hfz20_3 := aE_ BK240.out 3; have hfz20_4 := aE_ BK240.out 4))
  refine bodyPost_ret (b8_ rfl _ _ gb240 45 #[.int .i64 3, .string (⟨#[]⟩ : ByteArray), .string t253, .slice none 0 0, .bool false] (0, 0) _ rfl (bP BK240) Tryz.underlying45 rfl (by kernel_rfl)) rfl ?_
  exact ⟨_, by first | rfl | (simp [bL_, bK_] <;> rfl) | (simp [*, bL_, bK_] <;> rfl), by first | exact Kd.R_nil _ _ _ _ _ | exact Kd.N_nil _ _ _ _ _ | exact Kd.V_nil _ _ _ _ _ | exact Kd.Q_nil _ _ _ _ _ | exact Kd.S_nil _ _ _ _ _, r7a0_, r7b1_, r7d3_⟩
 replace c12 := Bool.eq_false_iff.mpr c12
 subst c12
 replace H : ((aK_.f s0_0 (⟨#[60, 63]⟩ : ByteArray) s0_1).bind fun t257 => (if t257 = true then ((a2_.f k s0_0 s0_1 (wrap64 (s0_1 + 2)) (⟨#[63, 62]⟩ : ByteArray)).bind fun bt258 => (if bt258.2.1 = true then (some (5, (⟨#[]⟩ : ByteArray), bt258.1, ([] : List (S53)), false, (s0_1 == 0), bt258.2.2.1, bt258.2.2.2)) else (some (5, (⟨#[]⟩ : ByteArray), bt258.1, ([] : List (S53)), false, false, bt258.2.2.1, bt258.2.2.2)))) else ((aK_.f s0_0 (⟨#[60, 47]⟩ : ByteArray) s0_1).bind fun t262 => (if t262 = true then ((bI_.f k s0_0 s0_1).bind fun bt263 => (some (bt263.1, bt263.2.1, bt263.2.2.1, bt263.2.2.2.1, bt263.2.2.2.2.1, bt263.2.2.2.2.2.1, bt263.2.2.2.2.2.2.1, bt263.2.2.2.2.2.2.2))) else ((aK_.f s0_0 (⟨#[60]⟩ : ByteArray) s0_1).bind fun t273 => (if t273 = true then ((aT_.f k s0_0 s0_1).bind fun bt274 => (some (bt274.1, bt274.2.1, bt274.2.2.1, bt274.2.2.2.1, bt274.2.2.2.2.1, bt274.2.2.2.2.2.1, bt274.2.2.2.2.2.2.1, bt274.2.2.2.2.2.2.2))) else ((aW_.f k s0_0 (⟨#[60]⟩ : ByteArray) s0_1).bind fun t284 => (if t284 < 0 then (if 0 ≤ s0_1 then (if s0_1 ≤ (s0_0.size : Int) then (if (s0_0.size : Int) ≤ (s0_0.size : Int) then ((aU_.f k (s0_0.extract (s0_1 : Int).toNat ((s0_0.size : Int) : Int).toNat)).bind fun bt285 => (some (3, (⟨#[]⟩ : ByteArray), bt285.1, ([] : List (S53)), false, (bt285.2 == 0), s0_0, (s0_0.size : Int)))) else (none)) else (none)) else (none)) else (if 0 ≤ s0_1 then (if s0_1 ≤ t284 then (if t284 ≤ (s0_0.size : Int) then ((aU_.f k (s0_0.extract (s0_1 : Int).toNat (t284 : Int).toNat)).bind fun bt287 => (some (3, (⟨#[]⟩ : ByteArray), bt287.1, ([] : List (S53)), false, (bt287.2 == 0), s0_0, t284))) else (none)) else (none)) else (none)))))))))) = some (r1, r2, r3, r4, r5, r6, r7, r8) := by rw [if_neg nF] at H; exact H
 replace H := bi H
 obtain ⟨t257, A210, H⟩ := H
 try dsimp only at H
 have A21 := aA_.mk A210
 clear A210
 by_cases c22 : t257 = true
 ·subst c22
  replace H : ((a2_.f k s0_0 s0_1 (wrap64 (s0_1 + 2)) (⟨#[63, 62]⟩ : ByteArray)).bind fun bt258 => (if bt258.2.1 = true then (some (5, (⟨#[]⟩ : ByteArray), bt258.1, ([] : List (S53)), false, (s0_1 == 0), bt258.2.2.1, bt258.2.2.2)) else (some (5, (⟨#[]⟩ : ByteArray), bt258.1, ([] : List (S53)), false, false, bt258.2.2.1, bt258.2.2.2)))) = some (r1, r2, r3, r4, r5, r6, r7, r8) := by rw [if_pos rfl] at H; exact H
  replace H := bi H
  obtain ⟨⟨t258, t259, t260, t261⟩, A230, H⟩ := H
  try dsimp only at H
  have A23 := aA_.mk A230
  clear A230
  by_cases c24 : t259 = true
  ·subst c24
   replace H : (some (5, (⟨#[]⟩ : ByteArray), t258, ([] : List (S53)), false, (s0_1 == 0), t260, t261)) = some (r1, r2, r3, r4, r5, r6, r7, r8) := by rw [if_pos rfl] at H; exact H
   simp only [Option.some.injEq, Prod.mk.injEq] at H
   obtain ⟨rfl, rfl, rfl, rfl, rfl, rfl, rfl, rfl⟩ := H
   go_enter Tryz.func35, Tryz.ntmps35
   try go_wp2_with (first | (refine be 2 #[.int .i64 0, .string (⟨#[]⟩ : ByteArray), .string (⟨#[]⟩ : ByteArray), .slice none 0 0, .bool false] 45 ?_; intro gb240 hg w25 hbox hb; replace HB := aA_.mk (bG_ (r7e4_) hb); have BK240 := aA_.mk (hbox); have GW240 := aA_.mk ((by rw [hg]; exact (bF_ (w := w) (g := g) (row := none) (r7f5_)) : w.heap.size ≤ gb240)); have GE240 := aA_.mk ((Nat.le_trans HW0.out (by rw [hg]; exact (bF_ (w := w) (g := g) (row := none) (r7f5_)) : w.heap.size ≤ gb240) : w0.heap.size ≤ gb240)); replace HK := aA_.mk (aJ_.trans (r7f5_) (aJ_.of_below hb g none) (.inl rfl)); have NB0_240 := aA_.mk ((by rw [hg]; exact Nat.ne_of_lt (aD_.lt (show aD_ w0 _ g s0_0 s0_1 from r7c2_)) : g ≠ gb240)); have NB240_0 := aA_.mk ((by rw [hg]; exact Nat.ne_of_gt (aD_.lt (show aD_ w0 _ g s0_0 s0_1 from r7c2_)) : gb240 ≠ g)); replace HI0 := aA_.mk (aD_.below (r7c2_) hb); clear hb hbox hg))
   generalize w25 = w26 at BK240 HI0 HK HB ⊢
   have sq0_ := (a9_ HI0.out.1)
   have sq1_ := (bA_ HI0.out.1)
   go_quiet ((go_at_call 54; exact aR_.qd (aK_.calls s0_0 (⟨#[60, 33, 45, 45]⟩ : ByteArray) s0_1 false _ (by exact Glob.step HG.out (r7b1_)) A2.out)))
   clear sq0_ sq1_
   try go_wp2
   (try ((try simp only [World.drewN_drewN]); (first | generalize hq_ : World.drewN w26 _ = w26 | (rw [cD_ w26]; generalize hq_ : World.drewN w26 _ = w26)); have n0_ : aA_ (w26.heap[gb240]? = some (.cells #[.int .i64 0, .string (⟨#[]⟩ : ByteArray), .string (⟨#[]⟩ : ByteArray), .slice none 0 0, .bool false] 45 (0, 0))) := ⟨by rw [← hq_]; exact (bK BK240)⟩; have n1_ : aA_ (aD_ w0 w26 g s0_0 s0_1) := ⟨by rw [← hq_]; exact (r7a0_)⟩; have n2_ : aA_ (aJ_ w w26 g none) := ⟨by rw [← hq_]; exact (r7d3_)⟩; have n3_ : aA_ (Below w0.heap.size w0 w26) := ⟨by rw [← hq_]; exact (r7b1_)⟩; clear BK240 HI0 HK HB hq_; have BK240 := n0_; have HI0 := n1_; have HK := n2_; have HB := n3_; clear n0_ n1_ n2_ n3_))
   generalize w26 = w27 at BK240 HI0 HK HB ⊢
   have sq0_ := (a9_ HI0.out.1)
   have sq1_ := (bA_ HI0.out.1)
   go_quiet ((go_at_call 54; exact aR_.qd (aK_.calls s0_0 (⟨#[60, 33, 91, 67, 68, 65, 84, 65, 91]⟩ : ByteArray) s0_1 false _ (by exact Glob.step HG.out (r7b1_)) A11.out)))
   clear sq0_ sq1_
   try go_wp2
   (try ((try simp only [World.drewN_drewN]); (first | generalize hq_ : World.drewN w27 _ = w27 | (rw [cD_ w27]; generalize hq_ : World.drewN w27 _ = w27)); have n0_ : aA_ (w27.heap[gb240]? = some (.cells #[.int .i64 0, .string (⟨#[]⟩ : ByteArray), .string (⟨#[]⟩ : ByteArray), .slice none 0 0, .bool false] 45 (0, 0))) := ⟨by rw [← hq_]; exact (bK BK240)⟩; have n1_ : aA_ (aD_ w0 w27 g s0_0 s0_1) := ⟨by rw [← hq_]; exact (r7a0_)⟩; have n2_ : aA_ (aJ_ w w27 g none) := ⟨by rw [← hq_]; exact (r7d3_)⟩; have n3_ : aA_ (Below w0.heap.size w0 w27) := ⟨by rw [← hq_]; exact (r7b1_)⟩; clear BK240 HI0 HK HB hq_; have BK240 := n0_; have HI0 := n1_; have HK := n2_; have HB := n3_; clear n0_ n1_ n2_ n3_))
   generalize w27 = w28 at BK240 HI0 HK HB ⊢
   have sq0_ := (a9_ HI0.out.1)
   have sq1_ := (bA_ HI0.out.1)
   go_quiet ((go_at_call 54; exact aR_.qd (aK_.calls s0_0 (⟨#[60, 63]⟩ : ByteArray) s0_1 true _ (by exact Glob.step HG.out (r7b1_)) A21.out)))
   clear sq0_ sq1_
   obtain ⟨HGz29, hgz29⟩ := HI0.out
   have hcz29_0 := a9_ HGz29
   have hcz29_1 := bA_ HGz29
   have hfz29_0 := aE_ HGz29 0
   have hfz29_1 := aE_ HGz29 1
   clear HGz29 hgz29
   try go_wp2_with (first | (refine gl (some 71) Tryz.func56 #[.pointer (some ⟨g, 0, none⟩), .int .i64 (wrap64 (s0_1 + 2)), .string (⟨#[63, 62]⟩ : ByteArray)] ?_; (with_reducible refine (a2_.calls k g s0_0 s0_1 (wrap64 (s0_1 + 2)) (⟨#[63, 62]⟩ : ByteArray) t258 true t260 t261 w0 _ ?side1 ?side2 ?side3 A23.out).mono ?_); (case side1 => exact r7a0_); (case side2 => exact r7b1_); (case side3 => exact HG.out); rintro e w30 ⟨rfl, hi, hb, hk⟩; refine ⟨_, rfl, ?_⟩; replace BK240 := aA_.mk (aJ_.blk hk (g' := gb240) (o := .cells #[.int .i64 0, .string (⟨#[]⟩ : ByteArray), .string (⟨#[]⟩ : ByteArray), .slice none 0 0, .bool false] 45 (0, 0)) (bK BK240) NB240_0.out (by simp)); replace HK := aA_.mk (aJ_.trans (r7d3_) hk (.inl rfl)); replace HB := aA_.mk (hb); replace HI0 := aA_.mk (hi); (try clear hb); (try clear hk); (try clear hi); have hnb31 := NB240_0.out; have hnc31 := NB0_240.out; have hcz32_0 : w30.cell? ⟨gb240, 0, none⟩ = some (.int .i64 0) := (aC_ BK240.out 0).trans rfl; have hcz32_1 : w30.cell? ⟨gb240, 1, none⟩ = some (.string (⟨#[]⟩ : ByteArray)) := (aC_ BK240.out 1).trans rfl; have hcz32_2 : w30.cell? ⟨gb240, 2, none⟩ = some (.string (⟨#[]⟩ : ByteArray)) := (aC_ BK240.out 2).trans rfl; have hcz32_3 : w30.cell? ⟨gb240, 3, none⟩ = some (.slice none 0 0) := (aC_ BK240.out 3).trans rfl; have hcz32_4 : w30.cell? ⟨gb240, 4, none⟩ = some (.bool false) := (aC_ BK240.out 4).trans rfl; have hfz32_0 := aE_ BK240.out 0; have hfz32_1 := aE_ BK240.out 1; have hfz32_2 := aE_ BK240.out 2; have hfz32_3 := aE_ BK240.out 3; have hfz32_4 := aE_ BK240.out 4))
   refine bodyPost_ret (b8_ rfl _ _ gb240 45 #[.int .i64 5, .string (⟨#[]⟩ : ByteArray), .string t258, .slice none 0 0, .bool false] (0, 0) _ rfl (bP BK240) Tryz.underlying45 rfl (by kernel_rfl)) rfl ?_
   exact ⟨_, by first | rfl | (simp [bL_, bK_] <;> rfl) | (simp [*, bL_, bK_] <;> rfl), by first | exact Kd.R_nil _ _ _ _ _ | exact Kd.N_nil _ _ _ _ _ | exact Kd.V_nil _ _ _ _ _ | exact Kd.Q_nil _ _ _ _ _ | exact Kd.S_nil _ _ _ _ _, r7a0_, r7b1_, r7d3_⟩
  replace c24 := Bool.eq_false_iff.mpr c24
  subst c24
  replace H : (some (5, (⟨#[]⟩ : ByteArray), t258, ([] : List (S53)), false, false, t260, t261)) = some (r1, r2, r3, r4, r5, r6, r7, r8) := by rw [if_neg nF] at H; exact H
  simp only [Option.some.injEq, Prod.mk.injEq] at H
  obtain ⟨rfl, rfl, rfl, rfl, rfl, rfl, rfl, rfl⟩ := H
  go_enter Tryz.func35, Tryz.ntmps35
  try go_wp2_with (first | (refine be 2 #[.int .i64 0, .string (⟨#[]⟩ : ByteArray), .string (⟨#[]⟩ : ByteArray), .slice none 0 0, .bool false] 45 ?_; intro gb240 hg w33 hbox hb; replace HB := aA_.mk (bG_ (r7e4_) hb); have BK240 := aA_.mk (hbox); have GW240 := aA_.mk ((by rw [hg]; exact (bF_ (w := w) (g := g) (row := none) (r7f5_)) : w.heap.size ≤ gb240)); have GE240 := aA_.mk ((Nat.le_trans HW0.out (by rw [hg]; exact (bF_ (w := w) (g := g) (row := none) (r7f5_)) : w.heap.size ≤ gb240) : w0.heap.size ≤ gb240)); replace HK := aA_.mk (aJ_.trans (r7f5_) (aJ_.of_below hb g none) (.inl rfl)); have NB0_240 := aA_.mk ((by rw [hg]; exact Nat.ne_of_lt (aD_.lt (show aD_ w0 _ g s0_0 s0_1 from r7c2_)) : g ≠ gb240)); have NB240_0 := aA_.mk ((by rw [hg]; exact Nat.ne_of_gt (aD_.lt (show aD_ w0 _ g s0_0 s0_1 from r7c2_)) : gb240 ≠ g)); replace HI0 := aA_.mk (aD_.below (r7c2_) hb); clear hb hbox hg))
  generalize w33 = w34 at BK240 HI0 HK HB ⊢
  have sq0_ := (a9_ HI0.out.1)
  have sq1_ := (bA_ HI0.out.1)
  go_quiet ((go_at_call 54; exact aR_.qd (aK_.calls s0_0 (⟨#[60, 33, 45, 45]⟩ : ByteArray) s0_1 false _ (by exact Glob.step HG.out (r7b1_)) A2.out)))
  clear sq0_ sq1_
  try go_wp2
  (try ((try simp only [World.drewN_drewN]); (first | generalize hq_ : World.drewN w34 _ = w34 | (rw [cD_ w34]; generalize hq_ : World.drewN w34 _ = w34)); have n0_ : aA_ (w34.heap[gb240]? = some (.cells #[.int .i64 0, .string (⟨#[]⟩ : ByteArray), .string (⟨#[]⟩ : ByteArray), .slice none 0 0, .bool false] 45 (0, 0))) := ⟨by rw [← hq_]; exact (bK BK240)⟩; have n1_ : aA_ (aD_ w0 w34 g s0_0 s0_1) := ⟨by rw [← hq_]; exact (r7a0_)⟩; have n2_ : aA_ (aJ_ w w34 g none) := ⟨by rw [← hq_]; exact (r7d3_)⟩; have n3_ : aA_ (Below w0.heap.size w0 w34) := ⟨by rw [← hq_]; exact (r7b1_)⟩; clear BK240 HI0 HK HB hq_; have BK240 := n0_; have HI0 := n1_; have HK := n2_; have HB := n3_; clear n0_ n1_ n2_ n3_))
  generalize w34 = w35 at BK240 HI0 HK HB ⊢
  have sq0_ := (a9_ HI0.out.1)
  have sq1_ := (bA_ HI0.out.1)
  go_quiet ((go_at_call 54; exact aR_.qd (aK_.calls s0_0 (⟨#[60, 33, 91, 67, 68, 65, 84, 65, 91]⟩ : ByteArray) s0_1 false _ (by exact Glob.step HG.out (r7b1_)) A11.out)))
  clear sq0_ sq1_
  try go_wp2
  (try ((try simp only [World.drewN_drewN]); (first | generalize hq_ : World.drewN w35 _ = w35 | (rw [cD_ w35]; generalize hq_ : World.drewN w35 _ = w35)); have n0_ : aA_ (w35.heap[gb240]? = some (.cells #[.int .i64 0, .string (⟨#[]⟩ : ByteArray), .string (⟨#[]⟩ : ByteArray), .slice none 0 0, .bool false] 45 (0, 0))) := ⟨by rw [← hq_]; exact (bK BK240)⟩; have n1_ : aA_ (aD_ w0 w35 g s0_0 s0_1) := ⟨by rw [← hq_]; exact (r7a0_)⟩; have n2_ : aA_ (aJ_ w w35 g none) := ⟨by rw [← hq_]; exact (r7d3_)⟩; have n3_ : aA_ (Below w0.heap.size w0 w35) := ⟨by rw [← hq_]; exact (r7b1_)⟩; clear BK240 HI0 HK HB hq_; have BK240 := n0_; have HI0 := n1_; have HK := n2_; have HB := n3_; clear n0_ n1_ n2_ n3_))
  generalize w35 = w36 at BK240 HI0 HK HB ⊢
  have sq0_ := (a9_ HI0.out.1)
  have sq1_ := (bA_ HI0.out.1)
  go_quiet ((go_at_call 54; exact aR_.qd (aK_.calls s0_0 (⟨#[60, 63]⟩ : ByteArray) s0_1 true _ (by exact Glob.step HG.out (r7b1_)) A21.out)))
  clear sq0_ sq1_
  obtain ⟨HGz37, hgz37⟩ := HI0.out
  have hcz37_0 := a9_ HGz37
  have hcz37_1 := bA_ HGz37
  have hfz37_0 := aE_ HGz37 0
  have hfz37_1 := aE_ HGz37 1
  clear HGz37 hgz37
  try go_wp2_with (first | (refine gl (some 71) Tryz.func56 #[.pointer (some ⟨g, 0, none⟩), .int .i64 (wrap64 (s0_1 + 2)), .string (⟨#[63, 62]⟩ : ByteArray)] ?_; (with_reducible refine (a2_.calls k g s0_0 s0_1 (wrap64 (s0_1 + 2)) (⟨#[63, 62]⟩ : ByteArray) t258 false t260 t261 w0 _ ?side1 ?side2 ?side3 A23.out).mono ?_); (case side1 => exact r7a0_); (case side2 => exact r7b1_); (case side3 => exact HG.out); rintro e w38 ⟨rfl, hi, hb, hk⟩; refine ⟨_, rfl, ?_⟩; replace BK240 := aA_.mk (aJ_.blk hk (g' := gb240) (o := .cells #[.int .i64 0, .string (⟨#[]⟩ : ByteArray), .string (⟨#[]⟩ : ByteArray), .slice none 0 0, .bool false] 45 (0, 0)) (bK BK240) NB240_0.out (by simp)); replace HK := aA_.mk (aJ_.trans (r7d3_) hk (.inl rfl)); replace HB := aA_.mk (hb); replace HI0 := aA_.mk (hi); (try clear hb); (try clear hk); (try clear hi); have hnb39 := NB240_0.out; have hnc39 := NB0_240.out; have hcz40_0 : w38.cell? ⟨gb240, 0, none⟩ = some (.int .i64 0) := (aC_ BK240.out 0).trans rfl; have hcz40_1 : w38.cell? ⟨gb240, 1, none⟩ = some (.string (⟨#[]⟩ : ByteArray)) := (aC_ BK240.out 1).trans rfl; have hcz40_2 : w38.cell? ⟨gb240, 2, none⟩ = some (.string (⟨#[]⟩ : ByteArray)) := (aC_ BK240.out 2).trans rfl; have hcz40_3 : w38.cell? ⟨gb240, 3, none⟩ = some (.slice none 0 0) := (aC_ BK240.out 3).trans rfl; have hcz40_4 : w38.cell? ⟨gb240, 4, none⟩ = some (.bool false) := (aC_ BK240.out 4).trans rfl; have hfz40_0 := aE_ BK240.out 0; have hfz40_1 := aE_ BK240.out 1; have hfz40_2 := aE_ BK240.out 2; have hfz40_3 := aE_ BK240.out 3; have hfz40_4 := aE_ BK240.out 4))
  refine bodyPost_ret (b8_ rfl _ _ gb240 45 #[.int .i64 5, .string (⟨#[]⟩ : ByteArray), .string t258, .slice none 0 0, .bool false] (0, 0) _ rfl (bP BK240) Tryz.underlying45 rfl (by kernel_rfl)) rfl ?_
  exact ⟨_, by first | rfl | (simp [bL_, bK_] <;> rfl) | (simp [*, bL_, bK_] <;> rfl), by first | exact Kd.R_nil _ _ _ _ _ | exact Kd.N_nil _ _ _ _ _ | exact Kd.V_nil _ _ _ _ _ | exact Kd.Q_nil _ _ _ _ _ | exact Kd.S_nil _ _ _ _ _, r7a0_, r7b1_, r7d3_⟩
 replace c22 := Bool.eq_false_iff.mpr c22
 subst c22
 replace H : ((aK_.f s0_0 (⟨#[60, 47]⟩ : ByteArray) s0_1).bind fun t262 => (if t262 = true then ((bI_.f k s0_0 s0_1).bind fun bt263 => (some (bt263.1, bt263.2.1, bt263.2.2.1, bt263.2.2.2.1, bt263.2.2.2.2.1, bt263.2.2.2.2.2.1, bt263.2.2.2.2.2.2.1, bt263.2.2.2.2.2.2.2))) else ((aK_.f s0_0 (⟨#[60]⟩ : ByteArray) s0_1).bind fun t273 => (if t273 = true then ((aT_.f k s0_0 s0_1).bind fun bt274 => (some (bt274.1, bt274.2.1, bt274.2.2.1, bt274.2.2.2.1, bt274.2.2.2.2.1, bt274.2.2.2.2.2.1, bt274.2.2.2.2.2.2.1, bt274.2.2.2.2.2.2.2))) else ((aW_.f k s0_0 (⟨#[60]⟩ : ByteArray) s0_1).bind fun t284 => (if t284 < 0 then (if 0 ≤ s0_1 then (if s0_1 ≤ (s0_0.size : Int) then (if (s0_0.size : Int) ≤ (s0_0.size : Int) then ((aU_.f k (s0_0.extract (s0_1 : Int).toNat ((s0_0.size : Int) : Int).toNat)).bind fun bt285 => (some (3, (⟨#[]⟩ : ByteArray), bt285.1, ([] : List (S53)), false, (bt285.2 == 0), s0_0, (s0_0.size : Int)))) else (none)) else (none)) else (none)) else (if 0 ≤ s0_1 then (if s0_1 ≤ t284 then (if t284 ≤ (s0_0.size : Int) then ((aU_.f k (s0_0.extract (s0_1 : Int).toNat (t284 : Int).toNat)).bind fun bt287 => (some (3, (⟨#[]⟩ : ByteArray), bt287.1, ([] : List (S53)), false, (bt287.2 == 0), s0_0, t284))) else (none)) else (none)) else (none)))))))) = some (r1, r2, r3, r4, r5, r6, r7, r8) := by rw [if_neg nF] at H; exact H
 replace H := bi H
 obtain ⟨t262, A410, H⟩ := H
 try dsimp only at H
 have A41 := aA_.mk A410
 clear A410
 by_cases c42 : t262 = true
 ·subst c42
  replace H : ((bI_.f k s0_0 s0_1).bind fun bt263 => (some (bt263.1, bt263.2.1, bt263.2.2.1, bt263.2.2.2.1, bt263.2.2.2.2.1, bt263.2.2.2.2.2.1, bt263.2.2.2.2.2.2.1, bt263.2.2.2.2.2.2.2))) = some (r1, r2, r3, r4, r5, r6, r7, r8) := by rw [if_pos rfl] at H; exact H
  replace H := bi H
  obtain ⟨⟨t263, t264, t265, t266, t269, t270, t271, t272⟩, A430, H⟩ := H
  try dsimp only at H
  have A43 := aA_.mk A430
  clear A430
  simp only [Option.some.injEq, Prod.mk.injEq] at H
  obtain ⟨rfl, rfl, rfl, rfl, rfl, rfl, rfl, rfl⟩ := H
  go_enter Tryz.func35, Tryz.ntmps35
  try go_wp2_with (first | (refine be 2 #[.int .i64 0, .string (⟨#[]⟩ : ByteArray), .string (⟨#[]⟩ : ByteArray), .slice none 0 0, .bool false] 45 ?_; intro gb240 hg w44 hbox hb; replace HB := aA_.mk (bG_ (r7e4_) hb); have BK240 := aA_.mk (hbox); have GW240 := aA_.mk ((by rw [hg]; exact (bF_ (w := w) (g := g) (row := none) (r7f5_)) : w.heap.size ≤ gb240)); have GE240 := aA_.mk ((Nat.le_trans HW0.out (by rw [hg]; exact (bF_ (w := w) (g := g) (row := none) (r7f5_)) : w.heap.size ≤ gb240) : w0.heap.size ≤ gb240)); replace HK := aA_.mk (aJ_.trans (r7f5_) (aJ_.of_below hb g none) (.inl rfl)); have NB0_240 := aA_.mk ((by rw [hg]; exact Nat.ne_of_lt (aD_.lt (show aD_ w0 _ g s0_0 s0_1 from r7c2_)) : g ≠ gb240)); have NB240_0 := aA_.mk ((by rw [hg]; exact Nat.ne_of_gt (aD_.lt (show aD_ w0 _ g s0_0 s0_1 from r7c2_)) : gb240 ≠ g)); replace HI0 := aA_.mk (aD_.below (r7c2_) hb); clear hb hbox hg))
  generalize w44 = w45 at BK240 HI0 HK HB ⊢
  have sq0_ := (a9_ HI0.out.1)
  have sq1_ := (bA_ HI0.out.1)
  go_quiet ((go_at_call 54; exact aR_.qd (aK_.calls s0_0 (⟨#[60, 33, 45, 45]⟩ : ByteArray) s0_1 false _ (by exact Glob.step HG.out (r7b1_)) A2.out)))
  clear sq0_ sq1_
  try go_wp2
  (try ((try simp only [World.drewN_drewN]); (first | generalize hq_ : World.drewN w45 _ = w45 | (rw [cD_ w45]; generalize hq_ : World.drewN w45 _ = w45)); have n0_ : aA_ (w45.heap[gb240]? = some (.cells #[.int .i64 0, .string (⟨#[]⟩ : ByteArray), .string (⟨#[]⟩ : ByteArray), .slice none 0 0, .bool false] 45 (0, 0))) := ⟨by rw [← hq_]; exact (bK BK240)⟩; have n1_ : aA_ (aD_ w0 w45 g s0_0 s0_1) := ⟨by rw [← hq_]; exact (r7a0_)⟩; have n2_ : aA_ (aJ_ w w45 g none) := ⟨by rw [← hq_]; exact (r7d3_)⟩; have n3_ : aA_ (Below w0.heap.size w0 w45) := ⟨by rw [← hq_]; exact (r7b1_)⟩; clear BK240 HI0 HK HB hq_; have BK240 := n0_; have HI0 := n1_; have HK := n2_; have HB := n3_; clear n0_ n1_ n2_ n3_))
  generalize w45 = w46 at BK240 HI0 HK HB ⊢
  have sq0_ := (a9_ HI0.out.1)
  have sq1_ := (bA_ HI0.out.1)
  go_quiet ((go_at_call 54; exact aR_.qd (aK_.calls s0_0 (⟨#[60, 33, 91, 67, 68, 65, 84, 65, 91]⟩ : ByteArray) s0_1 false _ (by exact Glob.step HG.out (r7b1_)) A11.out)))
  clear sq0_ sq1_
  try go_wp2
  (try ((try simp only [World.drewN_drewN]); (first | generalize hq_ : World.drewN w46 _ = w46 | (rw [cD_ w46]; generalize hq_ : World.drewN w46 _ = w46)); have n0_ : aA_ (w46.heap[gb240]? = some (.cells #[.int .i64 0, .string (⟨#[]⟩ : ByteArray), .string (⟨#[]⟩ : ByteArray), .slice none 0 0, .bool false] 45 (0, 0))) := ⟨by rw [← hq_]; exact (bK BK240)⟩; have n1_ : aA_ (aD_ w0 w46 g s0_0 s0_1) := ⟨by rw [← hq_]; exact (r7a0_)⟩; have n2_ : aA_ (aJ_ w w46 g none) := ⟨by rw [← hq_]; exact (r7d3_)⟩; have n3_ : aA_ (Below w0.heap.size w0 w46) := ⟨by rw [← hq_]; exact (r7b1_)⟩; clear BK240 HI0 HK HB hq_; have BK240 := n0_; have HI0 := n1_; have HK := n2_; have HB := n3_; clear n0_ n1_ n2_ n3_))
  generalize w46 = w47 at BK240 HI0 HK HB ⊢
  have sq0_ := (a9_ HI0.out.1)
  have sq1_ := (bA_ HI0.out.1)
  go_quiet ((go_at_call 54; exact aR_.qd (aK_.calls s0_0 (⟨#[60, 63]⟩ : ByteArray) s0_1 false _ (by exact Glob.step HG.out (r7b1_)) A21.out)))
  clear sq0_ sq1_
  try go_wp2
  (try ((try simp only [World.drewN_drewN]); (first | generalize hq_ : World.drewN w47 _ = w47 | (rw [cD_ w47]; generalize hq_ : World.drewN w47 _ = w47)); have n0_ : aA_ (w47.heap[gb240]? = some (.cells #[.int .i64 0, .string (⟨#[]⟩ : ByteArray), .string (⟨#[]⟩ : ByteArray), .slice none 0 0, .bool false] 45 (0, 0))) := ⟨by rw [← hq_]; exact (bK BK240)⟩; have n1_ : aA_ (aD_ w0 w47 g s0_0 s0_1) := ⟨by rw [← hq_]; exact (r7a0_)⟩; have n2_ : aA_ (aJ_ w w47 g none) := ⟨by rw [← hq_]; exact (r7d3_)⟩; have n3_ : aA_ (Below w0.heap.size w0 w47) := ⟨by rw [← hq_]; exact (r7b1_)⟩; clear BK240 HI0 HK HB hq_; have BK240 := n0_; have HI0 := n1_; have HK := n2_; have HB := n3_; clear n0_ n1_ n2_ n3_))
  generalize w47 = w48 at BK240 HI0 HK HB ⊢
  have sq0_ := (a9_ HI0.out.1)
  have sq1_ := (bA_ HI0.out.1)
  go_quiet ((go_at_call 54; exact aR_.qd (aK_.calls s0_0 (⟨#[60, 47]⟩ : ByteArray) s0_1 true _ (by exact Glob.step HG.out (r7b1_)) A41.out)))
  clear sq0_ sq1_
  try go_wp2_with (first | (refine gl (some 91) Tryz.func57 #[.pointer (some ⟨g, 0, none⟩)] ?_; (with_reducible refine (bI_.calls k g s0_0 s0_1 t263 t264 t265 t266 t269 t270 t271 t272 w0 _ ?side1 ?side2 ?side3 A43.out).mono ?_); (case side1 => exact r7a0_); (case side2 => exact r7b1_); (case side3 => exact HG.out); rintro e w49 ⟨v267, rfl, ho0, hi, hb, hk⟩; refine ⟨_, rfl, ?_⟩; replace BK240 := aA_.mk (aJ_.blk hk (g' := gb240) (o := .cells #[.int .i64 0, .string (⟨#[]⟩ : ByteArray), .string (⟨#[]⟩ : ByteArray), .slice none 0 0, .bool false] 45 (0, 0)) (bK BK240) NB240_0.out (by simp)); have HO268 := aA_.mk (Kd.R_lower ho0 (bF_ (w := w) (g := g) (row := none) (r7d3_))); replace HK := aA_.mk (aJ_.trans (r7d3_) hk (.inl rfl)); replace HB := aA_.mk (hb); replace HI0 := aA_.mk (hi); (try clear hb); (try clear hk); (try clear hi); (try clear ho0); have hnb50 := NB240_0.out; have hnc50 := NB0_240.out; have hcz51_0 : w49.cell? ⟨gb240, 0, none⟩ = some (.int .i64 0) := (aC_ BK240.out 0).trans rfl; have hcz51_1 : w49.cell? ⟨gb240, 1, none⟩ = some (.string (⟨#[]⟩ : ByteArray)) := (aC_ BK240.out 1).trans rfl; have hcz51_2 : w49.cell? ⟨gb240, 2, none⟩ = some (.string (⟨#[]⟩ : ByteArray)) := (aC_ BK240.out 2).trans rfl; have hcz51_3 : w49.cell? ⟨gb240, 3, none⟩ = some (.slice none 0 0) := (aC_ BK240.out 3).trans rfl; have hcz51_4 : w49.cell? ⟨gb240, 4, none⟩ = some (.bool false) := (aC_ BK240.out 4).trans rfl; have hfz51_0 := aE_ BK240.out 0; have hfz51_1 := aE_ BK240.out 1; have hfz51_2 := aE_ BK240.out 2; have hfz51_3 := aE_ BK240.out 3; have hfz51_4 := aE_ BK240.out 4; obtain ⟨Ao52, co52, eo52⟩ := Kd.R_slice HO268.out; subst eo52))
  refine bodyPost_ret (b8_ rfl _ _ gb240 45 #[.int .i64 t263, .string t264, .string t265, .slice Ao52 t266.length co52, .bool t269] (0, 0) _ rfl (bP BK240) Tryz.underlying45 rfl (by kernel_rfl)) rfl ?_
  exact ⟨_, by first | rfl | (simp [bL_, bK_] <;> rfl) | (simp [*, bL_, bK_] <;> rfl), by (with_reducible repeat (first | apply Kd.R_alloc | apply Kd.R_drewN | apply Kd.R_drew)); exact Kd.R_mono (Kd.R_far (p := ⟨gb240, 4, none⟩) (Kd.R_far (p := ⟨gb240, 3, none⟩) (Kd.R_far (p := ⟨gb240, 2, none⟩) (Kd.R_far (p := ⟨gb240, 1, none⟩) (Kd.R_far (p := ⟨gb240, 0, none⟩) (Kd.R_types HO268.out BK240.out (by decide)) (fun _ hk => hk.2) (.int .i64 t263)) (fun _ hk => hk.2) (.string t264)) (fun _ hk => hk.2) (.string t265)) (fun _ hk => hk.2) (.slice Ao52 t266.length co52)) (fun _ hk => hk.2) (.bool t269)) (fun _ hk => trivial), r7a0_, r7b1_, r7d3_⟩
 replace c42 := Bool.eq_false_iff.mpr c42
 subst c42
 replace H : ((aK_.f s0_0 (⟨#[60]⟩ : ByteArray) s0_1).bind fun t273 => (if t273 = true then ((aT_.f k s0_0 s0_1).bind fun bt274 => (some (bt274.1, bt274.2.1, bt274.2.2.1, bt274.2.2.2.1, bt274.2.2.2.2.1, bt274.2.2.2.2.2.1, bt274.2.2.2.2.2.2.1, bt274.2.2.2.2.2.2.2))) else ((aW_.f k s0_0 (⟨#[60]⟩ : ByteArray) s0_1).bind fun t284 => (if t284 < 0 then (if 0 ≤ s0_1 then (if s0_1 ≤ (s0_0.size : Int) then (if (s0_0.size : Int) ≤ (s0_0.size : Int) then ((aU_.f k (s0_0.extract (s0_1 : Int).toNat ((s0_0.size : Int) : Int).toNat)).bind fun bt285 => (some (3, (⟨#[]⟩ : ByteArray), bt285.1, ([] : List (S53)), false, (bt285.2 == 0), s0_0, (s0_0.size : Int)))) else (none)) else (none)) else (none)) else (if 0 ≤ s0_1 then (if s0_1 ≤ t284 then (if t284 ≤ (s0_0.size : Int) then ((aU_.f k (s0_0.extract (s0_1 : Int).toNat (t284 : Int).toNat)).bind fun bt287 => (some (3, (⟨#[]⟩ : ByteArray), bt287.1, ([] : List (S53)), false, (bt287.2 == 0), s0_0, t284))) else (none)) else (none)) else (none)))))) = some (r1, r2, r3, r4, r5, r6, r7, r8) := by rw [if_neg nF] at H; exact H
 replace H := bi H
 obtain ⟨t273, A530, H⟩ := H
 try dsimp only at H
 have A53 := aA_.mk A530
 clear A530
 by_cases c54 : t273 = true
 ·subst c54
  replace H : ((aT_.f k s0_0 s0_1).bind fun bt274 => (some (bt274.1, bt274.2.1, bt274.2.2.1, bt274.2.2.2.1, bt274.2.2.2.2.1, bt274.2.2.2.2.2.1, bt274.2.2.2.2.2.2.1, bt274.2.2.2.2.2.2.2))) = some (r1, r2, r3, r4, r5, r6, r7, r8) := by rw [if_pos rfl] at H; exact H
  replace H := bi H
  obtain ⟨⟨t274, t275, t276, t277, t280, t281, t282, t283⟩, A550, H⟩ := H
  try dsimp only at H
  have A55 := aA_.mk A550
  clear A550
  simp only [Option.some.injEq, Prod.mk.injEq] at H
  obtain ⟨rfl, rfl, rfl, rfl, rfl, rfl, rfl, rfl⟩ := H
  go_enter Tryz.func35, Tryz.ntmps35
  try go_wp2_with (first | (refine be 2 #[.int .i64 0, .string (⟨#[]⟩ : ByteArray), .string (⟨#[]⟩ : ByteArray), .slice none 0 0, .bool false] 45 ?_; intro gb240 hg w56 hbox hb; replace HB := aA_.mk (bG_ (r7e4_) hb); have BK240 := aA_.mk (hbox); have GW240 := aA_.mk ((by rw [hg]; exact (bF_ (w := w) (g := g) (row := none) (r7f5_)) : w.heap.size ≤ gb240)); have GE240 := aA_.mk ((Nat.le_trans HW0.out (by rw [hg]; exact (bF_ (w := w) (g := g) (row := none) (r7f5_)) : w.heap.size ≤ gb240) : w0.heap.size ≤ gb240)); replace HK := aA_.mk (aJ_.trans (r7f5_) (aJ_.of_below hb g none) (.inl rfl)); have NB0_240 := aA_.mk ((by rw [hg]; exact Nat.ne_of_lt (aD_.lt (show aD_ w0 _ g s0_0 s0_1 from r7c2_)) : g ≠ gb240)); have NB240_0 := aA_.mk ((by rw [hg]; exact Nat.ne_of_gt (aD_.lt (show aD_ w0 _ g s0_0 s0_1 from r7c2_)) : gb240 ≠ g)); replace HI0 := aA_.mk (aD_.below (r7c2_) hb); clear hb hbox hg))
  generalize w56 = w57 at BK240 HI0 HK HB ⊢
  have sq0_ := (a9_ HI0.out.1)
  have sq1_ := (bA_ HI0.out.1)
  go_quiet ((go_at_call 54; exact aR_.qd (aK_.calls s0_0 (⟨#[60, 33, 45, 45]⟩ : ByteArray) s0_1 false _ (by exact Glob.step HG.out (r7b1_)) A2.out)))
  clear sq0_ sq1_
  try go_wp2
  (try ((try simp only [World.drewN_drewN]); (first | generalize hq_ : World.drewN w57 _ = w57 | (rw [cD_ w57]; generalize hq_ : World.drewN w57 _ = w57)); have n0_ : aA_ (w57.heap[gb240]? = some (.cells #[.int .i64 0, .string (⟨#[]⟩ : ByteArray), .string (⟨#[]⟩ : ByteArray), .slice none 0 0, .bool false] 45 (0, 0))) := ⟨by rw [← hq_]; exact (bK BK240)⟩; have n1_ : aA_ (aD_ w0 w57 g s0_0 s0_1) := ⟨by rw [← hq_]; exact (r7a0_)⟩; have n2_ : aA_ (aJ_ w w57 g none) := ⟨by rw [← hq_]; exact (r7d3_)⟩; have n3_ : aA_ (Below w0.heap.size w0 w57) := ⟨by rw [← hq_]; exact (r7b1_)⟩; clear BK240 HI0 HK HB hq_; have BK240 := n0_; have HI0 := n1_; have HK := n2_; have HB := n3_; clear n0_ n1_ n2_ n3_))
  generalize w57 = w58 at BK240 HI0 HK HB ⊢
  have sq0_ := (a9_ HI0.out.1)
  have sq1_ := (bA_ HI0.out.1)
  go_quiet ((go_at_call 54; exact aR_.qd (aK_.calls s0_0 (⟨#[60, 33, 91, 67, 68, 65, 84, 65, 91]⟩ : ByteArray) s0_1 false _ (by exact Glob.step HG.out (r7b1_)) A11.out)))
  clear sq0_ sq1_
  try go_wp2
  (try ((try simp only [World.drewN_drewN]); (first | generalize hq_ : World.drewN w58 _ = w58 | (rw [cD_ w58]; generalize hq_ : World.drewN w58 _ = w58)); have n0_ : aA_ (w58.heap[gb240]? = some (.cells #[.int .i64 0, .string (⟨#[]⟩ : ByteArray), .string (⟨#[]⟩ : ByteArray), .slice none 0 0, .bool false] 45 (0, 0))) := ⟨by rw [← hq_]; exact (bK BK240)⟩; have n1_ : aA_ (aD_ w0 w58 g s0_0 s0_1) := ⟨by rw [← hq_]; exact (r7a0_)⟩; have n2_ : aA_ (aJ_ w w58 g none) := ⟨by rw [← hq_]; exact (r7d3_)⟩; have n3_ : aA_ (Below w0.heap.size w0 w58) := ⟨by rw [← hq_]; exact (r7b1_)⟩; clear BK240 HI0 HK HB hq_; have BK240 := n0_; have HI0 := n1_; have HK := n2_; have HB := n3_; clear n0_ n1_ n2_ n3_))
  generalize w58 = w59 at BK240 HI0 HK HB ⊢
  have sq0_ := (a9_ HI0.out.1)
  have sq1_ := (bA_ HI0.out.1)
  go_quiet ((go_at_call 54; exact aR_.qd (aK_.calls s0_0 (⟨#[60, 63]⟩ : ByteArray) s0_1 false _ (by exact Glob.step HG.out (r7b1_)) A21.out)))
  clear sq0_ sq1_
  try go_wp2
  (try ((try simp only [World.drewN_drewN]); (first | generalize hq_ : World.drewN w59 _ = w59 | (rw [cD_ w59]; generalize hq_ : World.drewN w59 _ = w59)); have n0_ : aA_ (w59.heap[gb240]? = some (.cells #[.int .i64 0, .string (⟨#[]⟩ : ByteArray), .string (⟨#[]⟩ : ByteArray), .slice none 0 0, .bool false] 45 (0, 0))) := ⟨by rw [← hq_]; exact (bK BK240)⟩; have n1_ : aA_ (aD_ w0 w59 g s0_0 s0_1) := ⟨by rw [← hq_]; exact (r7a0_)⟩; have n2_ : aA_ (aJ_ w w59 g none) := ⟨by rw [← hq_]; exact (r7d3_)⟩; have n3_ : aA_ (Below w0.heap.size w0 w59) := ⟨by rw [← hq_]; exact (r7b1_)⟩; clear BK240 HI0 HK HB hq_; have BK240 := n0_; have HI0 := n1_; have HK := n2_; have HB := n3_; clear n0_ n1_ n2_ n3_))
  generalize w59 = w60 at BK240 HI0 HK HB ⊢
  have sq0_ := (a9_ HI0.out.1)
  have sq1_ := (bA_ HI0.out.1)
  go_quiet ((go_at_call 54; exact aR_.qd (aK_.calls s0_0 (⟨#[60, 47]⟩ : ByteArray) s0_1 false _ (by exact Glob.step HG.out (r7b1_)) A41.out)))
  clear sq0_ sq1_
  try go_wp2
  (try ((try simp only [World.drewN_drewN]); (first | generalize hq_ : World.drewN w60 _ = w60 | (rw [cD_ w60]; generalize hq_ : World.drewN w60 _ = w60)); have n0_ : aA_ (w60.heap[gb240]? = some (.cells #[.int .i64 0, .string (⟨#[]⟩ : ByteArray), .string (⟨#[]⟩ : ByteArray), .slice none 0 0, .bool false] 45 (0, 0))) := ⟨by rw [← hq_]; exact (bK BK240)⟩; have n1_ : aA_ (aD_ w0 w60 g s0_0 s0_1) := ⟨by rw [← hq_]; exact (r7a0_)⟩; have n2_ : aA_ (aJ_ w w60 g none) := ⟨by rw [← hq_]; exact (r7d3_)⟩; have n3_ : aA_ (Below w0.heap.size w0 w60) := ⟨by rw [← hq_]; exact (r7b1_)⟩; clear BK240 HI0 HK HB hq_; have BK240 := n0_; have HI0 := n1_; have HK := n2_; have HB := n3_; clear n0_ n1_ n2_ n3_))
  generalize w60 = w61 at BK240 HI0 HK HB ⊢
  have sq0_ := (a9_ HI0.out.1)
  have sq1_ := (bA_ HI0.out.1)
  go_quiet ((go_at_call 54; exact aR_.qd (aK_.calls s0_0 (⟨#[60]⟩ : ByteArray) s0_1 true _ (by exact Glob.step HG.out (r7b1_)) A53.out)))
  clear sq0_ sq1_
  try go_wp2_with (first | (refine gl (some 105) Tryz.func58 #[.pointer (some ⟨g, 0, none⟩)] ?_; (with_reducible refine (aT_.calls k g s0_0 s0_1 t274 t275 t276 t277 t280 t281 t282 t283 w0 _ ?side1 ?side2 ?side3 A55.out).mono ?_); (case side1 => exact r7a0_); (case side2 => exact r7b1_); (case side3 => exact HG.out); rintro e w62 ⟨v278, rfl, ho0, hi, hb, hk⟩; refine ⟨_, rfl, ?_⟩; replace BK240 := aA_.mk (aJ_.blk hk (g' := gb240) (o := .cells #[.int .i64 0, .string (⟨#[]⟩ : ByteArray), .string (⟨#[]⟩ : ByteArray), .slice none 0 0, .bool false] 45 (0, 0)) (bK BK240) NB240_0.out (by simp)); have HO279 := aA_.mk (Kd.R_lower ho0 (bF_ (w := w) (g := g) (row := none) (r7d3_))); replace HK := aA_.mk (aJ_.trans (r7d3_) hk (.inl rfl)); replace HB := aA_.mk (hb); replace HI0 := aA_.mk (hi); (try clear hb); (try clear hk); (try clear hi); (try clear ho0); have hnb63 := NB240_0.out; have hnc63 := NB0_240.out; have hcz64_0 : w62.cell? ⟨gb240, 0, none⟩ = some (.int .i64 0) := (aC_ BK240.out 0).trans rfl; have hcz64_1 : w62.cell? ⟨gb240, 1, none⟩ = some (.string (⟨#[]⟩ : ByteArray)) := (aC_ BK240.out 1).trans rfl; have hcz64_2 : w62.cell? ⟨gb240, 2, none⟩ = some (.string (⟨#[]⟩ : ByteArray)) := (aC_ BK240.out 2).trans rfl; have hcz64_3 : w62.cell? ⟨gb240, 3, none⟩ = some (.slice none 0 0) := (aC_ BK240.out 3).trans rfl; have hcz64_4 : w62.cell? ⟨gb240, 4, none⟩ = some (.bool false) := (aC_ BK240.out 4).trans rfl; have hfz64_0 := aE_ BK240.out 0; have hfz64_1 := aE_ BK240.out 1; have hfz64_2 := aE_ BK240.out 2; have hfz64_3 := aE_ BK240.out 3; have hfz64_4 := aE_ BK240.out 4; obtain ⟨Ao65, co65, eo65⟩ := Kd.R_slice HO279.out; subst eo65))
  refine bodyPost_ret (b8_ rfl _ _ gb240 45 #[.int .i64 t274, .string t275, .string t276, .slice Ao65 t277.length co65, .bool t280] (0, 0) _ rfl (bP BK240) Tryz.underlying45 rfl (by kernel_rfl)) rfl ?_
  exact ⟨_, by first | rfl | (simp [bL_, bK_] <;> rfl) | (simp [*, bL_, bK_] <;> rfl), by (with_reducible repeat (first | apply Kd.R_alloc | apply Kd.R_drewN | apply Kd.R_drew)); exact Kd.R_mono (Kd.R_far (p := ⟨gb240, 4, none⟩) (Kd.R_far (p := ⟨gb240, 3, none⟩) (Kd.R_far (p := ⟨gb240, 2, none⟩) (Kd.R_far (p := ⟨gb240, 1, none⟩) (Kd.R_far (p := ⟨gb240, 0, none⟩) (Kd.R_types HO279.out BK240.out (by decide)) (fun _ hk => hk.2) (.int .i64 t274)) (fun _ hk => hk.2) (.string t275)) (fun _ hk => hk.2) (.string t276)) (fun _ hk => hk.2) (.slice Ao65 t277.length co65)) (fun _ hk => hk.2) (.bool t280)) (fun _ hk => trivial), r7a0_, r7b1_, r7d3_⟩
 replace c54 := Bool.eq_false_iff.mpr c54
 subst c54
 replace H : ((aW_.f k s0_0 (⟨#[60]⟩ : ByteArray) s0_1).bind fun t284 => (if t284 < 0 then (if 0 ≤ s0_1 then (if s0_1 ≤ (s0_0.size : Int) then (if (s0_0.size : Int) ≤ (s0_0.size : Int) then ((aU_.f k (s0_0.extract (s0_1 : Int).toNat ((s0_0.size : Int) : Int).toNat)).bind fun bt285 => (some (3, (⟨#[]⟩ : ByteArray), bt285.1, ([] : List (S53)), false, (bt285.2 == 0), s0_0, (s0_0.size : Int)))) else (none)) else (none)) else (none)) else (if 0 ≤ s0_1 then (if s0_1 ≤ t284 then (if t284 ≤ (s0_0.size : Int) then ((aU_.f k (s0_0.extract (s0_1 : Int).toNat (t284 : Int).toNat)).bind fun bt287 => (some (3, (⟨#[]⟩ : ByteArray), bt287.1, ([] : List (S53)), false, (bt287.2 == 0), s0_0, t284))) else (none)) else (none)) else (none)))) = some (r1, r2, r3, r4, r5, r6, r7, r8) := by rw [if_neg nF] at H; exact H
 replace H := bi H
 obtain ⟨t284, A660, H⟩ := H
 try dsimp only at H
 have A66 := aA_.mk A660
 clear A660
 by_cases c67 : t284 < 0
 rotate_left
 ·rw [if_neg c67] at H
  have c67b0 := dF c67
  clear c67
  obtain ⟨c85, H⟩ := gp H
  have c85b0 := eq_true c85
  have c85b1 := dT c85
  clear c85
  obtain ⟨c86, H⟩ := gp H
  have c86b0 := eq_true c86
  have c86b1 := dT c86
  clear c86
  obtain ⟨c87, H⟩ := gp H
  have c87b0 := eq_true c87
  have c87b1 := dT c87
  clear c87
  replace H := bi H
  obtain ⟨⟨t287, t288⟩, A880, H⟩ := H
  try dsimp only at H
  have A88 := aA_.mk A880
  clear A880
  simp only [Option.some.injEq, Prod.mk.injEq] at H
  obtain ⟨rfl, rfl, rfl, rfl, rfl, rfl, rfl, rfl⟩ := H
  go_enter Tryz.func35, Tryz.ntmps35
  try go_wp2_with (first | (refine be 2 #[.int .i64 0, .string (⟨#[]⟩ : ByteArray), .string (⟨#[]⟩ : ByteArray), .slice none 0 0, .bool false] 45 ?_; intro gb240 hg w89 hbox hb; replace HB := aA_.mk (bG_ (r7e4_) hb); have BK240 := aA_.mk (hbox); have GW240 := aA_.mk ((by rw [hg]; exact (bF_ (w := w) (g := g) (row := none) (r7f5_)) : w.heap.size ≤ gb240)); have GE240 := aA_.mk ((Nat.le_trans HW0.out (by rw [hg]; exact (bF_ (w := w) (g := g) (row := none) (r7f5_)) : w.heap.size ≤ gb240) : w0.heap.size ≤ gb240)); replace HK := aA_.mk (aJ_.trans (r7f5_) (aJ_.of_below hb g none) (.inl rfl)); have NB0_240 := aA_.mk ((by rw [hg]; exact Nat.ne_of_lt (aD_.lt (show aD_ w0 _ g s0_0 s0_1 from r7c2_)) : g ≠ gb240)); have NB240_0 := aA_.mk ((by rw [hg]; exact Nat.ne_of_gt (aD_.lt (show aD_ w0 _ g s0_0 s0_1 from r7c2_)) : gb240 ≠ g)); replace HI0 := aA_.mk (aD_.below (r7c2_) hb); clear hb hbox hg))
  generalize w89 = w90 at BK240 HI0 HK HB ⊢
  have sq0_ := (a9_ HI0.out.1)
  have sq1_ := (bA_ HI0.out.1)
  go_quiet ((go_at_call 54; exact aR_.qd (aK_.calls s0_0 (⟨#[60, 33, 45, 45]⟩ : ByteArray) s0_1 false _ (by exact Glob.step HG.out (r7b1_)) A2.out)))
  clear sq0_ sq1_
  try go_wp2
  (try ((try simp only [World.drewN_drewN]); (first | generalize hq_ : World.drewN w90 _ = w90 | (rw [cD_ w90]; generalize hq_ : World.drewN w90 _ = w90)); have n0_ : aA_ (w90.heap[gb240]? = some (.cells #[.int .i64 0, .string (⟨#[]⟩ : ByteArray), .string (⟨#[]⟩ : ByteArray), .slice none 0 0, .bool false] 45 (0, 0))) := ⟨by rw [← hq_]; exact (bK BK240)⟩; have n1_ : aA_ (aD_ w0 w90 g s0_0 s0_1) := ⟨by rw [← hq_]; exact (r7a0_)⟩; have n2_ : aA_ (aJ_ w w90 g none) := ⟨by rw [← hq_]; exact (r7d3_)⟩; have n3_ : aA_ (Below w0.heap.size w0 w90) := ⟨by rw [← hq_]; exact (r7b1_)⟩; clear BK240 HI0 HK HB hq_; have BK240 := n0_; have HI0 := n1_; have HK := n2_; have HB := n3_; clear n0_ n1_ n2_ n3_))
  generalize w90 = w91 at BK240 HI0 HK HB ⊢
  have sq0_ := (a9_ HI0.out.1)
  have sq1_ := (bA_ HI0.out.1)
  go_quiet ((go_at_call 54; exact aR_.qd (aK_.calls s0_0 (⟨#[60, 33, 91, 67, 68, 65, 84, 65, 91]⟩ : ByteArray) s0_1 false _ (by exact Glob.step HG.out (r7b1_)) A11.out)))
  clear sq0_ sq1_
  try go_wp2
  (try ((try simp only [World.drewN_drewN]); (first | generalize hq_ : World.drewN w91 _ = w91 | (rw [cD_ w91]; generalize hq_ : World.drewN w91 _ = w91)); have n0_ : aA_ (w91.heap[gb240]? = some (.cells #[.int .i64 0, .string (⟨#[]⟩ : ByteArray), .string (⟨#[]⟩ : ByteArray), .slice none 0 0, .bool false] 45 (0, 0))) := ⟨by rw [← hq_]; exact (bK BK240)⟩; have n1_ : aA_ (aD_ w0 w91 g s0_0 s0_1) := ⟨by rw [← hq_]; exact (r7a0_)⟩; have n2_ : aA_ (aJ_ w w91 g none) := ⟨by rw [← hq_]; exact (r7d3_)⟩; have n3_ : aA_ (Below w0.heap.size w0 w91) := ⟨by rw [← hq_]; exact (r7b1_)⟩; clear BK240 HI0 HK HB hq_; have BK240 := n0_; have HI0 := n1_; have HK := n2_; have HB := n3_; clear n0_ n1_ n2_ n3_))
  generalize w91 = w92 at BK240 HI0 HK HB ⊢
  have sq0_ := (a9_ HI0.out.1)
  have sq1_ := (bA_ HI0.out.1)
  go_quiet ((go_at_call 54; exact aR_.qd (aK_.calls s0_0 (⟨#[60, 63]⟩ : ByteArray) s0_1 false _ (by exact Glob.step HG.out (r7b1_)) A21.out)))
  clear sq0_ sq1_
  try go_wp2
  (try ((try simp only [World.drewN_drewN]); (first | generalize hq_ : World.drewN w92 _ = w92 | (rw [cD_ w92]; generalize hq_ : World.drewN w92 _ = w92)); have n0_ : aA_ (w92.heap[gb240]? = some (.cells #[.int .i64 0, .string (⟨#[]⟩ : ByteArray), .string (⟨#[]⟩ : ByteArray), .slice none 0 0, .bool false] 45 (0, 0))) := ⟨by rw [← hq_]; exact (bK BK240)⟩; have n1_ : aA_ (aD_ w0 w92 g s0_0 s0_1) := ⟨by rw [← hq_]; exact (r7a0_)⟩; have n2_ : aA_ (aJ_ w w92 g none) := ⟨by rw [← hq_]; exact (r7d3_)⟩; have n3_ : aA_ (Below w0.heap.size w0 w92) := ⟨by rw [← hq_]; exact (r7b1_)⟩; clear BK240 HI0 HK HB hq_; have BK240 := n0_; have HI0 := n1_; have HK := n2_; have HB := n3_; clear n0_ n1_ n2_ n3_))
  generalize w92 = w93 at BK240 HI0 HK HB ⊢
  have sq0_ := (a9_ HI0.out.1)
  have sq1_ := (bA_ HI0.out.1)
  go_quiet ((go_at_call 54; exact aR_.qd (aK_.calls s0_0 (⟨#[60, 47]⟩ : ByteArray) s0_1 false _ (by exact Glob.step HG.out (r7b1_)) A41.out)))
  clear sq0_ sq1_
  try go_wp2
  (try ((try simp only [World.drewN_drewN]); (first | generalize hq_ : World.drewN w93 _ = w93 | (rw [cD_ w93]; generalize hq_ : World.drewN w93 _ = w93)); have n0_ : aA_ (w93.heap[gb240]? = some (.cells #[.int .i64 0, .string (⟨#[]⟩ : ByteArray), .string (⟨#[]⟩ : ByteArray), .slice none 0 0, .bool false] 45 (0, 0))) := ⟨by rw [← hq_]; exact (bK BK240)⟩; have n1_ : aA_ (aD_ w0 w93 g s0_0 s0_1) := ⟨by rw [← hq_]; exact (r7a0_)⟩; have n2_ : aA_ (aJ_ w w93 g none) := ⟨by rw [← hq_]; exact (r7d3_)⟩; have n3_ : aA_ (Below w0.heap.size w0 w93) := ⟨by rw [← hq_]; exact (r7b1_)⟩; clear BK240 HI0 HK HB hq_; have BK240 := n0_; have HI0 := n1_; have HK := n2_; have HB := n3_; clear n0_ n1_ n2_ n3_))
  generalize w93 = w94 at BK240 HI0 HK HB ⊢
  have sq0_ := (a9_ HI0.out.1)
  have sq1_ := (bA_ HI0.out.1)
  go_quiet ((go_at_call 54; exact aR_.qd (aK_.calls s0_0 (⟨#[60]⟩ : ByteArray) s0_1 false _ (by exact Glob.step HG.out (r7b1_)) A53.out)))
  clear sq0_ sq1_
  try go_wp2
  (try ((try simp only [World.drewN_drewN]); (first | generalize hq_ : World.drewN w94 _ = w94 | (rw [cD_ w94]; generalize hq_ : World.drewN w94 _ = w94)); have n0_ : aA_ (w94.heap[gb240]? = some (.cells #[.int .i64 0, .string (⟨#[]⟩ : ByteArray), .string (⟨#[]⟩ : ByteArray), .slice none 0 0, .bool false] 45 (0, 0))) := ⟨by rw [← hq_]; exact (bK BK240)⟩; have n1_ : aA_ (aD_ w0 w94 g s0_0 s0_1) := ⟨by rw [← hq_]; exact (r7a0_)⟩; have n2_ : aA_ (aJ_ w w94 g none) := ⟨by rw [← hq_]; exact (r7d3_)⟩; have n3_ : aA_ (Below w0.heap.size w0 w94) := ⟨by rw [← hq_]; exact (r7b1_)⟩; clear BK240 HI0 HK HB hq_; have BK240 := n0_; have HI0 := n1_; have HK := n2_; have HB := n3_; clear n0_ n1_ n2_ n3_))
  generalize w94 = w95 at BK240 HI0 HK HB ⊢
  have sq0_ := (a9_ HI0.out.1)
  have sq1_ := (bA_ HI0.out.1)
  go_quiet ((go_at_call 59; exact aR_.qd (aW_.calls k s0_0 (⟨#[60]⟩ : ByteArray) s0_1 t284 _ (by exact Glob.step HG.out (r7b1_)) A66.out)))
  clear sq0_ sq1_
  try go_wp2
  (try ((try simp only [World.drewN_drewN]); (first | generalize hq_ : World.drewN w95 _ = w95 | (rw [cD_ w95]; generalize hq_ : World.drewN w95 _ = w95)); have n0_ : aA_ (w95.heap[gb240]? = some (.cells #[.int .i64 0, .string (⟨#[]⟩ : ByteArray), .string (⟨#[]⟩ : ByteArray), .slice none 0 0, .bool false] 45 (0, 0))) := ⟨by rw [← hq_]; exact (bK BK240)⟩; have n1_ : aA_ (aD_ w0 w95 g s0_0 s0_1) := ⟨by rw [← hq_]; exact (r7a0_)⟩; have n2_ : aA_ (aJ_ w w95 g none) := ⟨by rw [← hq_]; exact (r7d3_)⟩; have n3_ : aA_ (Below w0.heap.size w0 w95) := ⟨by rw [← hq_]; exact (r7b1_)⟩; clear BK240 HI0 HK HB hq_; have BK240 := n0_; have HI0 := n1_; have HK := n2_; have HB := n3_; clear n0_ n1_ n2_ n3_))
  replace BK240 := aA_.mk (a0_ BK240.out)
  replace HI0 := aA_.mk (aD_.drew HI0.out)
  replace HK := aA_.mk (aM_ HK.out)
  replace HB := aA_.mk (aI_ HB.out)
  refine start_ (n := 16) (S := fun w' => w'.cell? ⟨g, 0, none⟩ = some (.string s0_0) ∧ w'.cell? ⟨g, 1, none⟩ = some (.int .i64 s0_1)) (ds := []) #[false, false, false, false, false, false, false, false, false, false, false, false, false, false, false, false] (by kernel_rfl) rfl rfl ⟨(a9_ HI0.out.1), (bA_ HI0.out.1)⟩ (fun hHeld => ?_); refine cZ_ aR_.tab17 aR_.bits17 (fun HT_ HW_ => ?_)
  generalize w95.drew = w96 at BK240 HI0 HK HB hHeld ⊢
  refine pz 0 (some 125) HT_ ?_
  refine pz 1 (some 126) HT_ ?_
  refine pz 2 (some 127) HT_ ?_
  refine pz 4 (some 129) HT_ ?_
  refine pz 5 (some 130) HT_ ?_
  refine pz 6 (some 131) HT_ ?_
  refine pz 8 (some 133) HT_ ?_
  refine tm 3 (some 128) HT_ HW_ hHeld ?_
  refine tm 7 (some 132) HT_ HW_ hHeld ?_
  refine pz 9 (some 134) HT_ ?_
  refine on 10 (some 135) HT_ (fun K hK => ?_)
  refine goes_ Tryz.func60 (by kernel_rfl) rfl #[.string (s0_0.extract (s0_1 : Int).toNat (t284 : Int).toNat)] (by rfl) rfl rfl mA ?_
  with_reducible refine (aU_.calls k (s0_0.extract (s0_1 : Int).toNat (t284 : Int).toNat) t287 t288 _ ?side1 A88.out).mono ?_
  (case side1 => exact Glob.step HG.out (r7b1_))
  rintro e w97 ⟨rfl, hb⟩
  refine ⟨_, rfl, ?_⟩
  replace BK240 := kB BK240 hb
  replace HK := aA_.mk (aJ_.trans (r7d3_) (aJ_.of_below hb g none) (.inl rfl))
  replace HB := aA_.mk (bG_ (r7b1_) hb)
  replace HI0 := aA_.mk (aD_.below (r7a0_) hb)
  (try clear hb)
  refine hK.out _ _ ⟨(a9_ HI0.out.1), (bA_ HI0.out.1)⟩ (fun hHeld => ?_)
  clear hK K
  refine nz (some 135) ?_
  refine pz 11 (some 124) HT_ ?_
  refine pz 12 (some 136) HT_ ?_
  refine pz 13 (some 137) HT_ ?_
  refine pz 14 (some 10) HT_ ?_
  refine pz 15 (some 11) HT_ ?_
  refine done_ (dO_ HT_.out (by kernel_rfl)) ?_
  obtain ⟨HGz98, hgz98⟩ := HI0.out
  have hcz98_0 := a9_ HGz98
  have hcz98_1 := bA_ HGz98
  have hfz98_0 := aE_ HGz98 0
  have hfz98_1 := aE_ HGz98 1
  clear HGz98 hgz98
  have hnb99 := NB240_0.out
  have hnc99 := NB0_240.out
  have hcz100_0 : w97.cell? ⟨gb240, 0, none⟩ = some (.int .i64 0) := (aC_ BK240.out 0).trans rfl
  have hcz100_1 : w97.cell? ⟨gb240, 1, none⟩ = some (.string (⟨#[]⟩ : ByteArray)) := (aC_ BK240.out 1).trans rfl
  have hcz100_2 : w97.cell? ⟨gb240, 2, none⟩ = some (.string (⟨#[]⟩ : ByteArray)) := (aC_ BK240.out 2).trans rfl
  have hcz100_3 : w97.cell? ⟨gb240, 3, none⟩ = some (.slice none 0 0) := (aC_ BK240.out 3).trans rfl
  have hcz100_4 : w97.cell? ⟨gb240, 4, none⟩ = some (.bool false) := (aC_ BK240.out 4).trans rfl
  have hfz100_0 := aE_ BK240.out 0
  have hfz100_1 := aE_ BK240.out 1
  have hfz100_2 := aE_ BK240.out 2
  have hfz100_3 := aE_ BK240.out 3
  have hfz100_4 := aE_ BK240.out 4
  try go_wp2
  refine bodyPost_ret (b8_ rfl _ _ gb240 45 #[.int .i64 3, .string (⟨#[]⟩ : ByteArray), .string t287, .slice none 0 0, .bool false] (0, 0) _ rfl (by (with_reducible repeat (first | refine aZ_ ?_ _ | refine a0_ ?_ | refine aV_ ?_ _)); refine cS_ (cs := #[.int .i64 3, .string (⟨#[]⟩ : ByteArray), .string t287, .slice none 0 0, .bool false]) ?_ 4 _ rfl; (with_reducible repeat (first | refine aZ_ ?_ _ | refine a0_ ?_ | refine aV_ ?_ _)); refine cS_ (cs := #[.int .i64 3, .string (⟨#[]⟩ : ByteArray), .string t287, .slice none 0 0, .bool false]) ?_ 3 _ rfl; (with_reducible repeat (first | refine aZ_ ?_ _ | refine a0_ ?_ | refine aV_ ?_ _)); refine cS_ (cs := #[.int .i64 3, .string (⟨#[]⟩ : ByteArray), .string (⟨#[]⟩ : ByteArray), .slice none 0 0, .bool false]) ?_ 2 _ rfl; (with_reducible repeat (first | refine aZ_ ?_ _ | refine a0_ ?_ | refine aV_ ?_ _)); refine cS_ (cs := #[.int .i64 3, .string (⟨#[]⟩ : ByteArray), .string (⟨#[]⟩ : ByteArray), .slice none 0 0, .bool false]) ?_ 1 _ rfl; (with_reducible repeat (first | refine aZ_ ?_ _ | refine a0_ ?_ | refine aV_ ?_ _)); refine cS_ (cs := #[.int .i64 0, .string (⟨#[]⟩ : ByteArray), .string (⟨#[]⟩ : ByteArray), .slice none 0 0, .bool false]) ?_ 0 _ rfl; (with_reducible repeat (first | refine aZ_ ?_ _ | refine a0_ ?_ | refine aV_ ?_ _)); refine bT_ ?_ NB240_0.out _; (with_reducible repeat (first | refine aZ_ ?_ _ | refine a0_ ?_ | refine aV_ ?_ _)); exact BK240.out) Tryz.underlying45 rfl (by kernel_rfl)) rfl ?_
  exact ⟨_, by first | rfl | (simp [bL_, bK_] <;> rfl) | (simp [*, bL_, bK_] <;> rfl), by first | exact Kd.R_nil _ _ _ _ _ | exact Kd.N_nil _ _ _ _ _ | exact Kd.V_nil _ _ _ _ _ | exact Kd.Q_nil _ _ _ _ _ | exact Kd.S_nil _ _ _ _ _, r7a0_, r7b1_, r7d3_⟩
 rw [if_pos c67] at H
 have c67b0 := dT c67
 clear c67
 obtain ⟨c68, H⟩ := gp H
 have c68b0 := eq_true c68
 have c68b1 := dT c68
 clear c68
 obtain ⟨c69, H⟩ := gp H
 have c69b0 := eq_true c69
 have c69b1 := dT c69
 clear c69
 obtain ⟨c70, H⟩ := gp H
 have c70b0 := eq_true c70
 have c70b1 := dT c70
 clear c70
 replace H := bi H
 obtain ⟨⟨t285, t286⟩, A710, H⟩ := H
 try dsimp only at H
 have A71 := aA_.mk A710
 clear A710
 simp only [Option.some.injEq, Prod.mk.injEq] at H
 obtain ⟨rfl, rfl, rfl, rfl, rfl, rfl, rfl, rfl⟩ := H
 go_enter Tryz.func35, Tryz.ntmps35
 try go_wp2_with (first | (refine be 2 #[.int .i64 0, .string (⟨#[]⟩ : ByteArray), .string (⟨#[]⟩ : ByteArray), .slice none 0 0, .bool false] 45 ?_; intro gb240 hg w72 hbox hb; replace HB := aA_.mk (bG_ (r7e4_) hb); have BK240 := aA_.mk (hbox); have GW240 := aA_.mk ((by rw [hg]; exact (bF_ (w := w) (g := g) (row := none) (r7f5_)) : w.heap.size ≤ gb240)); have GE240 := aA_.mk ((Nat.le_trans HW0.out (by rw [hg]; exact (bF_ (w := w) (g := g) (row := none) (r7f5_)) : w.heap.size ≤ gb240) : w0.heap.size ≤ gb240)); replace HK := aA_.mk (aJ_.trans (r7f5_) (aJ_.of_below hb g none) (.inl rfl)); have NB0_240 := aA_.mk ((by rw [hg]; exact Nat.ne_of_lt (aD_.lt (show aD_ w0 _ g s0_0 s0_1 from r7c2_)) : g ≠ gb240)); have NB240_0 := aA_.mk ((by rw [hg]; exact Nat.ne_of_gt (aD_.lt (show aD_ w0 _ g s0_0 s0_1 from r7c2_)) : gb240 ≠ g)); replace HI0 := aA_.mk (aD_.below (r7c2_) hb); clear hb hbox hg))
 generalize w72 = w73 at BK240 HI0 HK HB ⊢
 have sq0_ := (a9_ HI0.out.1)
 have sq1_ := (bA_ HI0.out.1)
 go_quiet ((go_at_call 54; exact aR_.qd (aK_.calls s0_0 (⟨#[60, 33, 45, 45]⟩ : ByteArray) s0_1 false _ (by exact Glob.step HG.out (r7b1_)) A2.out)))
 clear sq0_ sq1_
 try go_wp2
 (try ((try simp only [World.drewN_drewN]); (first | generalize hq_ : World.drewN w73 _ = w73 | (rw [cD_ w73]; generalize hq_ : World.drewN w73 _ = w73)); have n0_ : aA_ (w73.heap[gb240]? = some (.cells #[.int .i64 0, .string (⟨#[]⟩ : ByteArray), .string (⟨#[]⟩ : ByteArray), .slice none 0 0, .bool false] 45 (0, 0))) := ⟨by rw [← hq_]; exact (bK BK240)⟩; have n1_ : aA_ (aD_ w0 w73 g s0_0 s0_1) := ⟨by rw [← hq_]; exact (r7a0_)⟩; have n2_ : aA_ (aJ_ w w73 g none) := ⟨by rw [← hq_]; exact (r7d3_)⟩; have n3_ : aA_ (Below w0.heap.size w0 w73) := ⟨by rw [← hq_]; exact (r7b1_)⟩; clear BK240 HI0 HK HB hq_; have BK240 := n0_; have HI0 := n1_; have HK := n2_; have HB := n3_; clear n0_ n1_ n2_ n3_))
 generalize w73 = w74 at BK240 HI0 HK HB ⊢
 have sq0_ := (a9_ HI0.out.1)
 have sq1_ := (bA_ HI0.out.1)
 go_quiet ((go_at_call 54; exact aR_.qd (aK_.calls s0_0 (⟨#[60, 33, 91, 67, 68, 65, 84, 65, 91]⟩ : ByteArray) s0_1 false _ (by exact Glob.step HG.out (r7b1_)) A11.out)))
 clear sq0_ sq1_
 try go_wp2
 (try ((try simp only [World.drewN_drewN]); (first | generalize hq_ : World.drewN w74 _ = w74 | (rw [cD_ w74]; generalize hq_ : World.drewN w74 _ = w74)); have n0_ : aA_ (w74.heap[gb240]? = some (.cells #[.int .i64 0, .string (⟨#[]⟩ : ByteArray), .string (⟨#[]⟩ : ByteArray), .slice none 0 0, .bool false] 45 (0, 0))) := ⟨by rw [← hq_]; exact (bK BK240)⟩; have n1_ : aA_ (aD_ w0 w74 g s0_0 s0_1) := ⟨by rw [← hq_]; exact (r7a0_)⟩; have n2_ : aA_ (aJ_ w w74 g none) := ⟨by rw [← hq_]; exact (r7d3_)⟩; have n3_ : aA_ (Below w0.heap.size w0 w74) := ⟨by rw [← hq_]; exact (r7b1_)⟩; clear BK240 HI0 HK HB hq_; have BK240 := n0_; have HI0 := n1_; have HK := n2_; have HB := n3_; clear n0_ n1_ n2_ n3_))
 generalize w74 = w75 at BK240 HI0 HK HB ⊢
 have sq0_ := (a9_ HI0.out.1)
 have sq1_ := (bA_ HI0.out.1)
 go_quiet ((go_at_call 54; exact aR_.qd (aK_.calls s0_0 (⟨#[60, 63]⟩ : ByteArray) s0_1 false _ (by exact Glob.step HG.out (r7b1_)) A21.out)))
 clear sq0_ sq1_
 try go_wp2
 (try ((try simp only [World.drewN_drewN]); (first | generalize hq_ : World.drewN w75 _ = w75 | (rw [cD_ w75]; generalize hq_ : World.drewN w75 _ = w75)); have n0_ : aA_ (w75.heap[gb240]? = some (.cells #[.int .i64 0, .string (⟨#[]⟩ : ByteArray), .string (⟨#[]⟩ : ByteArray), .slice none 0 0, .bool false] 45 (0, 0))) := ⟨by rw [← hq_]; exact (bK BK240)⟩; have n1_ : aA_ (aD_ w0 w75 g s0_0 s0_1) := ⟨by rw [← hq_]; exact (r7a0_)⟩; have n2_ : aA_ (aJ_ w w75 g none) := ⟨by rw [← hq_]; exact (r7d3_)⟩; have n3_ : aA_ (Below w0.heap.size w0 w75) := ⟨by rw [← hq_]; exact (r7b1_)⟩; clear BK240 HI0 HK HB hq_; have BK240 := n0_; have HI0 := n1_; have HK := n2_; have HB := n3_; clear n0_ n1_ n2_ n3_))
 generalize w75 = w76 at BK240 HI0 HK HB ⊢
 have sq0_ := (a9_ HI0.out.1)
 have sq1_ := (bA_ HI0.out.1)
 go_quiet ((go_at_call 54; exact aR_.qd (aK_.calls s0_0 (⟨#[60, 47]⟩ : ByteArray) s0_1 false _ (by exact Glob.step HG.out (r7b1_)) A41.out)))
 clear sq0_ sq1_
 try go_wp2
 (try ((try simp only [World.drewN_drewN]); (first | generalize hq_ : World.drewN w76 _ = w76 | (rw [cD_ w76]; generalize hq_ : World.drewN w76 _ = w76)); have n0_ : aA_ (w76.heap[gb240]? = some (.cells #[.int .i64 0, .string (⟨#[]⟩ : ByteArray), .string (⟨#[]⟩ : ByteArray), .slice none 0 0, .bool false] 45 (0, 0))) := ⟨by rw [← hq_]; exact (bK BK240)⟩; have n1_ : aA_ (aD_ w0 w76 g s0_0 s0_1) := ⟨by rw [← hq_]; exact (r7a0_)⟩; have n2_ : aA_ (aJ_ w w76 g none) := ⟨by rw [← hq_]; exact (r7d3_)⟩; have n3_ : aA_ (Below w0.heap.size w0 w76) := ⟨by rw [← hq_]; exact (r7b1_)⟩; clear BK240 HI0 HK HB hq_; have BK240 := n0_; have HI0 := n1_; have HK := n2_; have HB := n3_; clear n0_ n1_ n2_ n3_))
 generalize w76 = w77 at BK240 HI0 HK HB ⊢
 have sq0_ := (a9_ HI0.out.1)
 have sq1_ := (bA_ HI0.out.1)
 go_quiet ((go_at_call 54; exact aR_.qd (aK_.calls s0_0 (⟨#[60]⟩ : ByteArray) s0_1 false _ (by exact Glob.step HG.out (r7b1_)) A53.out)))
 clear sq0_ sq1_
 try go_wp2
 (try ((try simp only [World.drewN_drewN]); (first | generalize hq_ : World.drewN w77 _ = w77 | (rw [cD_ w77]; generalize hq_ : World.drewN w77 _ = w77)); have n0_ : aA_ (w77.heap[gb240]? = some (.cells #[.int .i64 0, .string (⟨#[]⟩ : ByteArray), .string (⟨#[]⟩ : ByteArray), .slice none 0 0, .bool false] 45 (0, 0))) := ⟨by rw [← hq_]; exact (bK BK240)⟩; have n1_ : aA_ (aD_ w0 w77 g s0_0 s0_1) := ⟨by rw [← hq_]; exact (r7a0_)⟩; have n2_ : aA_ (aJ_ w w77 g none) := ⟨by rw [← hq_]; exact (r7d3_)⟩; have n3_ : aA_ (Below w0.heap.size w0 w77) := ⟨by rw [← hq_]; exact (r7b1_)⟩; clear BK240 HI0 HK HB hq_; have BK240 := n0_; have HI0 := n1_; have HK := n2_; have HB := n3_; clear n0_ n1_ n2_ n3_))
 generalize w77 = w78 at BK240 HI0 HK HB ⊢
 have sq0_ := (a9_ HI0.out.1)
 have sq1_ := (bA_ HI0.out.1)
 go_quiet ((go_at_call 59; exact aR_.qd (aW_.calls k s0_0 (⟨#[60]⟩ : ByteArray) s0_1 t284 _ (by exact Glob.step HG.out (r7b1_)) A66.out)))
 clear sq0_ sq1_
 obtain ⟨HGz79, hgz79⟩ := HI0.out
 have hcz79_0 := a9_ HGz79
 have hcz79_1 := bA_ HGz79
 have hfz79_0 := aE_ HGz79 0
 have hfz79_1 := aE_ HGz79 1
 clear HGz79 hgz79
 try go_wp2
 (try ((try simp only [World.drewN_drewN]); (first | generalize hq_ : World.drewN w78 _ = w78 | (rw [cD_ w78]; generalize hq_ : World.drewN w78 _ = w78)); have n0_ : aA_ (w78.heap[gb240]? = some (.cells #[.int .i64 0, .string (⟨#[]⟩ : ByteArray), .string (⟨#[]⟩ : ByteArray), .slice none 0 0, .bool false] 45 (0, 0))) := ⟨by rw [← hq_]; exact (bK BK240)⟩; have n1_ : aA_ (aD_ w0 w78 g s0_0 s0_1) := ⟨by rw [← hq_]; exact (r7a0_)⟩; have n2_ : aA_ (aJ_ w w78 g none) := ⟨by rw [← hq_]; exact (r7d3_)⟩; have n3_ : aA_ (Below w0.heap.size w0 w78) := ⟨by rw [← hq_]; exact (r7b1_)⟩; clear BK240 HI0 HK HB hq_; have BK240 := n0_; have HI0 := n1_; have HK := n2_; have HB := n3_; clear n0_ n1_ n2_ n3_))
 replace BK240 := aA_.mk (a0_ BK240.out)
 replace HI0 := aA_.mk (aD_.drew HI0.out)
 replace HK := aA_.mk (aM_ HK.out)
 replace HB := aA_.mk (aI_ HB.out)
 refine start_ (n := 16) (S := fun w' => w'.cell? ⟨g, 0, none⟩ = some (.string s0_0) ∧ w'.cell? ⟨g, 1, none⟩ = some (.int .i64 s0_1)) (ds := []) #[false, false, false, false, false, false, false, false, false, false, false, false, false, false, false, false] (by kernel_rfl) rfl rfl ⟨(a9_ HI0.out.1), (bA_ HI0.out.1)⟩ (fun hHeld => ?_); refine cZ_ aR_.tab17 aR_.bits17 (fun HT_ HW_ => ?_)
 generalize w78.drew = w80 at BK240 HI0 HK HB hHeld ⊢
 refine pz 0 (some 125) HT_ ?_
 refine pz 1 (some 126) HT_ ?_
 refine pz 2 (some 127) HT_ ?_
 refine pz 4 (some 129) HT_ ?_
 refine pz 5 (some 130) HT_ ?_
 refine pz 6 (some 131) HT_ ?_
 refine pz 8 (some 133) HT_ ?_
 refine tm 3 (some 128) HT_ HW_ hHeld ?_
 refine tm 7 (some 132) HT_ HW_ hHeld ?_
 refine pz 9 (some 134) HT_ ?_
 refine on 10 (some 135) HT_ (fun K hK => ?_)
 refine goes_ Tryz.func60 (by kernel_rfl) rfl #[.string (s0_0.extract (s0_1 : Int).toNat ((s0_0.size : Int) : Int).toNat)] (by rfl) rfl rfl mA ?_
 with_reducible refine (aU_.calls k (s0_0.extract (s0_1 : Int).toNat ((s0_0.size : Int) : Int).toNat) t285 t286 _ ?side1 A71.out).mono ?_
 (case side1 => exact Glob.step HG.out (r7b1_))
 rintro e w81 ⟨rfl, hb⟩
 refine ⟨_, rfl, ?_⟩
 replace BK240 := kB BK240 hb
 replace HK := aA_.mk (aJ_.trans (r7d3_) (aJ_.of_below hb g none) (.inl rfl))
 replace HB := aA_.mk (bG_ (r7b1_) hb)
 replace HI0 := aA_.mk (aD_.below (r7a0_) hb)
 (try clear hb)
 refine hK.out _ _ ⟨(a9_ HI0.out.1), (bA_ HI0.out.1)⟩ (fun hHeld => ?_)
 clear hK K
 refine nz (some 135) ?_
 refine pz 11 (some 124) HT_ ?_
 refine pz 12 (some 136) HT_ ?_
 refine pz 13 (some 137) HT_ ?_
 refine pz 14 (some 10) HT_ ?_
 refine pz 15 (some 11) HT_ ?_
 refine done_ (dO_ HT_.out (by kernel_rfl)) ?_
 obtain ⟨HGz82, hgz82⟩ := HI0.out
 have hcz82_0 := a9_ HGz82
 have hcz82_1 := bA_ HGz82
 have hfz82_0 := aE_ HGz82 0
 have hfz82_1 := aE_ HGz82 1
 clear HGz82 hgz82
 have hnb83 := NB240_0.out
 have hnc83 := NB0_240.out
 have hcz84_0 : w81.cell? ⟨gb240, 0, none⟩ = some (.int .i64 0) := (aC_ BK240.out 0).trans rfl
 have hcz84_1 : w81.cell? ⟨gb240, 1, none⟩ = some (.string (⟨#[]⟩ : ByteArray)) := (aC_ BK240.out 1).trans rfl
 have hcz84_2 : w81.cell? ⟨gb240, 2, none⟩ = some (.string (⟨#[]⟩ : ByteArray)) := (aC_ BK240.out 2).trans rfl
 have hcz84_3 : w81.cell? ⟨gb240, 3, none⟩ = some (.slice none 0 0) := (aC_ BK240.out 3).trans rfl
 have hcz84_4 : w81.cell? ⟨gb240, 4, none⟩ = some (.bool false) := (aC_ BK240.out 4).trans rfl
 have hfz84_0 := aE_ BK240.out 0
 have hfz84_1 := aE_ BK240.out 1
 have hfz84_2 := aE_ BK240.out 2
 have hfz84_3 := aE_ BK240.out 3
 have hfz84_4 := aE_ BK240.out 4
 try go_wp2
 refine bodyPost_ret (b8_ rfl _ _ gb240 45 #[.int .i64 3, .string (⟨#[]⟩ : ByteArray), .string t285, .slice none 0 0, .bool false] (0, 0) _ rfl (by (with_reducible repeat (first | refine aZ_ ?_ _ | refine a0_ ?_ | refine aV_ ?_ _)); refine cS_ (cs := #[.int .i64 3, .string (⟨#[]⟩ : ByteArray), .string t285, .slice none 0 0, .bool false]) ?_ 4 _ rfl; (with_reducible repeat (first | refine aZ_ ?_ _ | refine a0_ ?_ | refine aV_ ?_ _)); refine cS_ (cs := #[.int .i64 3, .string (⟨#[]⟩ : ByteArray), .string t285, .slice none 0 0, .bool false]) ?_ 3 _ rfl; (with_reducible repeat (first | refine aZ_ ?_ _ | refine a0_ ?_ | refine aV_ ?_ _)); refine cS_ (cs := #[.int .i64 3, .string (⟨#[]⟩ : ByteArray), .string (⟨#[]⟩ : ByteArray), .slice none 0 0, .bool false]) ?_ 2 _ rfl; (with_reducible repeat (first | refine aZ_ ?_ _ | refine a0_ ?_ | refine aV_ ?_ _)); refine cS_ (cs := #[.int .i64 3, .string (⟨#[]⟩ : ByteArray), .string (⟨#[]⟩ : ByteArray), .slice none 0 0, .bool false]) ?_ 1 _ rfl; (with_reducible repeat (first | refine aZ_ ?_ _ | refine a0_ ?_ | refine aV_ ?_ _)); refine cS_ (cs := #[.int .i64 0, .string (⟨#[]⟩ : ByteArray), .string (⟨#[]⟩ : ByteArray), .slice none 0 0, .bool false]) ?_ 0 _ rfl; (with_reducible repeat (first | refine aZ_ ?_ _ | refine a0_ ?_ | refine aV_ ?_ _)); refine bT_ ?_ NB240_0.out _; (with_reducible repeat (first | refine aZ_ ?_ _ | refine a0_ ?_ | refine aV_ ?_ _)); exact BK240.out) Tryz.underlying45 rfl (by kernel_rfl)) rfl ?_
 exact ⟨_, by first | rfl | (simp [bL_, bK_] <;> rfl) | (simp [*, bL_, bK_] <;> rfl), by first | exact Kd.R_nil _ _ _ _ _ | exact Kd.N_nil _ _ _ _ _ | exact Kd.V_nil _ _ _ _ _ | exact Kd.Q_nil _ _ _ _ _ | exact Kd.S_nil _ _ _ _ _, r7a0_, r7b1_, r7d3_⟩
def bB_.l0 : Nat → ByteArray → ByteArray → List S45 → Int → Option (List S45 × Int)
 | 0, _, _, _, _ => none
 | k + 1, s, x, L, p => if p < (s.size : Int) then (aR_.f k x p).bind fun r =>
  if r.2.2.2.2.2.1 = true then (if L.length ≤ 100000 then bB_.l0 k s r.2.2.2.2.2.2.1 (L ++ [⟨r.1, r.2.1, r.2.2.1, r.2.2.2.1, r.2.2.2.2.1⟩]) r.2.2.2.2.2.2.2 else none)
  else some ([], 5)
  else some (L, 0)
def bB_.f (k : Nat) (a0 : ByteArray) : Option (List S45 × Int) :=
 if 20000 < a0.size then some ([], 3) else (bN_.f k a0).bind fun b => if b = true then bB_.l0 k a0 a0 [] 0 else some ([], 4)
theorem bB_.mono_l : ∀ k s x L p, LeO (bB_.l0 k s x L p) (bB_.l0 (k + 1) s x L p)
 | 0, _, _, _, _ => fun r h => by simp [bB_.l0] at h
 | k + 1, s, x, L, p => by
  have ih0 := bB_.mono_l k
  unfold bB_.l0
  have m0 := @aR_.mono
  exact mo
theorem bB_.mono : ∀ a0 k, LeO (bB_.f k a0) (bB_.f (k + 1) a0) := by
 intro a0 k
 unfold bB_.f
 have m0 := @bB_.mono_l
 have m1 := @bN_.mono
 exact mo
theorem heap_size_alloc_ (w : World) (o : Obj) : (w.alloc o).heap.size = w.heap.size + 1 := Array.size_push _
theorem drawn_below_ {w w' : World} (h : aS_ w w') : Below w.heap.size w w' := by
 obtain ⟨n, rfl⟩ := h
 exact aF_ (Below.refl _ _) n
theorem refTokInfo : (Tryz.prog.info? 45).map (fun i => (i.zero, i.size, i.bytes)) = some (some (.agg #[.int .i64 0, .string ⟨#[]⟩, .string ⟨#[]⟩, .slice none 0 0, .bool false]), 5, 72) := by kernel_rfl
theorem bB_.big (s : ByteArray) (hl : 20000 < s.size) (w : World) :
 Calls Tryz.prog 19 #[.string s] w fun e w' => e = .returned (.tuple #[.slice none 0 0, .int .i64 3]) ∧ w = w' := by
 have d1 : decide ((20000 : Int) < (s.size : Int)) = true := decide_eq_true (by omega)
 have d1' : decide (20000 < s.size) = true := decide_eq_true hl
 clear hl
 go_enter Tryz.func19, Tryz.ntmps19
 go_wp2
 go_ret2
 exact ⟨rfl, rfl⟩
theorem bB_.bad (k : Nat) (s : ByteArray) (hl : ¬ 20000 < s.size) (w : World) (hG : Glob w) (h : bN_.f k s = some false) :
 Calls Tryz.prog 19 #[.string s] w fun e w' => e = .returned (.tuple #[.slice none 0 0, .int .i64 4]) ∧ Below w.heap.size w w' := by
 have d1 : decide ((20000 : Int) < (s.size : Int)) = false := decide_eq_false (by omega)
 have d1' : decide (20000 < s.size) = false := decide_eq_false hl
 have H := aA_.mk h
 have HG := aA_.mk hG
 clear hl h hG
 go_enter Tryz.func19, Tryz.ntmps19
 go_wp2_with (first | (go_at_call 34; (with_reducible refine (bN_.calls k s false _ HG.out H.out).mono ?_); rintro e w1 ⟨rfl, ⟨nd, rfl⟩⟩))
 go_ret2
 exact ⟨rfl, aF_ (Below.refl _ _) nd⟩
theorem bB_.good (k : Nat) (s : ByteArray) (r1 : List S45) (r2 : Int) (hl : ¬ 20000 < s.size) (w : World) (hG : Glob w) (h : bN_.f k s = some true) (hL : bB_.l0 k s s [] 0 = some (r1, r2)) :
 Calls Tryz.prog 19 #[.string s] w fun e w' => ∃ v0_ : Value, e = .returned (.tuple #[v0_, .int .i64 r2]) ∧ Kd.S k45 45 w' w.heap.size (fun _ => True) v0_ r1 ∧ Below w.heap.size w w' := by
 have d1 : decide ((20000 : Int) < (s.size : Int)) = false := decide_eq_false (by omega)
 have d1' : decide (20000 < s.size) = false := decide_eq_false hl
 have hu := Tryz.underlying77
 have H := aA_.mk h
 have HL := aA_.mk hL
 have HG := aA_.mk hG
 clear hl h hG hL
 go_enter Tryz.func19, Tryz.ntmps19
 go_wp2_with (first | (go_at_call 34; (with_reducible refine (bN_.calls k s true _ HG.out H.out).mono ?_); rintro e w1 ⟨rfl, hd⟩; have HD := aA_.mk (drawn_below_ hd); clear hd))
 have hb0 : Below w.heap.size w (w1.alloc (.cells #[.string s, .int .i64 0] 77)) := aH_ HD.out _
 have X0 : (w1.alloc (.cells #[.string s, .int .i64 0] 77)).heap[w1.heap.size]? = some (.cells #[.string s, .int .i64 0] 77 (0, 0)) := heap_alloc_new w1 _
 obtain ⟨g, hg⟩ : ∃ g, g = w1.heap.size := ⟨_, rfl⟩
 have HI0 := aA_.mk (show aD_ w (w1.alloc (.cells #[.string s, .int .i64 0] 77)) g s 0 from by rw [hg]; exact ⟨X0, HD.out.size⟩)
 have HB0 := aA_.mk hb0
 rw [← hg]
 clear hb0 X0 hg HD
 generalize w1.alloc _ = w2 at *
 go_loopg [5] k (fun kq v5 w' => ∃ (x : ByteArray) (L : List S45) (p : Int), aA_ (bB_.l0 kq s x L p = some (r1, r2)) ∧ aA_ (Kd.S k45 45 w' w.heap.size (fun k => k ≠ g) v5 L) ∧ aA_ (aD_ w w' g x p) ∧ aA_ (Below w.heap.size w w'))
 case atStart => exact ⟨s, [], 0, HL, ⟨Kd.S_nil _ _ _ _ _⟩, HI0, HB0⟩
 clear HL HI0 HB0 H
 obtain ⟨x, L, p, HA, HS, HI, HB⟩ := hrel
 cases gk with
 | zero => exact absurd HA.out (by simp [bB_.l0])
 | succ k1 =>
  have H := HA.out
  clear HA
  simp only [bB_.l0] at H
  have c0 := a9_ HI.out.1
  have c1 := bA_ HI.out.1
  by_cases hp : p < (s.size : Int)
  rotate_left
  ·rw [if_neg hp] at H
   simp only [Option.some.injEq, Prod.mk.injEq] at H
   obtain ⟨rfl, rfl⟩ := H
   have dp : decide (p < (s.size : Int)) = false := decide_eq_false hp
   have hSK := HS.out
   obtain ⟨A5, c5, rfl⟩ := Kd.S_slice hSK
   clear hp hSK
   go_wp2
   go_ret2
   exact ⟨_, rfl, Kd.S_mono HS.out (fun _ _ => trivial), HB.out⟩
  rw [if_pos hp] at H
  have dp : decide (p < (s.size : Int)) = true := decide_eq_true hp
  obtain ⟨⟨t1, t2, t3, t4, t5, t6, t7, t8⟩, hn, H⟩ := Option.bind_eq_some_iff.1 H
  dsimp only at H
  have HN := aA_.mk hn
  clear hn hp
  cases t6 with
  | false =>
   have H : (some ([], 5) : Option (List S45 × Int)) = some (r1, r2) := by simpa using H
   simp only [Option.some.injEq, Prod.mk.injEq] at H
   obtain ⟨rfl, rfl⟩ := H
   go_wp2_with (first | (go_at_call 35; (with_reducible refine (aR_.calls k1 g x p t1 t2 t3 t4 t5 false t7 t8 w _ HI.out HB.out HG.out HN.out).mono ?_); rintro e w3 ⟨v3, rfl, hr, hI, hB, hK⟩; obtain ⟨A3, c3, rfl⟩ := Kd.R_slice hr; have HB3 := aA_.mk hB; clear hr hI hB hK))
   go_ret2
   exact ⟨_, rfl, Kd.S_nil _ _ _ _ _, aH_ HB3.out _⟩
  | true =>
   have H : (if L.length ≤ 100000 then bB_.l0 k1 s t7 (L ++ [⟨t1, t2, t3, t4, t5⟩]) t8 else none) = some (r1, r2) := by simpa using H
   by_cases hlen : L.length ≤ 100000
   rotate_left
   ·rw [if_neg hlen] at H; cases H
   rw [if_pos hlen] at H
   have H' := aA_.mk H
   have hSK := HS.out
   obtain ⟨A5, c5, rfl⟩ := Kd.S_slice hSK
   clear H hSK
   have hgl := HI.out.lt
   have hvl := Kd.S_lt HS.out
   have HL1 := aA_.mk (Kd.S_mono (ok' := fun k => k ≠ g ∧ k < wr.heap.size) (Kd.S_bound HS.out) (fun k h => ⟨h.1, h.2.2.1⟩))
   have hbs := HB.out.size
   have hvg : some g ≠ (Value.slice A5 L.length c5).ownBlock := Kd.S_away HS.out (fun k hk => hk)
   go_wp2_with (first | (go_at_call 35; (with_reducible refine (aR_.calls k1 g x p t1 t2 t3 t4 t5 true t7 t8 w _ HI.out HB.out HG.out HN.out).mono ?_); rintro e w3 ⟨v3, rfl, hr, hI, hB, hK⟩; obtain ⟨A3, c3, rfl⟩ := Kd.R_slice hr; have hs3 : wr.heap.size ≤ w3.heap.size := bF_ (row := none) hK; have HB3 := aA_.mk hB; have HI3 := aA_.mk hI; have HR3 := aA_.mk (Kd.R_lower (Kd.R_mono (ok' := fun k => wr.heap.size ≤ k) (Kd.R_bound hr) (fun k h => h.2.1)) hbs); have HL3 := aA_.mk (Kd.S_keep HL1.out hK (fun k h => h.1)); clear hr hI hB hK) | ((with_reducible refine dZ_ (b := .append) (xs := #[.tmp 31, .tmp 33]) rfl ?_); at_builtin; refine Kd.S_append k45 (w0 := w) w.heap.size rfl (.tmp 31) (.tmp 33) 22 45 (.agg #[.int .i64 0, .string ⟨#[]⟩, .string ⟨#[]⟩, .slice none 0 0, .bool false]) 72 rfl Tryz.underlying22 refTokInfo rfl (by decide) (by omega) (.slice A5 L.length c5) L (⟨t1, t2, t3, t4, t5⟩ : S45) [.int .i64 t1, .string t2, .string t3, .slice A3 t4.length c3, .bool t5] (fun k => k ≠ g) (fun k => wr.heap.size ≤ k) rfl ?aX ?aP ?aK ?aF ?aO ?aB ?aS ?aL ?_; (case aX => (show Value.slice (some ⟨w3.heap.size + 1, 0, none⟩) 1 1 = _); rw [heap_size_alloc_]); (case aP => exact k45_mkM _ _ _ (⟨t1, t2, t3, t4, t5⟩ : S45) (Kd.R_alloc HR3.out _)); (case aK => exact fun k hk => ⟨by omega, fun e => by have := hvl k e.symm; omega⟩); (case aF => exact fun k hk => by have h_ : w3.heap.size ≤ k := Nat.le_trans (aH_ (Below.refl w3.heap.size w3) _).size hk; omega); (case aO => exact Kd.S_mono (Kd.S_alloc HL3.out _) (fun k h => ⟨h.1, by omega⟩)); (case aB => exact aH_ HB3.out _); (case aS => exact (aH_ HB3.out _).size); (case aL => omega); intro v1 w4 ho hb hg hat; have HS4 := aA_.mk ho; have HB4 := aA_.mk hb; have HI4 := aA_.mk ((HI3.out.alloc _).grown hg hvg); clear ho hb hg hat))
   go_roundg k1
   case measure => omega
   case rel => exact ⟨t7, L ++ [⟨t1, t2, t3, t4, t5⟩], t8, H', HS4, HI4, HB4⟩
theorem bB_.calls (k : Nat) (a0 : ByteArray) (r1 : List S45) (r2 : Int) (w : World) (hG : Glob w) (h : bB_.f k a0 = some (r1, r2)) :
 Calls Tryz.prog 19 #[.string a0] w fun e w' => ∃ v0_ : Value, e = .returned (.tuple #[v0_, .int .i64 r2]) ∧ Kd.S k45 45 w' w.heap.size (fun _ => True) v0_ r1 ∧ Below w.heap.size w w' := by
 unfold bB_.f at h
 by_cases hl : 20000 < a0.size
 ·rw [if_pos hl] at h
  simp only [Option.some.injEq, Prod.mk.injEq] at h
  obtain ⟨rfl, rfl⟩ := h
  refine (bB_.big a0 hl w).mono ?_
  rintro e w' ⟨rfl, rfl⟩
  exact ⟨_, rfl, Kd.S_nil _ _ _ _ _, Below.refl _ _⟩
 rw [if_neg hl] at h
 obtain ⟨b, hb, h⟩ := Option.bind_eq_some_iff.1 h
 cases b with
 | true => exact bB_.good k a0 r1 r2 hl w hG hb (by simpa using h)
 | false =>
  have h : (some ([], 4) : Option (List S45 × Int)) = some (r1, r2) := by simpa using h
  simp only [Option.some.injEq, Prod.mk.injEq] at h
  obtain ⟨rfl, rfl⟩ := h
  refine (bB_.bad k a0 hl w hG hb).mono ?_
  rintro e w' ⟨rfl, b⟩
  exact ⟨_, rfl, Kd.S_nil _ _ _ _ _, b⟩
def cC_.f (k : Nat) (a0 : ByteArray) : Option ((List (S32)) × Int) := (bB_.f k a0).bind fun bt289 => (if bt289.2 = 0 then ((cG_.f bt289.1).bind fun bt293 => (some (bt293.1, bt293.2))) else (some (([] : List (S32)), bt289.2)))
theorem cC_.mono : ∀ a0 k, LeO (cC_.f k a0) (cC_.f (k + 1) a0) := by
 intro a0 k
 unfold cC_.f
 have m0 := @bB_.mono
 exact mo
theorem cC_.calls (k : Nat) (a0 : ByteArray) (r1 : List (S32)) (r2 : Int) (w : World) (hG : Glob w) (h : cC_.f k a0 = some (r1, r2)) :
 Calls Tryz.prog 8 #[.string a0] w fun e w' => ∃ v0_ : Value, e = .returned (.tuple #[v0_, .int .i64 r2]) ∧ Kd.S k32 32 w' w.heap.size (fun _ => True) v0_ r1 ∧ Below w.heap.size w w' := by
 have HG := aA_.mk hG
 clear hG
 have HB := aA_.mk (Below.refl w.heap.size w)
 have H : ((bB_.f k a0).bind fun bt289 => (if bt289.2 = 0 then ((cG_.f bt289.1).bind fun bt293 => (some (bt293.1, bt293.2))) else (some (([] : List (S32)), bt289.2)))) = some (r1, r2) := h
 clear h
 replace H := bi H
 obtain ⟨⟨t289, t290⟩, A20, H⟩ := H
 try dsimp only at H
 have A2 := aA_.mk A20
 clear A20
 by_cases c3 : t290 = 0
 rotate_left
 ·rw [if_neg c3] at H
  obtain ⟨c3b0, c3b1⟩ := eqF c3
  simp only [Option.some.injEq, Prod.mk.injEq] at H
  obtain ⟨rfl, rfl⟩ := H
  go_enter Tryz.func8, Tryz.ntmps8
  go_wp2_with (first | (refine gl (some 8) Tryz.func19 #[.string a0] ?_; (with_reducible refine (bB_.calls k a0 t289 t290 _ (gS HG) A2.out).mono ?_); rintro e w8 ⟨v291, rfl, ho0, hb⟩; refine ⟨_, rfl, ?_⟩; have HO292 := aA_.mk (Kd.S_lower ho0 (cA_ bE)); replace HB := sB hb; (try clear hb); (try clear ho0)))
  go_ret2
  exact ⟨_, by first | rfl | (simp [bL_, bK_] <;> rfl) | (simp [*, bL_, bK_] <;> rfl), by first | exact Kd.S_nil _ _ _ _ _ | exact Kd.N_nil _ _ _ _ _ | exact Kd.V_nil _ _ _ _ _ | exact Kd.Q_nil _ _ _ _ _ | exact Kd.R_nil _ _ _ _ _, bE⟩
 rw [if_pos c3] at H
 obtain ⟨c3b0, c3b1⟩ := eqT c3
 clear c3
 replace H := bi H
 obtain ⟨⟨t293, t294⟩, A40, H⟩ := H
 try dsimp only at H
 have A4 := aA_.mk A40
 clear A40
 simp only [Option.some.injEq, Prod.mk.injEq] at H
 obtain ⟨rfl, rfl⟩ := H
 go_enter Tryz.func8, Tryz.ntmps8
 go_wp2_with (first | (refine gl (some 8) Tryz.func19 #[.string a0] ?_; (with_reducible refine (bB_.calls k a0 t289 t290 _ (gS HG) A2.out).mono ?_); rintro e w5 ⟨v291, rfl, ho0, hb⟩; refine ⟨_, rfl, ?_⟩; have HO292 := aA_.mk (Kd.S_lower ho0 (cA_ bE)); replace HB := sB hb; (try clear hb); (try clear ho0); obtain ⟨Ao6, co6, eo6⟩ := Kd.S_slice HO292.out; subst eo6) | (refine gl (some 15) Tryz.func6 #[.slice Ao6 t289.length co6] ?_; (with_reducible refine (cG_.calls _ _ t289 t293 t294 _ ?side1 ?side2 (gS HG) A4.out).mono ?_); (case side1 => repeat (first | exact (Kd.S_reads' HO292.out).2.2 | (with_reducible refine Kd.C_alloc ?_ _) | (with_reducible refine Kd.C_drewN ?_ _) | (with_reducible refine Kd.C_drew ?_))); (case side2 => exact (Kd.S_reads' HO292.out).2.1); rintro e w7 ⟨v295, rfl, ho0, hb⟩; refine ⟨_, rfl, ?_⟩; replace HO292 := aA_.mk (Kd.S_below (by (with_reducible repeat (first | apply Kd.S_alloc | apply Kd.S_drewN | apply Kd.S_drew)); exact HO292.out) hb); have HO296 := aA_.mk (Kd.S_lower ho0 (cA_ bE)); replace HB := sB hb; (try clear hb); (try clear ho0)))
 go_ret2
 exact ⟨_, by first | rfl | (simp [bL_, bK_] <;> rfl) | (simp [*, bL_, bK_] <;> rfl), by (with_reducible repeat (first | apply Kd.S_alloc | apply Kd.S_drewN | apply Kd.S_drew)); exact HO296.out, bE⟩
end Go.Proofs.YtkoogebfdinbnaaGreat.Q
namespace Go.Proofs.YtkoogebfdinbnaaGreat.Q
open Go.RowKit Go.Proofs.YtkoogebfdinbnaaGreatW.PrintWords Go.Proofs.YtkoogebfdinbnaaGreatW.PrintLast Go.Proofs.YtkoogebfdinbnaaGreatW.Own Go.Proofs.YtkoogebfdinbnaaGreatW.PrintMore
attribute [local go_sem] d6_ d8_ max_two min_two dS_ dR_ d4_ d9_   -- for this text's walks alone
set_option linter.unusedVariables false
set_option linter.unusedSimpArgs false
theorem eqA53 (d : Nat) (w : World) (x0 y0 : ByteArray) (x1 y1 : ByteArray) :
    (Op.equalIn (d + 2) 53 (.agg #[.string x0, .string x1]) (.agg #[.string y0, .string y1])).run Tryz.prog w = .ok (x0.toList == y0.toList && (x1.toList == y1.toList)) w := by
  refine eqA_of Tryz.underlying53 (by kernel_rfl) ?_
  refine eqf_cons (by rfl) (by go_simp; rfl) (by go_simp; rfl) (by go_simp) ?_
  exact eqf_last (by rfl) (by go_simp; rfl) (by go_simp; rfl) (by go_simp)
end Go.Proofs.YtkoogebfdinbnaaGreat.Q
namespace Go.Proofs.YtkoogebfdinbnaaGreat.Q
open Go.RowKit Go.Proofs.YtkoogebfdinbnaaGreatW.PrintWords Go.Proofs.YtkoogebfdinbnaaGreatW.PrintLast Go.Proofs.YtkoogebfdinbnaaGreatW.Own Go.Proofs.YtkoogebfdinbnaaGreatW.PrintMore
attribute [local go_sem] d6_ d8_ max_two min_two dS_ dR_ d4_ d9_   -- for this text's walks alone
set_option linter.unusedVariables false
set_option linter.unusedSimpArgs false
set_option maxHeartbeats 20000000
set_option maxRecDepth 100000
section
attribute [local go_sem high] eqA53
def api_Attr_1.f (a0_0 : ByteArray) (a0_1 : ByteArray) (a1_0 : ByteArray) (a1_1 : ByteArray) : Option (Bool) := some (a0_0.toList == a1_0.toList && (a0_1.toList == a1_1.toList))
theorem api_Attr_1.calls (a0_0 : ByteArray) (a0_1 : ByteArray) (a1_0 : ByteArray) (a1_1 : ByteArray) (r : Bool) (w : World) (hG : Glob w) (h : api_Attr_1.f a0_0 a0_1 a1_0 a1_1 = some r) :
 Calls Tryz.prog 37 #[.agg #[.string a0_0, .string a0_1], .agg #[.string a1_0, .string a1_1]] w fun e w' => e = .returned (.bool r) ∧ Below w.heap.size w w' := by
 have hu53 := Tryz.underlying53
 have HG := aA_.mk hG
 clear hG
 have HB := aA_.mk (Below.refl w.heap.size w)
 have H : (some (a0_0.toList == a1_0.toList && (a0_1.toList == a1_1.toList))) = some r := h
 clear h
 obtain rfl := Option.some.inj H
 go_enter Tryz.func37, Tryz.ntmps37
 go_wp2_with (first | (refine be 2 #[.string a0_0, .string a0_1] 53 ?_; intro gb297 hg w3 hbox hb; have BK297 := aA_.mk (hbox); have GW297 := gW hg; have GE297 := gW hg; replace HB := sB hb; clear hb hbox hg) | (refine be 3 #[.string a1_0, .string a1_1] 53 ?_; intro gb298 hg w4 hbox hb; have BK298 := aA_.mk (hbox); have GW298 := gW hg; have GE298 := gW hg; replace HB := sB hb; have NB297_298 := nL BK297 hg; have NB298_297 := nG BK297 hg; replace BK297 := kB BK297 hb; clear hb hbox hg; have hnb5 := NB297_298.out; have hnc5 := NB298_297.out; have hcz6_0 : w4.cell? ⟨gb297, 0, none⟩ = some (.string a0_0) := (aC_ BK297.out 0).trans rfl; have hcz6_1 : w4.cell? ⟨gb297, 1, none⟩ = some (.string a0_1) := (aC_ BK297.out 1).trans rfl; have hfz6_0 := aE_ BK297.out 0; have hfz6_1 := aE_ BK297.out 1; have hcz7_0 : w4.cell? ⟨gb298, 0, none⟩ = some (.string a1_0) := (aC_ BK298.out 0).trans rfl; have hcz7_1 : w4.cell? ⟨gb298, 1, none⟩ = some (.string a1_1) := (aC_ BK298.out 1).trans rfl; have hfz7_0 := aE_ BK298.out 0; have hfz7_1 := aE_ BK298.out 1))
 go_ret
 exact ⟨eA, bG⟩
end
def bP_.l0 : Nat → List (S53) → List (S53) → Int → Option (Bool)
 | 0, _, _, _ => none
 | k + 1, x0, x1, x7 => if x7 < (x0.length : Int) then (if 0 ≤ x7 then (if x7 < (x1.length : Int) then ((api_Attr_1.f ((cN_ x0 x7).f0) ((cN_ x0 x7).f1) ((cN_ x1 x7).f0) ((cN_ x1 x7).f1)).bind fun t301 => (if t301 = true then (bP_.l0 k x0 x1 (wrap64 (x7 + 1))) else (some false))) else (none)) else (none)) else (some true)
def bP_.f (k : Nat) (l0 : List (S53)) (l1 : List (S53))  : Option (Bool) := if (l0.length : Int) = (l1.length : Int) then (bP_.l0 k l0 l1 0) else (some false)
theorem bP_.mono_l : ∀ k, (∀ y0 y1 y2, LeO (bP_.l0 k y0 y1 y2) (bP_.l0 (k + 1) y0 y1 y2))
 | 0 => fun _ _ _ r h => by simp [bP_.l0] at h
 | k + 1 => by
  have ih0 := bP_.mono_l k
  ·intro y0 y1 y2
   unfold bP_.l0
   exact mo
theorem bP_.mono : ∀ a0 a1 k, LeO (bP_.f k a0 a1) (bP_.f (k + 1) a0 a1) := by
 intro a0 a1 k
 have ih0 := bP_.mono_l k
 unfold bP_.f
 exact mo
def bP_.T6 : Bool × List (List Nat × List Nat) := (true, [([], []), ([], []), ([], []), ([1, 2], [1, 2]), ([3], [3]), ([], []), ([], []), ([5, 6], [5, 6]), ([7], [7]), ([0, 4, 8], [0, 4, 8]), ([9], [9])])
def bP_.B6 : List Nat := [0, 0, 0, 6, 14, 0, 0, 96, 224, 511, 1023]
theorem bP_.tab6 : rtab .any (opsOf Tryz.f36 6) = bP_.T6 := by kernel_rfl
theorem bP_.bits6 : waitsOk bP_.T6.2 bP_.B6 = true := by kernel_rfl
theorem bP_.calls (k : Nat) (A0 : Option Addr) (c0 : Nat) (l0 : List (S53)) (A1 : Option Addr) (c1 : Nat) (l1 : List (S53))  (r : Bool) (w : World) (hr0 : Kd.C k53 w A0 l0.length l0) (hc0 : l0.length ≤ c0) (hr1 : Kd.C k53 w A1 l1.length l1) (hc1 : l1.length ≤ c1) (hG : Glob w) (h : bP_.f k l0 l1 = some r) :
 Calls Tryz.prog 36 #[.slice A0 l0.length c0, .slice A1 l1.length c1, .func (.func 37) #[] #[]] w fun e w' => e = .returned (.bool r) ∧ Below w.heap.size w w' := by
 have hu53 := Tryz.underlying53
 have HG := aA_.mk hG
 clear hG
 have HR0 := aA_.mk hr0
 have HC0 := aA_.mk hc0
 clear hr0 hc0
 have HR1 := aA_.mk hr1
 have HC1 := aA_.mk hc1
 clear hr1 hc1
 have HB := aA_.mk (Below.refl w.heap.size w)
 have H : (if (l0.length : Int) = (l1.length : Int) then (bP_.l0 k l0 l1 0) else (some false)) = some r := h
 clear h
 by_cases c4 : (l0.length : Int) = (l1.length : Int)
 rotate_left
 ·rw [if_neg c4] at H
  obtain ⟨c4b0, c4b1⟩ := eqF c4
  have c4b2 : (l0.length == l1.length) = false := by first | simpa using c4 | (simp at c4 ⊢; omega)
  obtain rfl := Option.some.inj H
  go_enter Tryz.func36, Tryz.ntmps36
  go_wp2
  go_ret
  exact ⟨eA, bE⟩
 rw [if_pos c4] at H
 obtain ⟨c4b0, c4b1⟩ := eqT c4
 have c4b2 : (l0.length == l1.length) = true := by first | simpa using c4 | (simp at c4 ⊢; omega)
 clear c4
 have H' := aA_.mk H
 clear H
 go_enter Tryz.func36, Tryz.ntmps36
 go_wp2
 go_loopg [7] k (fun kq v7 w' => ∃ (x7_1 : Int), v7 = .int .i64 x7_1 ∧ aA_ (bP_.l0 kq l0 l1 x7_1 = some r) ∧ aA_ (kq ≤ k) ∧ aA_ (Below w.heap.size w w'))
 case atStart => exact ⟨(0), cA, H', ⟨Nat.le_refl _⟩, ⟨bE⟩⟩
 clear H'
 try clear c1
 try clear p2
 try clear c3
 try clear c4
 try clear c4b0
 try clear c4b1
 try clear c4b2
 obtain ⟨x7_1, rfl, HA, HK1, HB⟩ := hrel
 cases gk with
 | zero => exact absurd HA.out (by simp [bP_.l0])
 | succ k1 =>
  have H := HA.out
  clear HA
  simp only [bP_.l0] at H
  by_cases c5 : x7_1 < (l0.length : Int)
  rotate_left
  ·rw [if_neg c5] at H
   have c5b0 := dF c5
   clear c5
   obtain rfl := Option.some.inj H
   go_wp2
   go_ret
   exact ⟨eA, bE⟩
  rw [if_pos c5] at H
  have c5b0 := dT c5
  clear c5
  obtain ⟨c6, H⟩ := gp H
  have c6b0 := dT c6
  clear c6
  obtain ⟨c7, H⟩ := gp H
  have c7b0 := dT c7
  clear c7
  replace H := bi H
  obtain ⟨t301, A80, H⟩ := H
  try dsimp only at H
  have A8 := aA_.mk A80
  clear A80
  by_cases c9 : t301 = true
  rotate_left
  ·replace c9 := Bool.eq_false_iff.mpr c9
   subst c9
   replace H : (some false) = some r := by rw [if_neg nF] at H; exact H
   obtain rfl := Option.some.inj H
   try go_wp2
   replace HB := aA_.mk (aI_ HB.out)
   have p299 : 0 ≤ (x7_1 : Int) := dA
   have q299 : x7_1 < (l0.length : Int) := dA
   obtain ⟨ad299, e299, hx299_0, hx299_1⟩ := at_T53 HR0.out x7_1 p299 q299
   have hw299_1 := hx299_1
   have hw299_0 := hx299_0
   cases e299
   replace hx299_0 := (HB.out.cell (World.block_lt_of_cell? w _ hx299_0)).trans hx299_0
   replace hx299_1 := (HB.out.cell (World.block_lt_of_cell? w _ hx299_1)).trans hx299_1
   replace p299 := eq_true p299
   replace q299 := eq_true q299
   have p300 : 0 ≤ (x7_1 : Int) := dA
   have q300 : x7_1 < (l1.length : Int) := dA
   obtain ⟨ad300, e300, hx300_0, hx300_1⟩ := at_T53 HR1.out x7_1 p300 q300
   have hw300_1 := hx300_1
   have hw300_0 := hx300_0
   cases e300
   replace hx300_0 := (HB.out.cell (World.block_lt_of_cell? w _ hx300_0)).trans hx300_0
   replace hx300_1 := (HB.out.cell (World.block_lt_of_cell? w _ hx300_1)).trans hx300_1
   replace p300 := eq_true p300
   replace q300 := eq_true q300
   refine start_ (n := 11) (S := fun w' => w'.cell? (ad299.add ((x7_1).toNat * 2)) = some (.string ((cN_ l0 x7_1).f0)) ∧ w'.cell? ⟨(ad299.add ((x7_1).toNat * 2)).block, (ad299.add ((x7_1).toNat * 2)).off + 1, none⟩ = some (.string ((cN_ l0 x7_1).f1)) ∧ w'.cell? (ad300.add ((x7_1).toNat * 2)) = some (.string ((cN_ l1 x7_1).f0)) ∧ w'.cell? ⟨(ad300.add ((x7_1).toNat * 2)).block, (ad300.add ((x7_1).toNat * 2)).off + 1, none⟩ = some (.string ((cN_ l1 x7_1).f1))) (ds := []) #[false, false, false, false, false, false, false, false, false, false, false] (by kernel_rfl) rfl rfl ⟨((HB.out.cell (World.block_lt_of_cell? w _ hw299_0)).trans hw299_0), ((HB.out.cell (World.block_lt_of_cell? w _ hw299_1)).trans hw299_1), ((HB.out.cell (World.block_lt_of_cell? w _ hw300_0)).trans hw300_0), ((HB.out.cell (World.block_lt_of_cell? w _ hw300_1)).trans hw300_1)⟩ (fun hHeld => ?_); refine cZ_ bP_.tab6 bP_.bits6 (fun HT_ HW_ => ?_)
   generalize wr.drew = w12 at HB hx299_0 hx299_1 hx300_0 hx300_1 hHeld ⊢
   refine pz 0 (some 19) HT_ ?_
   refine pz 1 (some 20) HT_ ?_
   refine pz 2 (some 21) HT_ ?_
   refine pz 3 (some 22) HT_ ?_
   refine pz 5 (some 24) HT_ ?_
   refine pz 6 (some 25) HT_ ?_
   refine pz 7 (some 26) HT_ ?_
   refine tm 4 (some 23) HT_ HW_ hHeld ?_
   refine tm 8 (some 27) HT_ HW_ hHeld ?_
   refine on 9 (some 28) HT_ (fun K hK => ?_)
   first | (refine goes_ Tryz.func37 (by kernel_rfl) rfl #[.agg #[.string ((cN_ l0 x7_1).f0), .string ((cN_ l0 x7_1).f1)], .agg #[.string ((cN_ l1 x7_1).f0), .string ((cN_ l1 x7_1).f1)]] (by rfl) rfl rfl mA ?_) | (refine goesV_ Tryz.func37 (by kernel_rfl) rfl #[.agg #[.string ((cN_ l0 x7_1).f0), .string ((cN_ l0 x7_1).f1)], .agg #[.string ((cN_ l1 x7_1).f0), .string ((cN_ l1 x7_1).f1)]] (by rfl) rfl rfl rfl mA ?_)
   with_reducible refine (api_Attr_1.calls ((cN_ l0 x7_1).f0) ((cN_ l0 x7_1).f1) ((cN_ l1 x7_1).f0) ((cN_ l1 x7_1).f1) false _ (gS HG) A8.out).mono ?_
   rintro e w13 ⟨rfl, hb⟩
   refine ⟨_, rfl, ?_⟩
   replace HB := sB hb
   (try clear hb)
   refine hK.out _ _ ⟨((HB.out.cell (World.block_lt_of_cell? w _ hw299_0)).trans hw299_0), ((HB.out.cell (World.block_lt_of_cell? w _ hw299_1)).trans hw299_1), ((HB.out.cell (World.block_lt_of_cell? w _ hw300_0)).trans hw300_0), ((HB.out.cell (World.block_lt_of_cell? w _ hw300_1)).trans hw300_1)⟩ (fun hHeld => ?_)
   clear hK K
   refine nz (some 28) ?_
   refine pz 10 (some 29) HT_ ?_
   refine done_ (dO_ HT_.out (by kernel_rfl)) ?_
   try go_wp2
   go_ret
   exact ⟨eA, bE⟩
  subst c9
  replace H : (bP_.l0 k1 l0 l1 (wrap64 (x7_1 + 1))) = some r := by rw [if_pos rfl] at H; exact H
  have H' := aA_.mk H
  clear H
  try go_wp2
  replace HB := aA_.mk (aI_ HB.out)
  have p299 : 0 ≤ (x7_1 : Int) := dA
  have q299 : x7_1 < (l0.length : Int) := dA
  obtain ⟨ad299, e299, hx299_0, hx299_1⟩ := at_T53 HR0.out x7_1 p299 q299
  have hw299_1 := hx299_1
  have hw299_0 := hx299_0
  cases e299
  replace hx299_0 := (HB.out.cell (World.block_lt_of_cell? w _ hx299_0)).trans hx299_0
  replace hx299_1 := (HB.out.cell (World.block_lt_of_cell? w _ hx299_1)).trans hx299_1
  replace p299 := eq_true p299
  replace q299 := eq_true q299
  have p300 : 0 ≤ (x7_1 : Int) := dA
  have q300 : x7_1 < (l1.length : Int) := dA
  obtain ⟨ad300, e300, hx300_0, hx300_1⟩ := at_T53 HR1.out x7_1 p300 q300
  have hw300_1 := hx300_1
  have hw300_0 := hx300_0
  cases e300
  replace hx300_0 := (HB.out.cell (World.block_lt_of_cell? w _ hx300_0)).trans hx300_0
  replace hx300_1 := (HB.out.cell (World.block_lt_of_cell? w _ hx300_1)).trans hx300_1
  replace p300 := eq_true p300
  replace q300 := eq_true q300
  refine start_ (n := 11) (S := fun w' => w'.cell? (ad299.add ((x7_1).toNat * 2)) = some (.string ((cN_ l0 x7_1).f0)) ∧ w'.cell? ⟨(ad299.add ((x7_1).toNat * 2)).block, (ad299.add ((x7_1).toNat * 2)).off + 1, none⟩ = some (.string ((cN_ l0 x7_1).f1)) ∧ w'.cell? (ad300.add ((x7_1).toNat * 2)) = some (.string ((cN_ l1 x7_1).f0)) ∧ w'.cell? ⟨(ad300.add ((x7_1).toNat * 2)).block, (ad300.add ((x7_1).toNat * 2)).off + 1, none⟩ = some (.string ((cN_ l1 x7_1).f1))) (ds := []) #[false, false, false, false, false, false, false, false, false, false, false] (by kernel_rfl) rfl rfl ⟨((HB.out.cell (World.block_lt_of_cell? w _ hw299_0)).trans hw299_0), ((HB.out.cell (World.block_lt_of_cell? w _ hw299_1)).trans hw299_1), ((HB.out.cell (World.block_lt_of_cell? w _ hw300_0)).trans hw300_0), ((HB.out.cell (World.block_lt_of_cell? w _ hw300_1)).trans hw300_1)⟩ (fun hHeld => ?_); refine cZ_ bP_.tab6 bP_.bits6 (fun HT_ HW_ => ?_)
  generalize wr.drew = w10 at HB hx299_0 hx299_1 hx300_0 hx300_1 hHeld ⊢
  refine pz 0 (some 19) HT_ ?_
  refine pz 1 (some 20) HT_ ?_
  refine pz 2 (some 21) HT_ ?_
  refine pz 3 (some 22) HT_ ?_
  refine pz 5 (some 24) HT_ ?_
  refine pz 6 (some 25) HT_ ?_
  refine pz 7 (some 26) HT_ ?_
  refine tm 4 (some 23) HT_ HW_ hHeld ?_
  refine tm 8 (some 27) HT_ HW_ hHeld ?_
  refine on 9 (some 28) HT_ (fun K hK => ?_)
  first | (refine goes_ Tryz.func37 (by kernel_rfl) rfl #[.agg #[.string ((cN_ l0 x7_1).f0), .string ((cN_ l0 x7_1).f1)], .agg #[.string ((cN_ l1 x7_1).f0), .string ((cN_ l1 x7_1).f1)]] (by rfl) rfl rfl mA ?_) | (refine goesV_ Tryz.func37 (by kernel_rfl) rfl #[.agg #[.string ((cN_ l0 x7_1).f0), .string ((cN_ l0 x7_1).f1)], .agg #[.string ((cN_ l1 x7_1).f0), .string ((cN_ l1 x7_1).f1)]] (by rfl) rfl rfl rfl mA ?_)
  with_reducible refine (api_Attr_1.calls ((cN_ l0 x7_1).f0) ((cN_ l0 x7_1).f1) ((cN_ l1 x7_1).f0) ((cN_ l1 x7_1).f1) true _ (gS HG) A8.out).mono ?_
  rintro e w11 ⟨rfl, hb⟩
  refine ⟨_, rfl, ?_⟩
  replace HB := sB hb
  (try clear hb)
  refine hK.out _ _ ⟨((HB.out.cell (World.block_lt_of_cell? w _ hw299_0)).trans hw299_0), ((HB.out.cell (World.block_lt_of_cell? w _ hw299_1)).trans hw299_1), ((HB.out.cell (World.block_lt_of_cell? w _ hw300_0)).trans hw300_0), ((HB.out.cell (World.block_lt_of_cell? w _ hw300_1)).trans hw300_1)⟩ (fun hHeld => ?_)
  clear hK K
  refine nz (some 28) ?_
  refine pz 10 (some 29) HT_ ?_
  refine done_ (dO_ HT_.out (by kernel_rfl)) ?_
  try go_wp2
  go_roundg k1
  case measure => have := HK1.out; omega
  case rel => exact ⟨(wrap64 (x7_1 + 1)), cA, H', ⟨by have := HK1.out; omega⟩, ⟨bE⟩⟩
def c9_.f (k : Nat) (l0 : List (S53)) (l1 : List (S53)) : Option (Bool) := (bP_.f k l0 l1).bind fun t302 => (some t302)
theorem c9_.mono : ∀ a0 a1 k, LeO (c9_.f k a0 a1) (c9_.f (k + 1) a0 a1) := by
 intro a0 a1 k
 unfold c9_.f
 have m0 := @bP_.mono
 exact mo
theorem c9_.calls (k : Nat) (A0 : Option Addr) (c0 : Nat) (l0 : List (S53)) (A1 : Option Addr) (c1 : Nat) (l1 : List (S53)) (r : Bool) (w : World) (hr0 : Kd.C k53 w A0 l0.length l0) (hc0 : l0.length ≤ c0) (hr1 : Kd.C k53 w A1 l1.length l1) (hc1 : l1.length ≤ c1) (hG : Glob w) (h : c9_.f k l0 l1 = some r) :
 Calls Tryz.prog 20 #[.slice A0 l0.length c0, .slice A1 l1.length c1] w fun e w' => e = .returned (.bool r) ∧ Below w.heap.size w w' := by
 have HG := aA_.mk hG
 clear hG
 have HR0 := aA_.mk hr0
 have HC0 := aA_.mk hc0
 clear hr0 hc0
 have HR1 := aA_.mk hr1
 have HC1 := aA_.mk hc1
 clear hr1 hc1
 have HB := aA_.mk (Below.refl w.heap.size w)
 have H : ((bP_.f k l0 l1).bind fun t302 => (some t302)) = some r := h
 clear h
 replace H := bi H
 obtain ⟨t302, A30, H⟩ := H
 try dsimp only at H
 have A3 := aA_.mk A30
 clear A30
 obtain rfl := Option.some.inj H
 go_enter Tryz.func20, Tryz.ntmps20
 go_wp2_with (first | (refine gl (some 7) Tryz.func36 #[.slice A0 l0.length c0, .slice A1 l1.length c1, .func (.func 37) #[] #[]] ?_; (with_reducible refine (bP_.calls k _ _ l0 _ _ l1  t302 _ ?side1 ?side2 ?side3 ?side4 (gS HG) A3.out).mono ?_); (case side1 => repeat (first | exact HR0.out | (with_reducible refine Kd.C_alloc ?_ _) | (with_reducible refine Kd.C_drewN ?_ _) | (with_reducible refine Kd.C_drew ?_))); (case side2 => exact HC0.out); (case side3 => repeat (first | exact HR1.out | (with_reducible refine Kd.C_alloc ?_ _) | (with_reducible refine Kd.C_drewN ?_ _) | (with_reducible refine Kd.C_drew ?_))); (case side4 => exact HC1.out); rintro e w4 ⟨rfl, hb⟩; refine ⟨_, rfl, ?_⟩; replace HB := sB hb; (try clear hb)))
 go_ret
 exact ⟨eA, bE⟩
def cI_.f (k : Nat) (a0_0 : Int) (a0_1 : ByteArray) (a0_2 : ByteArray) (l0_3 : List (S53)) (a1_0 : Int) (a1_1 : ByteArray) (a1_2 : ByteArray) (l1_3 : List (S53)) : Option (Bool) := if a0_0 = a1_0 then (if a0_1.toList = a1_1.toList then (if a0_2.toList = a1_2.toList then ((c9_.f k l0_3 l1_3).bind fun t305 => (some t305)) else (some false)) else (some false)) else (some false)
theorem cI_.mono : ∀ a0 a1 a2 a3 a4 a5 a6 a7 k, LeO (cI_.f k a0 a1 a2 a3 a4 a5 a6 a7) (cI_.f (k + 1) a0 a1 a2 a3 a4 a5 a6 a7) := by
 intro a0 a1 a2 a3 a4 a5 a6 a7 k
 unfold cI_.f
 have m0 := @c9_.mono
 exact mo
theorem cI_.calls (k : Nat) (a0_0 : Int) (a0_1 : ByteArray) (a0_2 : ByteArray) (A0_3 : Option Addr) (c0_3 : Nat) (l0_3 : List (S53)) (a1_0 : Int) (a1_1 : ByteArray) (a1_2 : ByteArray) (A1_3 : Option Addr) (c1_3 : Nat) (l1_3 : List (S53)) (r : Bool) (w : World) (hr0_3 : Kd.C k53 w A0_3 l0_3.length l0_3) (hc0_3 : l0_3.length ≤ c0_3) (hr1_3 : Kd.C k53 w A1_3 l1_3.length l1_3) (hc1_3 : l1_3.length ≤ c1_3) (hG : Glob w) (h : cI_.f k a0_0 a0_1 a0_2 l0_3 a1_0 a1_1 a1_2 l1_3 = some r) :
 Calls Tryz.prog 10 #[.agg #[.int .i64 a0_0, .string a0_1, .string a0_2, .slice A0_3 l0_3.length c0_3], .agg #[.int .i64 a1_0, .string a1_1, .string a1_2, .slice A1_3 l1_3.length c1_3]] w fun e w' => e = .returned (.bool r) ∧ Below w.heap.size w w' := by
 have hu32 := Tryz.underlying32
 have HG := aA_.mk hG
 clear hG
 have HR0_3 := aA_.mk hr0_3
 have HC0_3 := aA_.mk hc0_3
 clear hr0_3 hc0_3
 have HR1_3 := aA_.mk hr1_3
 have HC1_3 := aA_.mk hc1_3
 clear hr1_3 hc1_3
 have HB := aA_.mk (Below.refl w.heap.size w)
 have H : (if a0_0 = a1_0 then (if a0_1.toList = a1_1.toList then (if a0_2.toList = a1_2.toList then ((c9_.f k l0_3 l1_3).bind fun t305 => (some t305)) else (some false)) else (some false)) else (some false)) = some r := h
 clear h
 by_cases c3 : a0_0 = a1_0
 rotate_left
 ·rw [if_neg c3] at H
  obtain ⟨c3b0, c3b1⟩ := eqF c3
  obtain rfl := Option.some.inj H
  go_enter Tryz.func10, Tryz.ntmps10
  go_wp2_with (first | (refine be 2 #[.int .i64 a0_0, .string a0_1, .string a0_2, .slice A0_3 l0_3.length c0_3] 32 ?_; intro gb303 hg w23 hbox hb; have BK303 := aA_.mk (hbox); have GW303 := gW hg; have GE303 := gW hg; replace HB := sB hb; clear hb hbox hg) | (refine be 3 #[.int .i64 a1_0, .string a1_1, .string a1_2, .slice A1_3 l1_3.length c1_3] 32 ?_; intro gb304 hg w24 hbox hb; have BK304 := aA_.mk (hbox); have GW304 := gW hg; have GE304 := gW hg; replace HB := sB hb; have NB303_304 := nL BK303 hg; have NB304_303 := nG BK303 hg; replace BK303 := kB BK303 hb; clear hb hbox hg; have hnb25 := NB303_304.out; have hnc25 := NB304_303.out; have hcz26_0 : w24.cell? ⟨gb303, 0, none⟩ = some (.int .i64 a0_0) := (aC_ BK303.out 0).trans rfl; have hcz26_1 : w24.cell? ⟨gb303, 1, none⟩ = some (.string a0_1) := (aC_ BK303.out 1).trans rfl; have hcz26_2 : w24.cell? ⟨gb303, 2, none⟩ = some (.string a0_2) := (aC_ BK303.out 2).trans rfl; have hcz26_3 : w24.cell? ⟨gb303, 3, none⟩ = some (.slice A0_3 l0_3.length c0_3) := (aC_ BK303.out 3).trans rfl; have hfz26_0 := aE_ BK303.out 0; have hfz26_1 := aE_ BK303.out 1; have hfz26_2 := aE_ BK303.out 2; have hfz26_3 := aE_ BK303.out 3; have hcz27_0 : w24.cell? ⟨gb304, 0, none⟩ = some (.int .i64 a1_0) := (aC_ BK304.out 0).trans rfl; have hcz27_1 : w24.cell? ⟨gb304, 1, none⟩ = some (.string a1_1) := (aC_ BK304.out 1).trans rfl; have hcz27_2 : w24.cell? ⟨gb304, 2, none⟩ = some (.string a1_2) := (aC_ BK304.out 2).trans rfl; have hcz27_3 : w24.cell? ⟨gb304, 3, none⟩ = some (.slice A1_3 l1_3.length c1_3) := (aC_ BK304.out 3).trans rfl; have hfz27_0 := aE_ BK304.out 0; have hfz27_1 := aE_ BK304.out 1; have hfz27_2 := aE_ BK304.out 2; have hfz27_3 := aE_ BK304.out 3))
  go_ret
  exact ⟨eA, bG⟩
 rw [if_pos c3] at H
 obtain ⟨c3b0, c3b1⟩ := eqT c3
 clear c3
 by_cases c4 : a0_1.toList = a1_1.toList
 rotate_left
 ·rw [if_neg c4] at H
  obtain ⟨c4b0, c4b1⟩ := eqF c4
  obtain rfl := Option.some.inj H
  go_enter Tryz.func10, Tryz.ntmps10
  go_wp2_with (first | (refine be 2 #[.int .i64 a0_0, .string a0_1, .string a0_2, .slice A0_3 l0_3.length c0_3] 32 ?_; intro gb303 hg w18 hbox hb; have BK303 := aA_.mk (hbox); have GW303 := gW hg; have GE303 := gW hg; replace HB := sB hb; clear hb hbox hg) | (refine be 3 #[.int .i64 a1_0, .string a1_1, .string a1_2, .slice A1_3 l1_3.length c1_3] 32 ?_; intro gb304 hg w19 hbox hb; have BK304 := aA_.mk (hbox); have GW304 := gW hg; have GE304 := gW hg; replace HB := sB hb; have NB303_304 := nL BK303 hg; have NB304_303 := nG BK303 hg; replace BK303 := kB BK303 hb; clear hb hbox hg; have hnb20 := NB303_304.out; have hnc20 := NB304_303.out; have hcz21_0 : w19.cell? ⟨gb303, 0, none⟩ = some (.int .i64 a0_0) := (aC_ BK303.out 0).trans rfl; have hcz21_1 : w19.cell? ⟨gb303, 1, none⟩ = some (.string a0_1) := (aC_ BK303.out 1).trans rfl; have hcz21_2 : w19.cell? ⟨gb303, 2, none⟩ = some (.string a0_2) := (aC_ BK303.out 2).trans rfl; have hcz21_3 : w19.cell? ⟨gb303, 3, none⟩ = some (.slice A0_3 l0_3.length c0_3) := (aC_ BK303.out 3).trans rfl; have hfz21_0 := aE_ BK303.out 0; have hfz21_1 := aE_ BK303.out 1; have hfz21_2 := aE_ BK303.out 2; have hfz21_3 := aE_ BK303.out 3; have hcz22_0 : w19.cell? ⟨gb304, 0, none⟩ = some (.int .i64 a1_0) := (aC_ BK304.out 0).trans rfl; have hcz22_1 : w19.cell? ⟨gb304, 1, none⟩ = some (.string a1_1) := (aC_ BK304.out 1).trans rfl; have hcz22_2 : w19.cell? ⟨gb304, 2, none⟩ = some (.string a1_2) := (aC_ BK304.out 2).trans rfl; have hcz22_3 : w19.cell? ⟨gb304, 3, none⟩ = some (.slice A1_3 l1_3.length c1_3) := (aC_ BK304.out 3).trans rfl; have hfz22_0 := aE_ BK304.out 0; have hfz22_1 := aE_ BK304.out 1; have hfz22_2 := aE_ BK304.out 2; have hfz22_3 := aE_ BK304.out 3))
  go_ret
  exact ⟨eA, bG⟩
 rw [if_pos c4] at H
 obtain ⟨c4b0, c4b1⟩ := eqT c4
 clear c4
 by_cases c5 : a0_2.toList = a1_2.toList
 rotate_left
 ·rw [if_neg c5] at H
  obtain ⟨c5b0, c5b1⟩ := eqF c5
  obtain rfl := Option.some.inj H
  go_enter Tryz.func10, Tryz.ntmps10
  go_wp2_with (first | (refine be 2 #[.int .i64 a0_0, .string a0_1, .string a0_2, .slice A0_3 l0_3.length c0_3] 32 ?_; intro gb303 hg w13 hbox hb; have BK303 := aA_.mk (hbox); have GW303 := gW hg; have GE303 := gW hg; replace HB := sB hb; clear hb hbox hg) | (refine be 3 #[.int .i64 a1_0, .string a1_1, .string a1_2, .slice A1_3 l1_3.length c1_3] 32 ?_; intro gb304 hg w14 hbox hb; have BK304 := aA_.mk (hbox); have GW304 := gW hg; have GE304 := gW hg; replace HB := sB hb; have NB303_304 := nL BK303 hg; have NB304_303 := nG BK303 hg; replace BK303 := kB BK303 hb; clear hb hbox hg; have hnb15 := NB303_304.out; have hnc15 := NB304_303.out; have hcz16_0 : w14.cell? ⟨gb303, 0, none⟩ = some (.int .i64 a0_0) := (aC_ BK303.out 0).trans rfl; have hcz16_1 : w14.cell? ⟨gb303, 1, none⟩ = some (.string a0_1) := (aC_ BK303.out 1).trans rfl; have hcz16_2 : w14.cell? ⟨gb303, 2, none⟩ = some (.string a0_2) := (aC_ BK303.out 2).trans rfl; have hcz16_3 : w14.cell? ⟨gb303, 3, none⟩ = some (.slice A0_3 l0_3.length c0_3) := (aC_ BK303.out 3).trans rfl; have hfz16_0 := aE_ BK303.out 0; have hfz16_1 := aE_ BK303.out 1; have hfz16_2 := aE_ BK303.out 2; have hfz16_3 := aE_ BK303.out 3; have hcz17_0 : w14.cell? ⟨gb304, 0, none⟩ = some (.int .i64 a1_0) := (aC_ BK304.out 0).trans rfl; have hcz17_1 : w14.cell? ⟨gb304, 1, none⟩ = some (.string a1_1) := (aC_ BK304.out 1).trans rfl; have hcz17_2 : w14.cell? ⟨gb304, 2, none⟩ = some (.string a1_2) := (aC_ BK304.out 2).trans rfl; have hcz17_3 : w14.cell? ⟨gb304, 3, none⟩ = some (.slice A1_3 l1_3.length c1_3) := (aC_ BK304.out 3).trans rfl; have hfz17_0 := aE_ BK304.out 0; have hfz17_1 := aE_ BK304.out 1; have hfz17_2 := aE_ BK304.out 2; have hfz17_3 := aE_ BK304.out 3))
  go_ret
  exact ⟨eA, bG⟩
 rw [if_pos c5] at H
 obtain ⟨c5b0, c5b1⟩ := eqT c5
 clear c5
 replace H := bi H
 obtain ⟨t305, A60, H⟩ := H
 try dsimp only at H
 have A6 := aA_.mk A60
 clear A60
 obtain rfl := Option.some.inj H
 go_enter Tryz.func10, Tryz.ntmps10
 go_wp2_with (first | (refine be 2 #[.int .i64 a0_0, .string a0_1, .string a0_2, .slice A0_3 l0_3.length c0_3] 32 ?_; intro gb303 hg w7 hbox hb; have BK303 := aA_.mk (hbox); have GW303 := gW hg; have GE303 := gW hg; replace HB := sB hb; clear hb hbox hg) | (refine be 3 #[.int .i64 a1_0, .string a1_1, .string a1_2, .slice A1_3 l1_3.length c1_3] 32 ?_; intro gb304 hg w8 hbox hb; have BK304 := aA_.mk (hbox); have GW304 := gW hg; have GE304 := gW hg; replace HB := sB hb; have NB303_304 := nL BK303 hg; have NB304_303 := nG BK303 hg; replace BK303 := kB BK303 hb; clear hb hbox hg; have hnb9 := NB303_304.out; have hnc9 := NB304_303.out; have hcz10_0 : w8.cell? ⟨gb303, 0, none⟩ = some (.int .i64 a0_0) := (aC_ BK303.out 0).trans rfl; have hcz10_1 : w8.cell? ⟨gb303, 1, none⟩ = some (.string a0_1) := (aC_ BK303.out 1).trans rfl; have hcz10_2 : w8.cell? ⟨gb303, 2, none⟩ = some (.string a0_2) := (aC_ BK303.out 2).trans rfl; have hcz10_3 : w8.cell? ⟨gb303, 3, none⟩ = some (.slice A0_3 l0_3.length c0_3) := (aC_ BK303.out 3).trans rfl; have hfz10_0 := aE_ BK303.out 0; have hfz10_1 := aE_ BK303.out 1; have hfz10_2 := aE_ BK303.out 2; have hfz10_3 := aE_ BK303.out 3; have hcz11_0 : w8.cell? ⟨gb304, 0, none⟩ = some (.int .i64 a1_0) := (aC_ BK304.out 0).trans rfl; have hcz11_1 : w8.cell? ⟨gb304, 1, none⟩ = some (.string a1_1) := (aC_ BK304.out 1).trans rfl; have hcz11_2 : w8.cell? ⟨gb304, 2, none⟩ = some (.string a1_2) := (aC_ BK304.out 2).trans rfl; have hcz11_3 : w8.cell? ⟨gb304, 3, none⟩ = some (.slice A1_3 l1_3.length c1_3) := (aC_ BK304.out 3).trans rfl; have hfz11_0 := aE_ BK304.out 0; have hfz11_1 := aE_ BK304.out 1; have hfz11_2 := aE_ BK304.out 2; have hfz11_3 := aE_ BK304.out 3) | (go_at_call 20; (with_reducible refine (c9_.calls k _ _ l0_3 _ _ l1_3 t305 _ ?side1 ?side2 ?side3 ?side4 (gS HG) A6.out).mono ?_); (case side1 => repeat (first | exact (Kd.C_below HR0_3.out HB.out) | (with_reducible refine Kd.C_alloc ?_ _) | (with_reducible refine Kd.C_drewN ?_ _) | (with_reducible refine Kd.C_drew ?_))); (case side2 => exact HC0_3.out); (case side3 => repeat (first | exact (Kd.C_below HR1_3.out HB.out) | (with_reducible refine Kd.C_alloc ?_ _) | (with_reducible refine Kd.C_drewN ?_ _) | (with_reducible refine Kd.C_drew ?_))); (case side4 => exact HC1_3.out); rintro e w12 ⟨rfl, hb⟩; replace BK303 := kB BK303 hb; replace BK304 := kB BK304 hb; replace HB := sB hb; (try clear hb)))
 go_ret
 exact ⟨eA, bG⟩
def bX_.l0 : Nat → List (S32) → List (S32) → Int → Option (Bool)
 | 0, _, _, _ => none
 | k + 1, x0, x1, x7 => if x7 < (x0.length : Int) then (if 0 ≤ x7 then (if x7 < (x1.length : Int) then ((cI_.f k ((bD_ x0 x7).f0) ((bD_ x0 x7).f1) ((bD_ x0 x7).f2) ((bD_ x0 x7).f3) ((bD_ x1 x7).f0) ((bD_ x1 x7).f1) ((bD_ x1 x7).f2) ((bD_ x1 x7).f3)).bind fun t308 => (if t308 = true then (bX_.l0 k x0 x1 (wrap64 (x7 + 1))) else (some false))) else (none)) else (none)) else (some true)
def bX_.f (k : Nat) (l0 : List (S32)) (l1 : List (S32))  : Option (Bool) := if (l0.length : Int) = (l1.length : Int) then (bX_.l0 k l0 l1 0) else (some false)
theorem bX_.mono_l : ∀ k, (∀ y0 y1 y2, LeO (bX_.l0 k y0 y1 y2) (bX_.l0 (k + 1) y0 y1 y2))
 | 0 => fun _ _ _ r h => by simp [bX_.l0] at h
 | k + 1 => by
  have ih0 := bX_.mono_l k
  ·intro y0 y1 y2
   unfold bX_.l0
   have m0 := @cI_.mono
   exact mo
theorem bX_.mono : ∀ a0 a1 k, LeO (bX_.f k a0 a1) (bX_.f (k + 1) a0 a1) := by
 intro a0 a1 k
 have ih0 := bX_.mono_l k
 unfold bX_.f
 have m0 := @cI_.mono
 exact mo
def bX_.T6 : Bool × List (List Nat × List Nat) := (true, [([], []), ([], []), ([], []), ([1, 2], [1, 2]), ([3], [3]), ([], []), ([], []), ([5, 6], [5, 6]), ([7], [7]), ([0, 4, 8], [0, 4, 8]), ([9], [9])])
def bX_.B6 : List Nat := [0, 0, 0, 6, 14, 0, 0, 96, 224, 511, 1023]
theorem bX_.tab6 : rtab .any (opsOf Tryz.f9 6) = bX_.T6 := by kernel_rfl
theorem bX_.bits6 : waitsOk bX_.T6.2 bX_.B6 = true := by kernel_rfl
theorem bX_.calls (k : Nat) (A0 : Option Addr) (c0 : Nat) (l0 : List (S32)) (A1 : Option Addr) (c1 : Nat) (l1 : List (S32))  (r : Bool) (w : World) (hr0 : Kd.C k32 w A0 l0.length l0) (hc0 : l0.length ≤ c0) (hr1 : Kd.C k32 w A1 l1.length l1) (hc1 : l1.length ≤ c1) (hG : Glob w) (h : bX_.f k l0 l1 = some r) :
 Calls Tryz.prog 9 #[.slice A0 l0.length c0, .slice A1 l1.length c1, .func (.func 10) #[] #[]] w fun e w' => e = .returned (.bool r) ∧ Below w.heap.size w w' := by
 have hu32 := Tryz.underlying32
 have HG := aA_.mk hG
 clear hG
 have HR0 := aA_.mk hr0
 have HC0 := aA_.mk hc0
 clear hr0 hc0
 have HR1 := aA_.mk hr1
 have HC1 := aA_.mk hc1
 clear hr1 hc1
 have HB := aA_.mk (Below.refl w.heap.size w)
 have H : (if (l0.length : Int) = (l1.length : Int) then (bX_.l0 k l0 l1 0) else (some false)) = some r := h
 clear h
 by_cases c4 : (l0.length : Int) = (l1.length : Int)
 rotate_left
 ·rw [if_neg c4] at H
  obtain ⟨c4b0, c4b1⟩ := eqF c4
  have c4b2 : (l0.length == l1.length) = false := by first | simpa using c4 | (simp at c4 ⊢; omega)
  obtain rfl := Option.some.inj H
  go_enter Tryz.func9, Tryz.ntmps9
  go_wp2
  go_ret
  exact ⟨eA, bE⟩
 rw [if_pos c4] at H
 obtain ⟨c4b0, c4b1⟩ := eqT c4
 have c4b2 : (l0.length == l1.length) = true := by first | simpa using c4 | (simp at c4 ⊢; omega)
 clear c4
 have H' := aA_.mk H
 clear H
 go_enter Tryz.func9, Tryz.ntmps9
 go_wp2
 go_loopg [7] k (fun kq v7 w' => ∃ (x7_1 : Int), v7 = .int .i64 x7_1 ∧ aA_ (bX_.l0 kq l0 l1 x7_1 = some r) ∧ aA_ (kq ≤ k) ∧ aA_ (Below w.heap.size w w'))
 case atStart => exact ⟨(0), cA, H', ⟨Nat.le_refl _⟩, ⟨bE⟩⟩
 clear H'
 try clear c1
 try clear p2
 try clear c4
 try clear c4b0
 try clear c4b1
 try clear c4b2
 obtain ⟨x7_1, rfl, HA, HK1, HB⟩ := hrel
 cases gk with
 | zero => exact absurd HA.out (by simp [bX_.l0])
 | succ k1 =>
  have H := HA.out
  clear HA
  simp only [bX_.l0] at H
  by_cases c5 : x7_1 < (l0.length : Int)
  rotate_left
  ·rw [if_neg c5] at H
   have c5b0 := dF c5
   clear c5
   obtain rfl := Option.some.inj H
   go_wp2
   go_ret
   exact ⟨eA, bE⟩
  rw [if_pos c5] at H
  have c5b0 := dT c5
  clear c5
  obtain ⟨c6, H⟩ := gp H
  have c6b0 := dT c6
  clear c6
  obtain ⟨c7, H⟩ := gp H
  have c7b0 := dT c7
  clear c7
  replace H := bi H
  obtain ⟨t308, A80, H⟩ := H
  try dsimp only at H
  have A8 := aA_.mk A80
  clear A80
  by_cases c9 : t308 = true
  rotate_left
  ·replace c9 := Bool.eq_false_iff.mpr c9
   subst c9
   replace H : (some false) = some r := by rw [if_neg nF] at H; exact H
   obtain rfl := Option.some.inj H
   try go_wp2
   replace HB := aA_.mk (aI_ HB.out)
   have p306 : 0 ≤ (x7_1 : Int) := dA
   have q306 : x7_1 < (l0.length : Int) := dA
   obtain ⟨ad306, A306_3, c306_3, e306, hx306_0, hx306_1, hx306_2, hx306_3, hl306_3, hi306_3⟩ := dM_ HR0.out x7_1 p306 q306
   have hw306_3 := hx306_3
   have hw306_2 := hx306_2
   have hw306_1 := hx306_1
   have hw306_0 := hx306_0
   cases e306
   replace hx306_0 := (HB.out.cell (World.block_lt_of_cell? w _ hx306_0)).trans hx306_0
   replace hx306_1 := (HB.out.cell (World.block_lt_of_cell? w _ hx306_1)).trans hx306_1
   replace hx306_2 := (HB.out.cell (World.block_lt_of_cell? w _ hx306_2)).trans hx306_2
   replace hx306_3 := (HB.out.cell (World.block_lt_of_cell? w _ hx306_3)).trans hx306_3
   have HR306_3 := aA_.mk hi306_3
   have HC306_3 := aA_.mk hl306_3
   clear hi306_3 hl306_3
   replace p306 := eq_true p306
   replace q306 := eq_true q306
   have p307 : 0 ≤ (x7_1 : Int) := dA
   have q307 : x7_1 < (l1.length : Int) := dA
   obtain ⟨ad307, A307_3, c307_3, e307, hx307_0, hx307_1, hx307_2, hx307_3, hl307_3, hi307_3⟩ := dM_ HR1.out x7_1 p307 q307
   have hw307_3 := hx307_3
   have hw307_2 := hx307_2
   have hw307_1 := hx307_1
   have hw307_0 := hx307_0
   cases e307
   replace hx307_0 := (HB.out.cell (World.block_lt_of_cell? w _ hx307_0)).trans hx307_0
   replace hx307_1 := (HB.out.cell (World.block_lt_of_cell? w _ hx307_1)).trans hx307_1
   replace hx307_2 := (HB.out.cell (World.block_lt_of_cell? w _ hx307_2)).trans hx307_2
   replace hx307_3 := (HB.out.cell (World.block_lt_of_cell? w _ hx307_3)).trans hx307_3
   have HR307_3 := aA_.mk hi307_3
   have HC307_3 := aA_.mk hl307_3
   clear hi307_3 hl307_3
   replace p307 := eq_true p307
   replace q307 := eq_true q307
   refine start_ (n := 11) (S := fun w' => w'.cell? (ad306.add ((x7_1).toNat * 4)) = some (.int .i64 ((bD_ l0 x7_1).f0)) ∧ w'.cell? ⟨(ad306.add ((x7_1).toNat * 4)).block, (ad306.add ((x7_1).toNat * 4)).off + 1, none⟩ = some (.string ((bD_ l0 x7_1).f1)) ∧ w'.cell? ⟨(ad306.add ((x7_1).toNat * 4)).block, (ad306.add ((x7_1).toNat * 4)).off + 2, none⟩ = some (.string ((bD_ l0 x7_1).f2)) ∧ w'.cell? ⟨(ad306.add ((x7_1).toNat * 4)).block, (ad306.add ((x7_1).toNat * 4)).off + 3, none⟩ = some (.slice A306_3 ((bD_ l0 x7_1).f3).length c306_3) ∧ w'.cell? (ad307.add ((x7_1).toNat * 4)) = some (.int .i64 ((bD_ l1 x7_1).f0)) ∧ w'.cell? ⟨(ad307.add ((x7_1).toNat * 4)).block, (ad307.add ((x7_1).toNat * 4)).off + 1, none⟩ = some (.string ((bD_ l1 x7_1).f1)) ∧ w'.cell? ⟨(ad307.add ((x7_1).toNat * 4)).block, (ad307.add ((x7_1).toNat * 4)).off + 2, none⟩ = some (.string ((bD_ l1 x7_1).f2)) ∧ w'.cell? ⟨(ad307.add ((x7_1).toNat * 4)).block, (ad307.add ((x7_1).toNat * 4)).off + 3, none⟩ = some (.slice A307_3 ((bD_ l1 x7_1).f3).length c307_3)) (ds := []) #[false, false, false, false, false, false, false, false, false, false, false] (by kernel_rfl) rfl rfl ⟨((HB.out.cell (World.block_lt_of_cell? w _ hw306_0)).trans hw306_0), ((HB.out.cell (World.block_lt_of_cell? w _ hw306_1)).trans hw306_1), ((HB.out.cell (World.block_lt_of_cell? w _ hw306_2)).trans hw306_2), ((HB.out.cell (World.block_lt_of_cell? w _ hw306_3)).trans hw306_3), ((HB.out.cell (World.block_lt_of_cell? w _ hw307_0)).trans hw307_0), ((HB.out.cell (World.block_lt_of_cell? w _ hw307_1)).trans hw307_1), ((HB.out.cell (World.block_lt_of_cell? w _ hw307_2)).trans hw307_2), ((HB.out.cell (World.block_lt_of_cell? w _ hw307_3)).trans hw307_3)⟩ (fun hHeld => ?_); refine cZ_ bX_.tab6 bX_.bits6 (fun HT_ HW_ => ?_)
   generalize wr.drew = w12 at HB HR306_3 HR307_3 hx306_0 hx306_1 hx306_2 hx306_3 hx307_0 hx307_1 hx307_2 hx307_3 hHeld ⊢
   refine pz 0 (some 19) HT_ ?_
   refine pz 1 (some 20) HT_ ?_
   refine pz 2 (some 21) HT_ ?_
   refine pz 3 (some 22) HT_ ?_
   refine pz 5 (some 24) HT_ ?_
   refine pz 6 (some 25) HT_ ?_
   refine pz 7 (some 26) HT_ ?_
   refine tm 4 (some 23) HT_ HW_ hHeld ?_
   refine tm 8 (some 27) HT_ HW_ hHeld ?_
   refine on 9 (some 28) HT_ (fun K hK => ?_)
   first | (refine goes_ Tryz.func10 (by kernel_rfl) rfl #[.agg #[.int .i64 ((bD_ l0 x7_1).f0), .string ((bD_ l0 x7_1).f1), .string ((bD_ l0 x7_1).f2), .slice A306_3 ((bD_ l0 x7_1).f3).length c306_3], .agg #[.int .i64 ((bD_ l1 x7_1).f0), .string ((bD_ l1 x7_1).f1), .string ((bD_ l1 x7_1).f2), .slice A307_3 ((bD_ l1 x7_1).f3).length c307_3]] (by rfl) rfl rfl mA ?_) | (refine goesV_ Tryz.func10 (by kernel_rfl) rfl #[.agg #[.int .i64 ((bD_ l0 x7_1).f0), .string ((bD_ l0 x7_1).f1), .string ((bD_ l0 x7_1).f2), .slice A306_3 ((bD_ l0 x7_1).f3).length c306_3], .agg #[.int .i64 ((bD_ l1 x7_1).f0), .string ((bD_ l1 x7_1).f1), .string ((bD_ l1 x7_1).f2), .slice A307_3 ((bD_ l1 x7_1).f3).length c307_3]] (by rfl) rfl rfl rfl mA ?_)
   with_reducible refine (cI_.calls k1 ((bD_ l0 x7_1).f0) ((bD_ l0 x7_1).f1) ((bD_ l0 x7_1).f2) _ _ ((bD_ l0 x7_1).f3) ((bD_ l1 x7_1).f0) ((bD_ l1 x7_1).f1) ((bD_ l1 x7_1).f2) _ _ ((bD_ l1 x7_1).f3) false _ ?side1 ?side2 ?side3 ?side4 (gS HG) A8.out).mono ?_
   (case side1 => repeat (first | exact (Kd.C_below HR306_3.out HB.out) | (with_reducible refine Kd.C_alloc ?_ _) | (with_reducible refine Kd.C_drewN ?_ _) | (with_reducible refine Kd.C_drew ?_)))
   (case side2 => exact HC306_3.out)
   (case side3 => repeat (first | exact (Kd.C_below HR307_3.out HB.out) | (with_reducible refine Kd.C_alloc ?_ _) | (with_reducible refine Kd.C_drewN ?_ _) | (with_reducible refine Kd.C_drew ?_)))
   (case side4 => exact HC307_3.out)
   rintro e w13 ⟨rfl, hb⟩
   refine ⟨_, rfl, ?_⟩
   replace HB := sB hb
   (try clear hb)
   refine hK.out _ _ ⟨((HB.out.cell (World.block_lt_of_cell? w _ hw306_0)).trans hw306_0), ((HB.out.cell (World.block_lt_of_cell? w _ hw306_1)).trans hw306_1), ((HB.out.cell (World.block_lt_of_cell? w _ hw306_2)).trans hw306_2), ((HB.out.cell (World.block_lt_of_cell? w _ hw306_3)).trans hw306_3), ((HB.out.cell (World.block_lt_of_cell? w _ hw307_0)).trans hw307_0), ((HB.out.cell (World.block_lt_of_cell? w _ hw307_1)).trans hw307_1), ((HB.out.cell (World.block_lt_of_cell? w _ hw307_2)).trans hw307_2), ((HB.out.cell (World.block_lt_of_cell? w _ hw307_3)).trans hw307_3)⟩ (fun hHeld => ?_)
   clear hK K
   refine nz (some 28) ?_
   refine pz 10 (some 29) HT_ ?_
   refine done_ (dO_ HT_.out (by kernel_rfl)) ?_
   try go_wp2
   go_ret
   exact ⟨eA, bE⟩
  subst c9
  replace H : (bX_.l0 k1 l0 l1 (wrap64 (x7_1 + 1))) = some r := by rw [if_pos rfl] at H; exact H
  have H' := aA_.mk H
  clear H
  try go_wp2
  replace HB := aA_.mk (aI_ HB.out)
  have p306 : 0 ≤ (x7_1 : Int) := dA
  have q306 : x7_1 < (l0.length : Int) := dA
  obtain ⟨ad306, A306_3, c306_3, e306, hx306_0, hx306_1, hx306_2, hx306_3, hl306_3, hi306_3⟩ := dM_ HR0.out x7_1 p306 q306
  have hw306_3 := hx306_3
  have hw306_2 := hx306_2
  have hw306_1 := hx306_1
  have hw306_0 := hx306_0
  cases e306
  replace hx306_0 := (HB.out.cell (World.block_lt_of_cell? w _ hx306_0)).trans hx306_0
  replace hx306_1 := (HB.out.cell (World.block_lt_of_cell? w _ hx306_1)).trans hx306_1
  replace hx306_2 := (HB.out.cell (World.block_lt_of_cell? w _ hx306_2)).trans hx306_2
  replace hx306_3 := (HB.out.cell (World.block_lt_of_cell? w _ hx306_3)).trans hx306_3
  have HR306_3 := aA_.mk hi306_3
  have HC306_3 := aA_.mk hl306_3
  clear hi306_3 hl306_3
  replace p306 := eq_true p306
  replace q306 := eq_true q306
  have p307 : 0 ≤ (x7_1 : Int) := dA
  have q307 : x7_1 < (l1.length : Int) := dA
  obtain ⟨ad307, A307_3, c307_3, e307, hx307_0, hx307_1, hx307_2, hx307_3, hl307_3, hi307_3⟩ := dM_ HR1.out x7_1 p307 q307
  have hw307_3 := hx307_3
  have hw307_2 := hx307_2
  have hw307_1 := hx307_1
  have hw307_0 := hx307_0
  cases e307
  replace hx307_0 := (HB.out.cell (World.block_lt_of_cell? w _ hx307_0)).trans hx307_0
  replace hx307_1 := (HB.out.cell (World.block_lt_of_cell? w _ hx307_1)).trans hx307_1
  replace hx307_2 := (HB.out.cell (World.block_lt_of_cell? w _ hx307_2)).trans hx307_2
  replace hx307_3 := (HB.out.cell (World.block_lt_of_cell? w _ hx307_3)).trans hx307_3
  have HR307_3 := aA_.mk hi307_3
  have HC307_3 := aA_.mk hl307_3
  clear hi307_3 hl307_3
  replace p307 := eq_true p307
  replace q307 := eq_true q307
  refine start_ (n := 11) (S := fun w' => w'.cell? (ad306.add ((x7_1).toNat * 4)) = some (.int .i64 ((bD_ l0 x7_1).f0)) ∧ w'.cell? ⟨(ad306.add ((x7_1).toNat * 4)).block, (ad306.add ((x7_1).toNat * 4)).off + 1, none⟩ = some (.string ((bD_ l0 x7_1).f1)) ∧ w'.cell? ⟨(ad306.add ((x7_1).toNat * 4)).block, (ad306.add ((x7_1).toNat * 4)).off + 2, none⟩ = some (.string ((bD_ l0 x7_1).f2)) ∧ w'.cell? ⟨(ad306.add ((x7_1).toNat * 4)).block, (ad306.add ((x7_1).toNat * 4)).off + 3, none⟩ = some (.slice A306_3 ((bD_ l0 x7_1).f3).length c306_3) ∧ w'.cell? (ad307.add ((x7_1).toNat * 4)) = some (.int .i64 ((bD_ l1 x7_1).f0)) ∧ w'.cell? ⟨(ad307.add ((x7_1).toNat * 4)).block, (ad307.add ((x7_1).toNat * 4)).off + 1, none⟩ = some (.string ((bD_ l1 x7_1).f1)) ∧ w'.cell? ⟨(ad307.add ((x7_1).toNat * 4)).block, (ad307.add ((x7_1).toNat * 4)).off + 2, none⟩ = some (.string ((bD_ l1 x7_1).f2)) ∧ w'.cell? ⟨(ad307.add ((x7_1).toNat * 4)).block, (ad307.add ((x7_1).toNat * 4)).off + 3, none⟩ = some (.slice A307_3 ((bD_ l1 x7_1).f3).length c307_3)) (ds := []) #[false, false, false, false, false, false, false, false, false, false, false] (by kernel_rfl) rfl rfl ⟨((HB.out.cell (World.block_lt_of_cell? w _ hw306_0)).trans hw306_0), ((HB.out.cell (World.block_lt_of_cell? w _ hw306_1)).trans hw306_1), ((HB.out.cell (World.block_lt_of_cell? w _ hw306_2)).trans hw306_2), ((HB.out.cell (World.block_lt_of_cell? w _ hw306_3)).trans hw306_3), ((HB.out.cell (World.block_lt_of_cell? w _ hw307_0)).trans hw307_0), ((HB.out.cell (World.block_lt_of_cell? w _ hw307_1)).trans hw307_1), ((HB.out.cell (World.block_lt_of_cell? w _ hw307_2)).trans hw307_2), ((HB.out.cell (World.block_lt_of_cell? w _ hw307_3)).trans hw307_3)⟩ (fun hHeld => ?_); refine cZ_ bX_.tab6 bX_.bits6 (fun HT_ HW_ => ?_)
  generalize wr.drew = w10 at HB HR306_3 HR307_3 hx306_0 hx306_1 hx306_2 hx306_3 hx307_0 hx307_1 hx307_2 hx307_3 hHeld ⊢
  refine pz 0 (some 19) HT_ ?_
  refine pz 1 (some 20) HT_ ?_
  refine pz 2 (some 21) HT_ ?_
  refine pz 3 (some 22) HT_ ?_
  refine pz 5 (some 24) HT_ ?_
  refine pz 6 (some 25) HT_ ?_
  refine pz 7 (some 26) HT_ ?_
  refine tm 4 (some 23) HT_ HW_ hHeld ?_
  refine tm 8 (some 27) HT_ HW_ hHeld ?_
  refine on 9 (some 28) HT_ (fun K hK => ?_)
  first | (refine goes_ Tryz.func10 (by kernel_rfl) rfl #[.agg #[.int .i64 ((bD_ l0 x7_1).f0), .string ((bD_ l0 x7_1).f1), .string ((bD_ l0 x7_1).f2), .slice A306_3 ((bD_ l0 x7_1).f3).length c306_3], .agg #[.int .i64 ((bD_ l1 x7_1).f0), .string ((bD_ l1 x7_1).f1), .string ((bD_ l1 x7_1).f2), .slice A307_3 ((bD_ l1 x7_1).f3).length c307_3]] (by rfl) rfl rfl mA ?_) | (refine goesV_ Tryz.func10 (by kernel_rfl) rfl #[.agg #[.int .i64 ((bD_ l0 x7_1).f0), .string ((bD_ l0 x7_1).f1), .string ((bD_ l0 x7_1).f2), .slice A306_3 ((bD_ l0 x7_1).f3).length c306_3], .agg #[.int .i64 ((bD_ l1 x7_1).f0), .string ((bD_ l1 x7_1).f1), .string ((bD_ l1 x7_1).f2), .slice A307_3 ((bD_ l1 x7_1).f3).length c307_3]] (by rfl) rfl rfl rfl mA ?_)
  with_reducible refine (cI_.calls k1 ((bD_ l0 x7_1).f0) ((bD_ l0 x7_1).f1) ((bD_ l0 x7_1).f2) _ _ ((bD_ l0 x7_1).f3) ((bD_ l1 x7_1).f0) ((bD_ l1 x7_1).f1) ((bD_ l1 x7_1).f2) _ _ ((bD_ l1 x7_1).f3) true _ ?side1 ?side2 ?side3 ?side4 (gS HG) A8.out).mono ?_
  (case side1 => repeat (first | exact (Kd.C_below HR306_3.out HB.out) | (with_reducible refine Kd.C_alloc ?_ _) | (with_reducible refine Kd.C_drewN ?_ _) | (with_reducible refine Kd.C_drew ?_)))
  (case side2 => exact HC306_3.out)
  (case side3 => repeat (first | exact (Kd.C_below HR307_3.out HB.out) | (with_reducible refine Kd.C_alloc ?_ _) | (with_reducible refine Kd.C_drewN ?_ _) | (with_reducible refine Kd.C_drew ?_)))
  (case side4 => exact HC307_3.out)
  rintro e w11 ⟨rfl, hb⟩
  refine ⟨_, rfl, ?_⟩
  replace HB := sB hb
  (try clear hb)
  refine hK.out _ _ ⟨((HB.out.cell (World.block_lt_of_cell? w _ hw306_0)).trans hw306_0), ((HB.out.cell (World.block_lt_of_cell? w _ hw306_1)).trans hw306_1), ((HB.out.cell (World.block_lt_of_cell? w _ hw306_2)).trans hw306_2), ((HB.out.cell (World.block_lt_of_cell? w _ hw306_3)).trans hw306_3), ((HB.out.cell (World.block_lt_of_cell? w _ hw307_0)).trans hw307_0), ((HB.out.cell (World.block_lt_of_cell? w _ hw307_1)).trans hw307_1), ((HB.out.cell (World.block_lt_of_cell? w _ hw307_2)).trans hw307_2), ((HB.out.cell (World.block_lt_of_cell? w _ hw307_3)).trans hw307_3)⟩ (fun hHeld => ?_)
  clear hK K
  refine nz (some 28) ?_
  refine pz 10 (some 29) HT_ ?_
  refine done_ (dO_ HT_.out (by kernel_rfl)) ?_
  try go_wp2
  go_roundg k1
  case measure => have := HK1.out; omega
  case rel => exact ⟨(wrap64 (x7_1 + 1)), cA, H', ⟨by have := HK1.out; omega⟩, ⟨bE⟩⟩
def a8_.j0 : Nat → List (S45) → ByteArray → List (S32) → Int → Bool → Option (Bool)
 | 0, _, _, _, _, _ => none
 | k + 1, x0, x1, x2, x3, x29 => if x29 = true then ((bU_.f k).bind fun t324 => (some t324)) else ((cQ_.f x0).bind fun bt325 => ((cG_.f x0).bind fun bt329 => ((cR_.f x1).bind fun bt333 => ((cC_.f k x1).bind fun bt337 => ((bU_.f k).bind fun t341 => (if t341 = true then ((bX_.f k bt325.1 bt329.1).bind fun t342 => (if t342 = true then (if bt325.2 = bt329.2 then ((bX_.f k bt333.1 bt337.1).bind fun t343 => (if t343 = true then (if bt333.2 = bt337.2 then ((bJ_.f k x2 x3).bind fun t344 => ((a1_.f k x2 x3).bind fun t347 => ((bW_.f k t344 t347).bind fun t350 => (if t350 = true then ((b3_.f k x2 x3).bind fun t351 => ((bE_.f k x2 x3).bind fun t352 => (some (t351.toList == t352.toList)))) else (some false))))) else (some false)) else (some false))) else (some false)) else (some false))) else (some false)))))))
def a8_.f (k : Nat) (l0 : List (S45)) (a1 : ByteArray) (l2 : List (S32)) (a3 : Int) : Option (Bool) := if (l0.length : Int) > 100 then (a8_.j0 k l0 a1 l2 a3 true) else (if (a1.size : Int) > 3000 then (a8_.j0 k l0 a1 l2 a3 true) else (a8_.j0 k l0 a1 l2 a3 (decide ((l2.length : Int) > 100))))
theorem a8_.mono_l : ∀ k, (∀ y0 y1 y2 y3 y4, LeO (a8_.j0 k y0 y1 y2 y3 y4) (a8_.j0 (k + 1) y0 y1 y2 y3 y4))
 | 0 => fun _ _ _ _ _ r h => by simp [a8_.j0] at h
 | k + 1 => by
  have ih0 := a8_.mono_l k
  ·intro y0 y1 y2 y3 y4
   unfold a8_.j0
   have m0 := @bX_.mono
   have m1 := @b3_.mono
   have m2 := @bJ_.mono
   have m3 := @bW_.mono
   have m4 := @bU_.mono
   have m5 := @bE_.mono
   have m6 := @a1_.mono
   have m7 := @cC_.mono
   exact mo
theorem a8_.calls (k : Nat) (A0 : Option Addr) (c0 : Nat) (l0 : List (S45)) (a1 : ByteArray) (A2 : Option Addr) (c2 : Nat) (l2 : List (S32)) (a3 : Int) (r : Bool) (w : World) (hr0 : Kd.C k45 w A0 l0.length l0) (hc0 : l0.length ≤ c0) (hr2 : Kd.C k32 w A2 l2.length l2) (hc2 : l2.length ≤ c2) (hG : Glob w) (h : a8_.f k l0 a1 l2 a3 = some r) (hr_ : r = true) :
 Calls Tryz.prog 3 #[.slice A0 l0.length c0, .string a1, .slice A2 l2.length c2, .int .i64 a3] w fun e w' => e = .returned (.bool r) ∧ Below w.heap.size w w' := by
 have HG := aA_.mk hG
 clear hG
 have HR0 := aA_.mk hr0
 have HC0 := aA_.mk hc0
 clear hr0 hc0
 have HR2 := aA_.mk hr2
 have HC2 := aA_.mk hc2
 clear hr2 hc2
 have HB := aA_.mk (Below.refl w.heap.size w)
 have H : (if (l0.length : Int) > 100 then (a8_.j0 k l0 a1 l2 a3 true) else (if (a1.size : Int) > 3000 then (a8_.j0 k l0 a1 l2 a3 true) else (a8_.j0 k l0 a1 l2 a3 (decide ((l2.length : Int) > 100))))) = some r := h
 clear h
 have HC5 := aA_.mk H
 clear H
 go_enter Tryz.func3, Tryz.ntmps3
 go_upto_region 1 with (fail)
 go_cut [29] (fun v29 wc => ∃ (kq : Nat) (x29_4 : Bool), v29 = .bool x29_4 ∧ aA_ (a8_.j0 kq l0 a1 l2 a3 x29_4 = some r) ∧ aA_ (kq ≤ k) ∧ aA_ (Below w.heap.size w wc))
 case first =>
  have H := HC5.out
  clear HC5
  by_cases c6 : (l0.length : Int) > 100
  ·rw [if_pos c6] at H
   have c6b0 := dT c6
   have c6b1 : decide (100 < l0.length) = true := decide_eq_true (by omega)
   clear c6
   (first | rw [c6b0] | (simp only [c6_, dY_]; rw [c6b0]) | skip)
   have H' := aA_.mk H
   clear H
   go_wp2
   go_meet
   case rel => exact ⟨_, (true), cA, H', ⟨by first | omega | exact Nat.le_refl _⟩, ⟨bE⟩⟩
  rw [if_neg c6] at H
  have c6b0 := dF c6
  have c6b1 : decide (100 < l0.length) = false := decide_eq_false (by omega)
  clear c6
  (first | rw [c6b0] | (simp only [c6_, dY_]; rw [c6b0]) | skip)
  by_cases c7 : (a1.size : Int) > 3000
  rotate_left
  ·rw [if_neg c7] at H
   have c7b0 := dF c7
   have c7b1 : decide (3000 < a1.size) = false := decide_eq_false (by omega)
   clear c7
   have H' := aA_.mk H
   clear H
   go_wp2
   go_meet
   case rel => exact ⟨_, (decide ((l2.length : Int) > 100)), cA, H', ⟨by first | omega | exact Nat.le_refl _⟩, ⟨bE⟩⟩
  rw [if_pos c7] at H
  have c7b0 := dT c7
  have c7b1 : decide (3000 < a1.size) = true := decide_eq_true (by omega)
  clear c7
  have H' := aA_.mk H
  clear H
  go_wp2
  go_meet
  case rel => exact ⟨_, (true), cA, H', ⟨by first | omega | exact Nat.le_refl _⟩, ⟨bE⟩⟩
 clear HC5
 try clear c2
 try clear p2
 try clear c3
 try clear c6
 try clear c6b0
 try clear c6b1
 try clear c7
 try clear c7b0
 try clear c7b1
 obtain ⟨kq, x29_4, rfl, HA, HJ4, HB⟩ := hcut
 cases kq with
 | zero => exact absurd HA.out (by simp [a8_.j0])
 | succ kj4 =>
  have H := HA.out
  clear HA
  simp only [a8_.j0] at H
  by_cases c8 : x29_4 = true
  ·subst c8
   replace H : ((bU_.f kj4).bind fun t324 => (some t324)) = some r := by rw [if_pos rfl] at H; exact H
   replace H := bi H
   obtain ⟨t324, A90, H⟩ := H
   try dsimp only at H
   have A9 := aA_.mk A90
   clear A90
   obtain rfl := Option.some.inj H
   go_wp2_with (first | (refine gl (some 30) Tryz.func4 #[] ?_; (with_reducible refine (bU_.calls kj4  t324 _ (gS HG) A9.out).mono ?_); rintro e w10 ⟨rfl, hb⟩; refine ⟨_, rfl, ?_⟩; replace HB := sB hb; (try clear hb)))
   go_ret
   exact ⟨eA, bE⟩
  replace c8 := Bool.eq_false_iff.mpr c8
  subst c8
  replace H : ((cQ_.f l0).bind fun bt325 => ((cG_.f l0).bind fun bt329 => ((cR_.f a1).bind fun bt333 => ((cC_.f kj4 a1).bind fun bt337 => ((bU_.f kj4).bind fun t341 => (if t341 = true then ((bX_.f kj4 bt325.1 bt329.1).bind fun t342 => (if t342 = true then (if bt325.2 = bt329.2 then ((bX_.f kj4 bt333.1 bt337.1).bind fun t343 => (if t343 = true then (if bt333.2 = bt337.2 then ((bJ_.f kj4 l2 a3).bind fun t344 => ((a1_.f kj4 l2 a3).bind fun t347 => ((bW_.f kj4 t344 t347).bind fun t350 => (if t350 = true then ((b3_.f kj4 l2 a3).bind fun t351 => ((bE_.f kj4 l2 a3).bind fun t352 => (some (t351.toList == t352.toList)))) else (some false))))) else (some false)) else (some false))) else (some false)) else (some false))) else (some false))))))) = some r := by rw [if_neg nF] at H; exact H
  replace H := bi H
  obtain ⟨⟨t325, t326⟩, A110, H⟩ := H
  try dsimp only at H
  have A11 := aA_.mk A110
  clear A110
  replace H := bi H
  obtain ⟨⟨t329, t330⟩, A120, H⟩ := H
  try dsimp only at H
  have A12 := aA_.mk A120
  clear A120
  replace H := bi H
  obtain ⟨⟨t333, t334⟩, A130, H⟩ := H
  try dsimp only at H
  have A13 := aA_.mk A130
  clear A130
  replace H := bi H
  obtain ⟨⟨t337, t338⟩, A140, H⟩ := H
  try dsimp only at H
  have A14 := aA_.mk A140
  clear A140
  replace H := bi H
  obtain ⟨t341, A150, H⟩ := H
  try dsimp only at H
  have A15 := aA_.mk A150
  clear A150
  by_cases c16 : t341 = true
  rotate_left
  ·replace c16 := Bool.eq_false_iff.mpr c16
   subst c16
   replace H : (some false) = some r := by rw [if_neg nF] at H; exact H
   exfalso
   obtain rfl := Option.some.inj H
   exact absurd hr_ (by decide)
  subst c16
  replace H : ((bX_.f kj4 t325 t329).bind fun t342 => (if t342 = true then (if t326 = t330 then ((bX_.f kj4 t333 t337).bind fun t343 => (if t343 = true then (if t334 = t338 then ((bJ_.f kj4 l2 a3).bind fun t344 => ((a1_.f kj4 l2 a3).bind fun t347 => ((bW_.f kj4 t344 t347).bind fun t350 => (if t350 = true then ((b3_.f kj4 l2 a3).bind fun t351 => ((bE_.f kj4 l2 a3).bind fun t352 => (some (t351.toList == t352.toList)))) else (some false))))) else (some false)) else (some false))) else (some false)) else (some false))) = some r := by rw [if_pos rfl] at H; exact H
  replace H := bi H
  obtain ⟨t342, A170, H⟩ := H
  try dsimp only at H
  have A17 := aA_.mk A170
  clear A170
  by_cases c18 : t342 = true
  rotate_left
  ·replace c18 := Bool.eq_false_iff.mpr c18
   subst c18
   replace H : (some false) = some r := by rw [if_neg nF] at H; exact H
   exfalso
   obtain rfl := Option.some.inj H
   exact absurd hr_ (by decide)
  subst c18
  replace H : (if t326 = t330 then ((bX_.f kj4 t333 t337).bind fun t343 => (if t343 = true then (if t334 = t338 then ((bJ_.f kj4 l2 a3).bind fun t344 => ((a1_.f kj4 l2 a3).bind fun t347 => ((bW_.f kj4 t344 t347).bind fun t350 => (if t350 = true then ((b3_.f kj4 l2 a3).bind fun t351 => ((bE_.f kj4 l2 a3).bind fun t352 => (some (t351.toList == t352.toList)))) else (some false))))) else (some false)) else (some false))) else (some false)) = some r := by rw [if_pos rfl] at H; exact H
  by_cases c19 : t326 = t330
  rotate_left
  ·rw [if_neg c19] at H
   obtain ⟨c19b0, c19b1⟩ := eqF c19
   exfalso
   obtain rfl := Option.some.inj H
   exact absurd hr_ (by decide)
  rw [if_pos c19] at H
  obtain ⟨c19b0, c19b1⟩ := eqT c19
  clear c19
  replace H := bi H
  obtain ⟨t343, A200, H⟩ := H
  try dsimp only at H
  have A20 := aA_.mk A200
  clear A200
  by_cases c21 : t343 = true
  rotate_left
  ·replace c21 := Bool.eq_false_iff.mpr c21
   subst c21
   replace H : (some false) = some r := by rw [if_neg nF] at H; exact H
   exfalso
   obtain rfl := Option.some.inj H
   exact absurd hr_ (by decide)
  subst c21
  replace H : (if t334 = t338 then ((bJ_.f kj4 l2 a3).bind fun t344 => ((a1_.f kj4 l2 a3).bind fun t347 => ((bW_.f kj4 t344 t347).bind fun t350 => (if t350 = true then ((b3_.f kj4 l2 a3).bind fun t351 => ((bE_.f kj4 l2 a3).bind fun t352 => (some (t351.toList == t352.toList)))) else (some false))))) else (some false)) = some r := by rw [if_pos rfl] at H; exact H
  by_cases c22 : t334 = t338
  rotate_left
  ·rw [if_neg c22] at H
   obtain ⟨c22b0, c22b1⟩ := eqF c22
   exfalso
   obtain rfl := Option.some.inj H
   exact absurd hr_ (by decide)
  rw [if_pos c22] at H
  obtain ⟨c22b0, c22b1⟩ := eqT c22
  clear c22
  replace H := bi H
  obtain ⟨t344, A230, H⟩ := H
  try dsimp only at H
  have A23 := aA_.mk A230
  clear A230
  replace H := bi H
  obtain ⟨t347, A240, H⟩ := H
  try dsimp only at H
  have A24 := aA_.mk A240
  clear A240
  replace H := bi H
  obtain ⟨t350, A250, H⟩ := H
  try dsimp only at H
  have A25 := aA_.mk A250
  clear A250
  by_cases c26 : t350 = true
  rotate_left
  ·replace c26 := Bool.eq_false_iff.mpr c26
   subst c26
   replace H : (some false) = some r := by rw [if_neg nF] at H; exact H
   exfalso
   obtain rfl := Option.some.inj H
   exact absurd hr_ (by decide)
  subst c26
  replace H : ((b3_.f kj4 l2 a3).bind fun t351 => ((bE_.f kj4 l2 a3).bind fun t352 => (some (t351.toList == t352.toList)))) = some r := by rw [if_pos rfl] at H; exact H
  replace H := bi H
  obtain ⟨t351, A270, H⟩ := H
  try dsimp only at H
  have A27 := aA_.mk A270
  clear A270
  replace H := bi H
  obtain ⟨t352, A280, H⟩ := H
  try dsimp only at H
  have A28 := aA_.mk A280
  clear A280
  obtain rfl := Option.some.inj H
  go_wp2_with (first | (refine gl (some 33) Tryz.func5 #[.slice A0 l0.length c0] ?_; (with_reducible refine (cQ_.calls _ _ l0 t325 t326 _ ?side1 ?side2 (gS HG) A11.out).mono ?_); (case side1 => repeat (first | exact (Kd.C_below HR0.out HB.out) | (with_reducible refine Kd.C_alloc ?_ _) | (with_reducible refine Kd.C_drewN ?_ _) | (with_reducible refine Kd.C_drew ?_))); (case side2 => exact HC0.out); rintro e w29 ⟨v327, rfl, ho0, hb⟩; refine ⟨_, rfl, ?_⟩; have HO328 := aA_.mk (Kd.S_lower ho0 (cA_ bE)); replace HB := sB hb; (try clear hb); (try clear ho0)) | (refine gl (some 38) Tryz.func6 #[.slice A0 l0.length c0] ?_; (with_reducible refine (cG_.calls _ _ l0 t329 t330 _ ?side1 ?side2 (gS HG) A12.out).mono ?_); (case side1 => repeat (first | exact (Kd.C_below HR0.out HB.out) | (with_reducible refine Kd.C_alloc ?_ _) | (with_reducible refine Kd.C_drewN ?_ _) | (with_reducible refine Kd.C_drew ?_))); (case side2 => exact HC0.out); rintro e w30 ⟨v331, rfl, ho0, hb⟩; refine ⟨_, rfl, ?_⟩; have HO332 := aA_.mk (Kd.S_lower (Kd.S_new' ho0 (Kd.S_lt (by (with_reducible repeat (first | apply Kd.S_alloc | apply Kd.S_drewN | apply Kd.S_drew)); exact HO328.out))) (cA_ bE)); replace HO328 := aA_.mk (Kd.S_elder' (by (with_reducible repeat (first | apply Kd.S_alloc | apply Kd.S_drewN | apply Kd.S_drew)); exact HO328.out) (Kd.S_base ho0) hb); replace HB := sB hb; (try clear hb); (try clear ho0)) | (refine gl (some 43) Tryz.func7 #[.string a1] ?_; (with_reducible refine (cR_.calls a1 t333 t334 _ (gS HG) A13.out).mono ?_); rintro e w31 ⟨v335, rfl, ho0, hb⟩; refine ⟨_, rfl, ?_⟩; have HO336 := aA_.mk (Kd.S_lower (Kd.S_new' (Kd.S_new' ho0 (Kd.S_lt (by (with_reducible repeat (first | apply Kd.S_alloc | apply Kd.S_drewN | apply Kd.S_drew)); exact HO328.out))) (Kd.S_lt (by (with_reducible repeat (first | apply Kd.S_alloc | apply Kd.S_drewN | apply Kd.S_drew)); exact HO332.out))) (cA_ bE)); replace HO328 := aA_.mk (Kd.S_elder' (by (with_reducible repeat (first | apply Kd.S_alloc | apply Kd.S_drewN | apply Kd.S_drew)); exact HO328.out) (Kd.S_base ho0) hb); replace HO332 := aA_.mk (Kd.S_elder' (by (with_reducible repeat (first | apply Kd.S_alloc | apply Kd.S_drewN | apply Kd.S_drew)); exact HO332.out) (Kd.S_base ho0) hb); replace HB := sB hb; (try clear hb); (try clear ho0)) | (refine gl (some 48) Tryz.func8 #[.string a1] ?_; (with_reducible refine (cC_.calls kj4 a1 t337 t338 _ (gS HG) A14.out).mono ?_); rintro e w32 ⟨v339, rfl, ho0, hb⟩; refine ⟨_, rfl, ?_⟩; have HO340 := aA_.mk (Kd.S_lower (Kd.S_new' (Kd.S_new' (Kd.S_new' ho0 (Kd.S_lt (by (with_reducible repeat (first | apply Kd.S_alloc | apply Kd.S_drewN | apply Kd.S_drew)); exact HO328.out))) (Kd.S_lt (by (with_reducible repeat (first | apply Kd.S_alloc | apply Kd.S_drewN | apply Kd.S_drew)); exact HO332.out))) (Kd.S_lt (by (with_reducible repeat (first | apply Kd.S_alloc | apply Kd.S_drewN | apply Kd.S_drew)); exact HO336.out))) (cA_ bE)); replace HO328 := aA_.mk (Kd.S_elder' (by (with_reducible repeat (first | apply Kd.S_alloc | apply Kd.S_drewN | apply Kd.S_drew)); exact HO328.out) (Kd.S_base ho0) hb); replace HO332 := aA_.mk (Kd.S_elder' (by (with_reducible repeat (first | apply Kd.S_alloc | apply Kd.S_drewN | apply Kd.S_drew)); exact HO332.out) (Kd.S_base ho0) hb); replace HO336 := aA_.mk (Kd.S_elder' (by (with_reducible repeat (first | apply Kd.S_alloc | apply Kd.S_drewN | apply Kd.S_drew)); exact HO336.out) (Kd.S_base ho0) hb); replace HB := sB hb; (try clear hb); (try clear ho0)) | (refine gl (some 51) Tryz.func4 #[] ?_; (with_reducible refine (bU_.calls kj4  true _ (gS HG) A15.out).mono ?_); rintro e w33 ⟨rfl, hb⟩; refine ⟨_, rfl, ?_⟩; replace HO328 := aA_.mk (Kd.S_below (by (with_reducible repeat (first | apply Kd.S_alloc | apply Kd.S_drewN | apply Kd.S_drew)); exact HO328.out) hb); replace HO332 := aA_.mk (Kd.S_below (by (with_reducible repeat (first | apply Kd.S_alloc | apply Kd.S_drewN | apply Kd.S_drew)); exact HO332.out) hb); replace HO336 := aA_.mk (Kd.S_below (by (with_reducible repeat (first | apply Kd.S_alloc | apply Kd.S_drewN | apply Kd.S_drew)); exact HO336.out) hb); replace HO340 := aA_.mk (Kd.S_below (by (with_reducible repeat (first | apply Kd.S_alloc | apply Kd.S_drewN | apply Kd.S_drew)); exact HO340.out) hb); replace HB := sB hb; (try clear hb); obtain ⟨Ao34, co34, eo34⟩ := Kd.S_slice HO328.out; subst eo34; obtain ⟨Ao35, co35, eo35⟩ := Kd.S_slice HO332.out; subst eo35) | (go_at_call 9; (with_reducible refine (bX_.calls kj4 _ _ t325 _ _ t329  true _ ?side1 ?side2 ?side3 ?side4 (gS HG) A17.out).mono ?_); (case side1 => repeat (first | exact (Kd.S_reads' HO328.out).2.2 | (with_reducible refine Kd.C_alloc ?_ _) | (with_reducible refine Kd.C_drewN ?_ _) | (with_reducible refine Kd.C_drew ?_))); (case side2 => exact (Kd.S_reads' HO328.out).2.1); (case side3 => repeat (first | exact (Kd.S_reads' HO332.out).2.2 | (with_reducible refine Kd.C_alloc ?_ _) | (with_reducible refine Kd.C_drewN ?_ _) | (with_reducible refine Kd.C_drew ?_))); (case side4 => exact (Kd.S_reads' HO332.out).2.1); rintro e w36 ⟨rfl, hb⟩; replace HO328 := aA_.mk (Kd.S_below (by (with_reducible repeat (first | apply Kd.S_alloc | apply Kd.S_drewN | apply Kd.S_drew)); exact HO328.out) hb); replace HO332 := aA_.mk (Kd.S_below (by (with_reducible repeat (first | apply Kd.S_alloc | apply Kd.S_drewN | apply Kd.S_drew)); exact HO332.out) hb); replace HO336 := aA_.mk (Kd.S_below (by (with_reducible repeat (first | apply Kd.S_alloc | apply Kd.S_drewN | apply Kd.S_drew)); exact HO336.out) hb); replace HO340 := aA_.mk (Kd.S_below (by (with_reducible repeat (first | apply Kd.S_alloc | apply Kd.S_drewN | apply Kd.S_drew)); exact HO340.out) hb); replace HB := sB hb; (try clear hb); obtain ⟨Ao37, co37, eo37⟩ := Kd.S_slice HO336.out; subst eo37; obtain ⟨Ao38, co38, eo38⟩ := Kd.S_slice HO340.out; subst eo38) | (go_at_call 9; (with_reducible refine (bX_.calls kj4 _ _ t333 _ _ t337  true _ ?side1 ?side2 ?side3 ?side4 (gS HG) A20.out).mono ?_); (case side1 => repeat (first | exact (Kd.S_reads' HO336.out).2.2 | (with_reducible refine Kd.C_alloc ?_ _) | (with_reducible refine Kd.C_drewN ?_ _) | (with_reducible refine Kd.C_drew ?_))); (case side2 => exact (Kd.S_reads' HO336.out).2.1); (case side3 => repeat (first | exact (Kd.S_reads' HO340.out).2.2 | (with_reducible refine Kd.C_alloc ?_ _) | (with_reducible refine Kd.C_drewN ?_ _) | (with_reducible refine Kd.C_drew ?_))); (case side4 => exact (Kd.S_reads' HO340.out).2.1); rintro e w39 ⟨rfl, hb⟩; replace HO328 := aA_.mk (Kd.S_below (by (with_reducible repeat (first | apply Kd.S_alloc | apply Kd.S_drewN | apply Kd.S_drew)); exact HO328.out) hb); replace HO332 := aA_.mk (Kd.S_below (by (with_reducible repeat (first | apply Kd.S_alloc | apply Kd.S_drewN | apply Kd.S_drew)); exact HO332.out) hb); replace HO336 := aA_.mk (Kd.S_below (by (with_reducible repeat (first | apply Kd.S_alloc | apply Kd.S_drewN | apply Kd.S_drew)); exact HO336.out) hb); replace HO340 := aA_.mk (Kd.S_below (by (with_reducible repeat (first | apply Kd.S_alloc | apply Kd.S_drewN | apply Kd.S_drew)); exact HO340.out) hb); replace HB := sB hb; (try clear hb)) | (go_at_call 12; (with_reducible refine (bJ_.calls kj4 _ _ l2 a3 t344 _ ?side1 ?side2 (gS HG) A23.out).mono ?_); (case side1 => repeat (first | exact (Kd.C_below HR2.out HB.out) | (with_reducible refine Kd.C_alloc ?_ _) | (with_reducible refine Kd.C_drewN ?_ _) | (with_reducible refine Kd.C_drew ?_))); (case side2 => exact HC2.out); rintro e w40 ⟨v345, rfl, ho0, hb⟩; replace HO328 := aA_.mk (Kd.S_below (by (with_reducible repeat (first | apply Kd.S_alloc | apply Kd.S_drewN | apply Kd.S_drew)); exact HO328.out) hb); replace HO332 := aA_.mk (Kd.S_below (by (with_reducible repeat (first | apply Kd.S_alloc | apply Kd.S_drewN | apply Kd.S_drew)); exact HO332.out) hb); replace HO336 := aA_.mk (Kd.S_below (by (with_reducible repeat (first | apply Kd.S_alloc | apply Kd.S_drewN | apply Kd.S_drew)); exact HO336.out) hb); replace HO340 := aA_.mk (Kd.S_below (by (with_reducible repeat (first | apply Kd.S_alloc | apply Kd.S_drewN | apply Kd.S_drew)); exact HO340.out) hb); have HO346 := aA_.mk (Kd.R_lower ho0 (cA_ bE)); replace HB := sB hb; (try clear hb); (try clear ho0)) | (go_at_call 13; (with_reducible refine (a1_.calls kj4 _ _ l2 a3 t347 _ ?side1 ?side2 (gS HG) A24.out).mono ?_); (case side1 => repeat (first | exact (Kd.C_below HR2.out HB.out) | (with_reducible refine Kd.C_alloc ?_ _) | (with_reducible refine Kd.C_drewN ?_ _) | (with_reducible refine Kd.C_drew ?_))); (case side2 => exact HC2.out); rintro e w41 ⟨v348, rfl, ho0, hb⟩; replace HO328 := aA_.mk (Kd.S_below (by (with_reducible repeat (first | apply Kd.S_alloc | apply Kd.S_drewN | apply Kd.S_drew)); exact HO328.out) hb); replace HO332 := aA_.mk (Kd.S_below (by (with_reducible repeat (first | apply Kd.S_alloc | apply Kd.S_drewN | apply Kd.S_drew)); exact HO332.out) hb); replace HO336 := aA_.mk (Kd.S_below (by (with_reducible repeat (first | apply Kd.S_alloc | apply Kd.S_drewN | apply Kd.S_drew)); exact HO336.out) hb); replace HO340 := aA_.mk (Kd.S_below (by (with_reducible repeat (first | apply Kd.S_alloc | apply Kd.S_drewN | apply Kd.S_drew)); exact HO340.out) hb); have HO349 := aA_.mk (Kd.R_lower (Kd.R_new' ho0 (Kd.R_lt (kR HO346))) (cA_ bE)); replace HO346 := aA_.mk (Kd.R_elder' (kR HO346) (Kd.R_base ho0) hb); replace HB := sB hb; (try clear hb); (try clear ho0); obtain ⟨Ao42, co42, eo42⟩ := Kd.R_slice HO346.out; subst eo42; obtain ⟨Ao43, co43, eo43⟩ := Kd.R_slice HO349.out; subst eo43) | (go_at_call 11; (with_reducible refine (bW_.calls kj4 _ _ t344 _ _ t347 true _ ?side1 ?side2 ?side3 ?side4 (gS HG) A25.out).mono ?_); (case side1 => repeat (first | exact (Kd.R_reads' HO346.out).2.2 | (with_reducible refine Kd.C_alloc ?_ _) | (with_reducible refine Kd.C_drewN ?_ _) | (with_reducible refine Kd.C_drew ?_))); (case side2 => exact (Kd.R_reads' HO346.out).2.1); (case side3 => repeat (first | exact (Kd.R_reads' HO349.out).2.2 | (with_reducible refine Kd.C_alloc ?_ _) | (with_reducible refine Kd.C_drewN ?_ _) | (with_reducible refine Kd.C_drew ?_))); (case side4 => exact (Kd.R_reads' HO349.out).2.1); rintro e w44 ⟨rfl, hb⟩; replace HO328 := aA_.mk (Kd.S_below (by (with_reducible repeat (first | apply Kd.S_alloc | apply Kd.S_drewN | apply Kd.S_drew)); exact HO328.out) hb); replace HO332 := aA_.mk (Kd.S_below (by (with_reducible repeat (first | apply Kd.S_alloc | apply Kd.S_drewN | apply Kd.S_drew)); exact HO332.out) hb); replace HO336 := aA_.mk (Kd.S_below (by (with_reducible repeat (first | apply Kd.S_alloc | apply Kd.S_drewN | apply Kd.S_drew)); exact HO336.out) hb); replace HO340 := aA_.mk (Kd.S_below (by (with_reducible repeat (first | apply Kd.S_alloc | apply Kd.S_drewN | apply Kd.S_drew)); exact HO340.out) hb); replace HO346 := rB HO346 hb; replace HO349 := rB HO349 hb; replace HB := sB hb; (try clear hb)) | (go_at_call 14; (with_reducible refine (b3_.calls kj4 _ _ l2 a3 t351 _ ?side1 ?side2 (gS HG) A27.out).mono ?_); (case side1 => repeat (first | exact (Kd.C_below HR2.out HB.out) | (with_reducible refine Kd.C_alloc ?_ _) | (with_reducible refine Kd.C_drewN ?_ _) | (with_reducible refine Kd.C_drew ?_))); (case side2 => exact HC2.out); rintro e w45 ⟨rfl, hb⟩; replace HO328 := aA_.mk (Kd.S_below (by (with_reducible repeat (first | apply Kd.S_alloc | apply Kd.S_drewN | apply Kd.S_drew)); exact HO328.out) hb); replace HO332 := aA_.mk (Kd.S_below (by (with_reducible repeat (first | apply Kd.S_alloc | apply Kd.S_drewN | apply Kd.S_drew)); exact HO332.out) hb); replace HO336 := aA_.mk (Kd.S_below (by (with_reducible repeat (first | apply Kd.S_alloc | apply Kd.S_drewN | apply Kd.S_drew)); exact HO336.out) hb); replace HO340 := aA_.mk (Kd.S_below (by (with_reducible repeat (first | apply Kd.S_alloc | apply Kd.S_drewN | apply Kd.S_drew)); exact HO340.out) hb); replace HO346 := rB HO346 hb; replace HO349 := rB HO349 hb; replace HB := sB hb; (try clear hb)) | (go_at_call 15; (with_reducible refine (bE_.calls kj4 _ _ l2 a3 t352 _ ?side1 ?side2 (gS HG) A28.out).mono ?_); (case side1 => repeat (first | exact (Kd.C_below HR2.out HB.out) | (with_reducible refine Kd.C_alloc ?_ _) | (with_reducible refine Kd.C_drewN ?_ _) | (with_reducible refine Kd.C_drew ?_))); (case side2 => exact HC2.out); rintro e w46 ⟨rfl, hb⟩; replace HO328 := aA_.mk (Kd.S_below (by (with_reducible repeat (first | apply Kd.S_alloc | apply Kd.S_drewN | apply Kd.S_drew)); exact HO328.out) hb); replace HO332 := aA_.mk (Kd.S_below (by (with_reducible repeat (first | apply Kd.S_alloc | apply Kd.S_drewN | apply Kd.S_drew)); exact HO332.out) hb); replace HO336 := aA_.mk (Kd.S_below (by (with_reducible repeat (first | apply Kd.S_alloc | apply Kd.S_drewN | apply Kd.S_drew)); exact HO336.out) hb); replace HO340 := aA_.mk (Kd.S_below (by (with_reducible repeat (first | apply Kd.S_alloc | apply Kd.S_drewN | apply Kd.S_drew)); exact HO340.out) hb); replace HO346 := rB HO346 hb; replace HO349 := rB HO349 hb; replace HB := sB hb; (try clear hb)))
  go_ret
  exact ⟨eA, bE⟩
end Go.Proofs.YtkoogebfdinbnaaGreat.Q
namespace Go.Proofs.YtkoogebfdinbnaaGreat.Q
open Go.RowKit Go.Proofs.YtkoogebfdinbnaaGreatW.PrintWords Go.Proofs.YtkoogebfdinbnaaGreatW.PrintLast Go.Proofs.YtkoogebfdinbnaaGreatW.Own Go.Proofs.YtkoogebfdinbnaaGreatW.PrintMore
set_option linter.unusedVariables false
set_option linter.unusedSimpArgs false
namespace Rd
open Go Go.RowKit
theorem add_more (a : Addr) (i j : Nat) : (a.add i).add j = a.add (i + j) := by
  by_cases hi : i = 0
  · subst hi
    simp [Addr.add]
  · by_cases hj : j = 0
    · subst hj
      simp [Addr.add]
    · have hij : ¬ (i + j = 0) := by omega
      simp [Addr.add, hi, hj]
      omega
def Opens {α : Type} (t : TypeId) (d : Kd α) (wf : α → Prop) (bulk : α → Nat) : Prop :=
  Tryz.prog.cellsOf t = d.sz ∧ ∀ (H : Type) (enc : TypeId × Value → H) (W : World) (fuel : Nat) (cs : List Value) (dd : DataW H) (ps : List MemPlace),
    DataW.trod enc Tryz.prog W 0 (fun _ => true) true fuel t cs = some (dd, ps) → ∃ x, d.K W x cs ∧ wf x ∧ bulk x ≤ Rows.uptoBulk dd
theorem opens_int {t : TypeId} {k : IntKind} (hu : Tryz.prog.underlying t = some (.int k)) (hc : Tryz.prog.cellsOf t = 1) : Opens t (Kd.int k) (fun n => (Lit.int k n).wf = true) (fun _ => 1) := by
  refine ⟨hc, fun H enc W fuel cs dd ps h => ?_⟩
  obtain ⟨n, rfl, hx, hw⟩ := DataW.trod_int hu h
  obtain ⟨rfl, rfl⟩ := Prod.mk.inj hx
  exact ⟨n, rfl, hw, by simp [Rows.uptoBulk]⟩
theorem opens_bool {t : TypeId} (hu : Tryz.prog.underlying t = some .bool) (hc : Tryz.prog.cellsOf t = 1) : Opens t Kd.bool (fun _ => True) (fun _ => 1) := by
  refine ⟨hc, fun H enc W fuel cs dd ps h => ?_⟩
  obtain ⟨n, rfl, hx⟩ := DataW.trod_bool hu h
  obtain ⟨rfl, rfl⟩ := Prod.mk.inj hx
  exact ⟨n, rfl, trivial, by simp [Rows.uptoBulk]⟩
theorem opens_string {t : TypeId} (hu : Tryz.prog.underlying t = some .string) (hc : Tryz.prog.cellsOf t = 1) : Opens t Kd.string (fun s => s.size ≤ maxLen) (fun s => s.size + 1) := by
  refine ⟨hc, fun H enc W fuel cs dd ps h => ?_⟩
  obtain ⟨s, rfl, hx, hw⟩ := DataW.trod_string hu h
  obtain ⟨rfl, rfl⟩ := Prod.mk.inj hx
  refine ⟨s, rfl, hw, ?_⟩
  have e : s.data.toList.length = s.size := by rw [Array.length_toList]; rfl
  simp only [Rows.uptoBulk]
  omega
def sumOf {α : Type} (f : α → Nat) (l : List α) : Nat := (l.map f).sum
theorem bulkAll_append {H : Type} (a b : List (DataW H)) : Rows.uptoBulkAll (a ++ b) = Rows.uptoBulkAll a + Rows.uptoBulkAll b := by
  induction a with
  | nil => simp [Rows.uptoBulkAll]
  | cons x l ih => simp only [List.cons_append, Rows.uptoBulkAll, ih]; omega
theorem opens_slice {α : Type} {t e : TypeId} {d : Kd α} {wf : α → Prop} {bulk : α → Nat} (hu : Tryz.prog.underlying t = some (.slice e)) (hc : Tryz.prog.cellsOf t = 1) (h : Opens e d wf bulk) :
    Opens t (Kd.slice e d) (fun xs => xs.length ≤ maxLen ∧ ∀ x ∈ xs, wf x) (fun xs => sumOf bulk xs + 1) := by
  refine ⟨hc, fun H enc W fuel cs dd ps hh => ?_⟩
  rcases DataW.trod_slice hu hh with ⟨rfl, hx⟩ | ⟨a, len, cap, elems, rest, n, rfl, rfl, hx, -, hlc, hcm, hel, he, -, -⟩
  · obtain ⟨rfl, rfl⟩ := Prod.mk.inj hx
    refine ⟨[], ?_, ?_, ?_⟩
    · exact ⟨none, 0, rfl, Nat.le_refl _, Kd.C_nil _ _⟩
    · refine ⟨?_, fun _ h => by simp at h⟩
      rw [List.length_nil]
      exact Nat.zero_le _
    · simp only [sumOf, List.map_nil, List.sum_nil, Rows.uptoBulk]
      exact Nat.le_refl _
  · have e1 := congrArg Prod.fst hx
    simp only at e1
    subst e1
    clear hx hh
    obtain ⟨hsz, hop⟩ := h
    have key : ∀ m, m ≤ elems.length → ∃ xs : List α, xs.length = m ∧ (∀ x ∈ xs, wf x) ∧ sumOf bulk xs ≤ Rows.uptoBulkAll ((elems.take m).map (·.1)) ∧
        ∀ j p, xs[j]? = some p → ∃ c, c.length = d.sz ∧ d.K W p c ∧ ∀ i u, c[i]? = some u → W.cell? (a.add (j * d.sz + i)) = some u := by
      intro m
      induction m with
      | zero => exact fun _ => ⟨[], rfl, fun _ h => by simp at h, Nat.zero_le _, fun j p h => by simp at h⟩
      | succ m ih =>
        intro hm
        obtain ⟨xs, h1, h2, h3, h4⟩ := ih (by omega)
        have hi := he m (by omega)
        rw [List.getElem?_eq_getElem (by omega : m < elems.length), hsz] at hi
        obtain ⟨c, hcells, ht⟩ := Option.bind_eq_some_iff.1 hi
        obtain ⟨x, hk, hwf, hb0⟩ := hop H enc W n c _ _ ht
        have hb : bulk x ≤ Rows.uptoBulk (elems[m]'(by omega)).1 := hb0
        clear hb0
        have hcl : c.length = d.sz ∧ ∀ i u, c[i]? = some u → W.cell? ((a.add (m * d.sz)).add i) = some u := by
          unfold World.cells? at hcells
          rw [if_pos (Nat.zero_le _)] at hcells
          refine ⟨by simpa using mapM_some_length hcells, fun i u hu => ?_⟩
          have hil : i < d.sz := by
            have := (List.getElem?_eq_some_iff.1 hu).1
            have e := mapM_some_length hcells
            rw [List.length_range] at e
            omega
          have := mapM_some_get hcells i i (by rw [List.getElem?_range hil])
          rw [hu] at this
          exact this
        refine ⟨xs ++ [x], by simp [h1], ?_, ?_, ?_⟩
        · intro y hy
          rcases List.mem_append.1 hy with hy | hy
          · exact h2 y hy
          · rw [List.mem_singleton.1 hy]; exact hwf
        · rw [List.take_succ_eq_append_getElem (by omega), List.map_append, bulkAll_append]
          simp only [sumOf, List.map_append, List.sum_append, List.map_cons, List.map_nil, List.sum_cons, List.sum_nil, Rows.uptoBulkAll] at h3 ⊢
          omega
        · intro j p hj
          rcases Nat.lt_or_ge j xs.length with hlt | hge
          · rw [List.getElem?_append_left hlt] at hj
            exact h4 j p hj
          · rw [List.getElem?_append_right hge] at hj
            have hj0 : j - xs.length = 0 := by
              rcases Nat.eq_zero_or_pos (j - xs.length) with h | h
              · exact h
              · rw [List.getElem?_eq_none (by simp; omega)] at hj; simp at hj
            rw [hj0] at hj
            obtain rfl : x = p := by simpa using hj
            obtain rfl : j = m := by omega
            exact ⟨c, hcl.1, hk, fun i u hu => by have z := hcl.2 i u hu; rw [add_more] at z; exact z⟩
    obtain ⟨xs, h1, h2, h3, h4⟩ := key elems.length (Nat.le_refl _)
    rw [List.take_length] at h3
    refine ⟨xs, ⟨some a, cap, by rw [h1, hel], by omega, ⟨rfl, ?_, fun _ => ⟨a, rfl, h4⟩⟩⟩, ⟨by omega, h2⟩, ?_⟩
    · unfold maxLen at hcm
      omega
    · simp only [Rows.uptoBulk]
      omega
def OpensF {β : Type} (fs : List Field) (off : Nat) (d : Kd β) (wf : β → Prop) (bulk : β → Nat) : Prop :=
  ∀ (H : Type) (enc : TypeId × Value → H) (W : World) (n : Nat) (cs : List Value) (xs : List (DataW H × List MemPlace)), xs.length = fs.length →
    (∀ (i : Nat) (f : Field), fs[i]? = some f → DataW.trod enc Tryz.prog W 0 (fun _ => true) true n f.type ((cs.drop f.offset).take (Tryz.prog.cellsOf f.type)) = xs[i]?) → cs.length = off + d.sz →
    ∃ x, d.K W x (cs.drop off) ∧ wf x ∧ bulk x ≤ Rows.uptoBulkAll (xs.map (·.1))
theorem OpensF.single {α : Type} {f : Field} {off : Nat} {d : Kd α} {wf : α → Prop} {bulk : α → Nat} (ho : f.offset = off) (h : Opens f.type d wf bulk) : OpensF [f] off d wf bulk := by
  intro H enc W n cs xs hl ht hc
  obtain ⟨hsz, hop⟩ := h
  obtain ⟨x0, rfl⟩ : ∃ x0, xs = [x0] := by
    match xs, hl with
    | [x0], _ => exact ⟨x0, rfl⟩
  have h0 := ht 0 f rfl
  rw [ho, hsz, List.take_of_length_le (by rw [List.length_drop]; omega)] at h0
  obtain ⟨x, hk, hw, hb⟩ := hop H enc W n _ _ _ h0
  exact ⟨x, hk, hw, by simpa [Rows.uptoBulkAll] using hb⟩
theorem OpensF.cons {α β : Type} {f : Field} {fs : List Field} {off off' : Nat} {a : Kd α} {b : Kd β} {wf : α → Prop} {bulk : α → Nat} {wf' : β → Prop} {bulk' : β → Nat} (ho : f.offset = off) (ho' : off' = off + a.sz) (h : Opens f.type a wf bulk) (hr : OpensF fs off' b wf' bulk') :
    OpensF (f :: fs) off (Kd.pair a b) (fun x => wf x.1 ∧ wf' x.2) (fun x => bulk x.1 + bulk' x.2) := by
  intro H enc W n cs xs hl ht hc
  subst ho'
  obtain ⟨hsz, hop⟩ := h
  obtain ⟨x0, xs', rfl⟩ : ∃ x0 xs', xs = x0 :: xs' := by
    match xs, hl with
    | x0 :: xs', _ => exact ⟨x0, xs', rfl⟩
  have h0 := ht 0 f rfl
  rw [ho, hsz] at h0
  obtain ⟨x, hk, hw, hb⟩ := hop H enc W n _ _ _ h0
  have hc' : cs.length = off + a.sz + b.sz := by
    have e : (Kd.pair a b).sz = a.sz + b.sz := rfl
    rw [e] at hc
    omega
  obtain ⟨y, hk', hw', hb'⟩ := hr H enc W n cs xs' (by simpa using hl) (fun i g hg => by have := ht (i + 1) g (by simpa using hg); simpa using this) hc'
  refine ⟨(x, y), ⟨(cs.drop off).take a.sz, cs.drop (off + a.sz), ?_, hk, hk'⟩, ⟨hw, hw'⟩, ?_⟩
  · rw [← List.drop_drop, List.take_append_drop]
  · simp only [List.map_cons, Rows.uptoBulkAll]
    omega
theorem opens_struct {α β : Type} {t : TypeId} {fs : Array Field} {d : Kd β} {wf : β → Prop} {bulk : β → Nat} (hu : Tryz.prog.underlying t = some (.struct fs)) (h : OpensF fs.toList 0 d wf bulk) (hc : Tryz.prog.cellsOf t = d.sz) (f : α → β) (g : β → α) (hg : ∀ x, f (g x) = x) :
    Opens t (Kd.iso d f) (fun x => wf (f x)) (fun x => bulk (f x) + 1) := by
  refine ⟨hc, fun H enc W fuel cs dd ps hh => ?_⟩
  obtain ⟨xs, n, rfl, hx, hcl, hlen, ht⟩ := DataW.trod_struct hu hh
  obtain ⟨rfl, rfl⟩ := Prod.mk.inj hx
  obtain ⟨x, hk, hw, hb⟩ := h H enc W n cs xs (by simpa using hlen) (fun i f hf => ht i f (by simpa using hf)) (by omega)
  refine ⟨g x, ?_, ?_, ?_⟩
  · show d.K W (f (g x)) cs
    rw [hg]
    exact hk
  · show wf (f (g x))
    rw [hg]
    exact hw
  · show bulk (f (g x)) + 1 ≤ _
    rw [hg]
    simp only [Rows.uptoBulk]
    omega
theorem glob {W : World} (h : W.ShapedOpen Tryz.prog) : Glob W :=
  cell_of_shapedOpen_int (g := 0) (t := 3) (zero := #[.int .i64 0]) (k := .i64) h (of_decide_eq_true (by kernel_rfl)) (by kernel_rfl) rfl (by kernel_rfl) (by kernel_rfl) Tryz.underlying3
end Rd
end Go.Proofs.YtkoogebfdinbnaaGreat.Q
namespace Go.Proofs.YtkoogebfdinbnaaGreat.Q
open Go.RowKit Go.Proofs.YtkoogebfdinbnaaGreatW.PrintWords Go.Proofs.YtkoogebfdinbnaaGreatW.PrintLast Go.Proofs.YtkoogebfdinbnaaGreatW.Own Go.Proofs.YtkoogebfdinbnaaGreatW.PrintMore
set_option linter.unusedVariables false
set_option linter.unusedSimpArgs false
def wf53 (x : S53) : Prop := (x.f0.size ≤ maxLen ∧ x.f1.size ≤ maxLen)
def bulk53 (x : S53) : Nat := ((x.f0.size + 1) + (x.f1.size + 1)) + 1
theorem opens53 : Rd.Opens 53 k53 wf53 bulk53 := by
  have h := Rd.opens_struct Tryz.underlying53 (show Rd.OpensF _ 0 _ _ _ from (Rd.OpensF.cons (off' := 1) rfl (by kernel_rfl) (Rd.opens_string Tryz.underlying9 (by kernel_rfl)) (Rd.OpensF.single rfl (Rd.opens_string Tryz.underlying9 (by kernel_rfl))))) (by kernel_rfl) (fun x : S53 => (x.f0, x.f1)) (fun x => ⟨x.1, x.2⟩) (fun _ => rfl)
  exact h
def wf45 (x : S45) : Prop := ((Lit.int .i64 x.f0).wf = true ∧ (x.f1.size ≤ maxLen ∧ (x.f2.size ≤ maxLen ∧ ((x.f3.length ≤ maxLen ∧ ∀ x_ ∈ x.f3, wf53 x_) ∧ True))))
def bulk45 (x : S45) : Nat := (1 + ((x.f1.size + 1) + ((x.f2.size + 1) + ((Rd.sumOf (fun x_ => bulk53 x_) x.f3 + 1) + 1)))) + 1
theorem opens45 : Rd.Opens 45 k45 wf45 bulk45 := by
  have h := Rd.opens_struct Tryz.underlying45 (show Rd.OpensF _ 0 _ _ _ from (Rd.OpensF.cons (off' := 1) rfl (by kernel_rfl) (Rd.opens_int Tryz.underlying3 (by kernel_rfl)) (Rd.OpensF.cons (off' := 2) rfl (by kernel_rfl) (Rd.opens_string Tryz.underlying9 (by kernel_rfl)) (Rd.OpensF.cons (off' := 3) rfl (by kernel_rfl) (Rd.opens_string Tryz.underlying9 (by kernel_rfl)) (Rd.OpensF.cons (off' := 4) rfl (by kernel_rfl) (Rd.opens_slice Tryz.underlying30 (by kernel_rfl) opens53) (Rd.OpensF.single rfl (Rd.opens_bool Tryz.underlying4 (by kernel_rfl)))))))) (by kernel_rfl) (fun x : S45 => (x.f0, x.f1, x.f2, x.f3, x.f4)) (fun x => ⟨x.1, x.2.1, x.2.2.1, x.2.2.2.1, x.2.2.2.2⟩) (fun _ => rfl)
  exact h
def wf32 (x : S32) : Prop := ((Lit.int .i64 x.f0).wf = true ∧ (x.f1.size ≤ maxLen ∧ (x.f2.size ≤ maxLen ∧ (x.f3.length ≤ maxLen ∧ ∀ x_ ∈ x.f3, wf53 x_))))
def bulk32 (x : S32) : Nat := (1 + ((x.f1.size + 1) + ((x.f2.size + 1) + (Rd.sumOf (fun x_ => bulk53 x_) x.f3 + 1)))) + 1
theorem opens32 : Rd.Opens 32 k32 wf32 bulk32 := by
  have h := Rd.opens_struct Tryz.underlying32 (show Rd.OpensF _ 0 _ _ _ from (Rd.OpensF.cons (off' := 1) rfl (by kernel_rfl) (Rd.opens_int Tryz.underlying3 (by kernel_rfl)) (Rd.OpensF.cons (off' := 2) rfl (by kernel_rfl) (Rd.opens_string Tryz.underlying9 (by kernel_rfl)) (Rd.OpensF.cons (off' := 3) rfl (by kernel_rfl) (Rd.opens_string Tryz.underlying9 (by kernel_rfl)) (Rd.OpensF.single rfl (Rd.opens_slice Tryz.underlying30 (by kernel_rfl) opens53)))))) (by kernel_rfl) (fun x : S32 => (x.f0, x.f1, x.f2, x.f3)) (fun x => ⟨x.1, x.2.1, x.2.2.1, x.2.2.2⟩) (fun _ => rfl)
  exact h
def a8_.PureUpto : Prop := ∀ (l0 : List (S45)) (a1 : ByteArray) (l2 : List (S32)) (a3 : Int), ((l0.length ≤ maxLen ∧ ∀ x_ ∈ l0, wf45 x_)) → (a1.size ≤ 140737488351232) → ((l2.length ≤ maxLen ∧ ∀ x_ ∈ l2, wf32 x_)) → ((Lit.int .i64 a3).wf = true) → ((Rd.sumOf (fun x_ => bulk45 x_) l0 + 1) + (a1.size + 1) + (Rd.sumOf (fun x_ => bulk32 x_) l2 + 1) + 1 ≤ 1048576) → ∃ k, a8_.f k l0 a1 l2 a3 = some true
end Go.Proofs.YtkoogebfdinbnaaGreat.Q
namespace Go.Proofs.YtkoogebfdinbnaaGreat.Pure
open Go Go.RowKit Go.Proofs.YtkoogebfdinbnaaGreat.Q Go.Proofs.YtkoogebfdinbnaaGreatW.PrintWords
set_option linter.unusedSimpArgs false
set_option linter.unusedVariables false
theorem attrs_few : ∀ (n : Nat) (nm : List UInt8) (ys : List S53) (l : List UInt8) (t : S45) (r : List UInt8), Tk.attrs n nm ys l = some (t, r) → t.f3.length + r.length ≤ ys.length + l.length
  | 0, _, _, _, _, _, h => by simp [Tk.attrs] at h
  | n + 1, nm, ys, l, t, r, h => by
    rw [Tk.attrs] at h
    (try dsimp only at h)
    have hs := skip_len l
    cases h1 : Tk.behind [62] (Tk.skip l) with
    | some q =>
      rw [h1] at h
      obtain ⟨rfl, rfl⟩ := Prod.mk.inj (Option.some.inj h)
      have := cM_ h1
      show ys.length + _ ≤ _
      omega
    | none =>
      rw [h1] at h
      (try dsimp only at h)
      cases h2 : Tk.behind [47, 62] (Tk.skip l) with
      | some q =>
        rw [h2] at h
        obtain ⟨rfl, rfl⟩ := Prod.mk.inj (Option.some.inj h)
        have := cM_ h2
        show ys.length + _ ≤ _
        omega
      | none =>
        rw [h2] at h
        (try dsimp only at h)
        split at h
        · cases h
        · obtain ⟨⟨x, q⟩, h3, h⟩ := Option.bind_eq_some_iff.1 h
          (try dsimp only at h)
          split at h
          · cases h
          · have h5 := attrs_few n nm _ q t r h
            have h6 := attr_len h3
            rw [List.length_append, List.length_singleton] at h5
            omega
theorem attrs_text : ∀ (n : Nat) (nm : List UInt8) (ys : List S53) (l : List UInt8) (t : S45) (r : List UInt8), Tk.attrs n nm ys l = some (t, r) → t.f2.size = 0
  | 0, _, _, _, _, _, h => by simp [Tk.attrs] at h
  | n + 1, nm, ys, l, t, r, h => by
    rw [Tk.attrs] at h
    (try dsimp only at h)
    cases h1 : Tk.behind [62] (Tk.skip l) with
    | some q =>
      rw [h1] at h
      obtain ⟨rfl, rfl⟩ := Prod.mk.inj (Option.some.inj h)
      rfl
    | none =>
      rw [h1] at h
      (try dsimp only at h)
      cases h2 : Tk.behind [47, 62] (Tk.skip l) with
      | some q =>
        rw [h2] at h
        obtain ⟨rfl, rfl⟩ := Prod.mk.inj (Option.some.inj h)
        rfl
      | none =>
        rw [h2] at h
        (try dsimp only at h)
        split at h
        · cases h
        · obtain ⟨⟨x, q⟩, h3, h⟩ := Option.bind_eq_some_iff.1 h
          (try dsimp only at h)
          split at h
          · cases h
          · exact attrs_text n nm _ q t r h
theorem ents_len : ∀ (n : Nat) (l t : List UInt8), Tk.ents n l = some t → t.length ≤ 4 * l.length
  | 0, _, _, h => by simp [Tk.ents] at h
  | n + 1, l, t, h => by
    rw [Tk.ents] at h
    cases h1 : Tk.upto [38] l with
    | none =>
      rw [h1] at h
      obtain rfl := Option.some.inj h
      omega
    | some p =>
      obtain ⟨a, b⟩ := p
      rw [h1] at h
      (try dsimp only at h)
      cases h2 : Tk.upto [59] b with
      | none => rw [h2] at h; cases h
      | some q =>
        obtain ⟨nm, r⟩ := q
        rw [h2] at h
        (try dsimp only at h)
        obtain ⟨c, h3, h⟩ := Option.bind_eq_some_iff.1 h
        obtain ⟨u, h4, h⟩ := Option.map_eq_some_iff.1 h
        subst h
        have e1 := eA_ h1
        have e2 := eA_ h2
        have e3 := entity_len h3
        have e4 := ents_len n r u h4
        rw [List.length_append, List.length_append]
        simp only [List.length_cons, List.length_nil] at e1 e2
        omega
theorem next_few {fst : Bool} {l r : List UInt8} {t : S45} (h : Tk.next fst l = some (t, r)) : t.f3.length ≤ l.length ∧ t.f2.size ≤ 4 * l.length := by
  unfold Tk.next at h
  cases h1 : Tk.behind [60, 33, 45, 45] l with
  | some q =>
    rw [h1] at h
    unfold Tk.comment at h
    obtain ⟨⟨a, b⟩, h2, h⟩ := Option.bind_eq_some_iff.1 h
    (try dsimp only at h)
    split at h
    · cases h
    · obtain ⟨rfl, _⟩ := Prod.mk.inj (Option.some.inj h)
      exact ⟨Nat.zero_le _, by have e1 := (dK_ h2).1; have e2 := cM_ h1; show (Tk.bs a).size ≤ _; rw [bV_]; omega⟩
  | none =>
  rw [h1] at h
  (try dsimp only at h)
  cases h1 : Tk.behind [60, 33, 91, 67, 68, 65, 84, 65, 91] l with
  | some q =>
    rw [h1] at h
    obtain ⟨⟨a, b⟩, h2, h⟩ := Option.map_eq_some_iff.1 (show (Tk.upto [93, 93, 62] q).map _ = some (t, r) from h)
    obtain ⟨rfl, _⟩ := Prod.mk.inj h
    exact ⟨Nat.zero_le _, by have e1 := (dK_ h2).1; have e2 := cM_ h1; show (Tk.bs a).size ≤ _; rw [bV_]; omega⟩
  | none =>
  rw [h1] at h
  (try dsimp only at h)
  cases h1 : Tk.behind [60, 63] l with
  | some q =>
    rw [h1] at h
    obtain ⟨⟨a, b⟩, h2, h⟩ := Option.bind_eq_some_iff.1 (show (Tk.upto [63, 62] q).bind _ = some (t, r) from h)
    (try dsimp only at h)
    split at h
    · obtain ⟨rfl, _⟩ := Prod.mk.inj (Option.some.inj h)
      exact ⟨Nat.zero_le _, by have e1 := (dK_ h2).1; have e2 := cM_ h1; show (Tk.bs a).size ≤ _; rw [bV_]; omega⟩
    · cases h
  | none =>
  rw [h1] at h
  (try dsimp only at h)
  cases h1 : Tk.behind [60, 47] l with
  | some q =>
    rw [h1] at h
    (try dsimp only at h)
    unfold Tk.close at h
    split at h
    · cases h
    · obtain ⟨b, h2, h⟩ := Option.map_eq_some_iff.1 h
      obtain ⟨rfl, _⟩ := Prod.mk.inj h
      exact ⟨Nat.zero_le _, Nat.zero_le _⟩
  | none =>
  rw [h1] at h
  (try dsimp only at h)
  cases h1 : Tk.behind [60] l with
  | some q =>
    rw [h1] at h
    have e := behind_sum h1
    (try dsimp only at h)
    unfold Tk.opening at h
    split at h
    · cases h
    · have e2 := attrs_few _ _ _ _ _ _ h
      rw [List.length_drop] at e2
      have e3 := attrs_text _ _ _ _ _ _ h
      simp only [List.length_cons, List.length_nil] at e e2
      exact ⟨by omega, by omega⟩
  | none =>
  rw [h1] at h
  (try dsimp only at h)
  unfold Tk.text at h
  (try dsimp only at h)
  obtain ⟨x, hx, h⟩ := Option.map_eq_some_iff.1 h
  obtain ⟨rfl, _⟩ := Prod.mk.inj h
  refine ⟨Nat.zero_le _, ?_⟩
  have e1 := ents_len _ _ _ hx
  have e2 : (l.takeWhile (· != 60)).length ≤ l.length := (List.takeWhile_sublist _).length_le
  show (Tk.bs x).size ≤ _
  rw [bV_]
  omega
theorem pieces_few : ∀ (n : Nat) (fst : Bool) (l : List UInt8) (ts : List S45), Tk.pieces n fst l = some ts → ts.length ≤ l.length ∧ ∀ t ∈ ts, t.f3.length ≤ l.length ∧ t.f2.size ≤ 4 * l.length
  | 0, _, _, _, h => by simp [Tk.pieces] at h
  | n + 1, fst, l, ts, h => by
    rw [Tk.pieces] at h
    by_cases hl : l = []
    · rw [if_pos hl] at h
      obtain rfl := Option.some.inj h
      exact ⟨Nat.zero_le _, fun t ht => absurd ht (by simp)⟩
    · rw [if_neg hl] at h
      obtain ⟨⟨t, r⟩, h1, h⟩ := Option.bind_eq_some_iff.1 h
      obtain ⟨us, h2, h⟩ := Option.map_eq_some_iff.1 h
      subst h
      have e1 := next_len hl h1
      have e2 := next_few h1
      obtain ⟨e3, e4⟩ := pieces_few n false r us h2
      refine ⟨by rw [List.length_cons]; omega, fun x hx => ?_⟩
      rcases List.mem_cons.1 hx with rfl | hx
      · exact e2
      · have := e4 x hx
        omega
theorem split_few (l : List UInt8) : (Tk.split l).1.length ≤ l.length ∧ ∀ t ∈ (Tk.split l).1, t.f3.length ≤ l.length ∧ t.f2.size ≤ 4 * l.length := by
  unfold Tk.split
  by_cases h1 : 20000 < l.length
  · rw [if_pos h1]; exact ⟨Nat.zero_le _, fun t ht => absurd ht (by simp)⟩
  · rw [if_neg h1]
    by_cases h2 : l.any (fun c => !Tk.allowed c) = true
    · rw [if_pos h2]; exact ⟨Nat.zero_le _, fun t ht => absurd ht (by simp)⟩
    · rw [if_neg h2]
      cases hp : Tk.pieces (l.length + 1) true l with
      | none => exact ⟨Nat.zero_le _, fun t ht => absurd ht (by simp)⟩
      | some ts => exact pieces_few _ _ _ _ hp
theorem sum_le (ts : List S45) (m : Nat) (h : ∀ t ∈ ts, t.f2.size ≤ m) : (ts.map fun t => t.f2.size).sum ≤ ts.length * m := by
  induction ts with
  | nil => simp
  | cons t ts ih =>
    rw [List.map_cons, List.sum_cons, List.length_cons, Nat.succ_mul]
    have h1 := h t List.mem_cons_self
    have h2 := ih (fun x hx => h x (List.mem_cons_of_mem _ hx))
    omega
theorem split_fits (l : List UInt8) (hl : l.length ≤ 5000) : El.fits (Tk.split l).1 = true := by
  obtain ⟨h1, h2⟩ := split_few l
  have h3 := sum_le (Tk.split l).1 20000 (fun t ht => by have := (h2 t ht).2; omega)
  unfold El.fits
  rw [Bool.and_eq_true, Bool.and_eq_true]
  refine ⟨⟨decide_eq_true (Nat.le_trans h3 (by omega)), ?_⟩, decide_eq_true (by omega)⟩
  rw [List.all_eq_true]
  intro t ht
  have := (h2 t ht).1
  exact decide_eq_true (by omega)
def parseL (l : List UInt8) : List S32 × Int := if (Tk.split l).2 = 0 then El.tree (Tk.split l).1 else ([], (Tk.split l).2)
theorem parse_told (a : ByteArray) (ha : a.size ≤ 5000) : cR_.f a = some (parseL a.data.toList) := by
  have hz := bV_ a.data.toList
  rw [bs_data] at hz
  unfold cR_.f
  have hs : cB_.f a = some (Tk.split a.data.toList) := by
    unfold cB_.f
    rw [if_pos (by omega)]
  rw [hs, Option.bind_some]
  unfold parseL
  split
  · have ht : cQ_.f (Tk.split a.data.toList).1 = some (El.tree (Tk.split a.data.toList).1) := by
      unfold cQ_.f
      rw [if_pos (split_fits _ (by omega))]
    rw [ht]; rfl
  · rfl
abbrev Nd := S32
theorem inner_nil : El.inner [] = -1 := rfl
theorem dT_ {op : List Int} (h : op ≠ []) : El.inner op ∈ op := by
  unfold El.inner
  cases hx : op.getLast? with
  | none => exact absurd (List.getLast?_eq_none_iff.1 hx) h
  | some x => exact List.mem_of_getLast? hx
theorem put_some {l l' : List Nd} {op : List Int} {nm tx : ByteArray} {at_ : List El.Att} (h : El.put l op nm tx at_ = some l') : l' = l ++ [⟨El.inner op, nm, tx, at_⟩] ∧ l.length < 2000 := by
  unfold El.put at h
  split at h
  · rename_i hl
    injection h with h
    exact ⟨h.symm, hl⟩
  · cases h
theorem take_len {l : List Nd} {op : List Int} (h : l.length ≤ 2000) (t : El.Tok) (s : El.St) (ht : El.take l op t = .ok s) : s.1.length ≤ 2000 := by
  have putd : ∀ (nm tx : ByteArray) (at_ : List El.Att) (l' : List Nd), El.put l op nm tx at_ = some l' → l'.length ≤ 2000 := by
    intro nm tx at_ l' hp
    obtain ⟨e, hl⟩ := put_some hp
    rw [e, List.length_append, List.length_singleton]
    omega
  unfold El.take at ht
  split at ht
  · injection ht with ht; rw [← ht]; exact h
  split at ht
  · injection ht with ht; rw [← ht]; exact h
  split at ht
  · unfold El.begin_ at ht
    split at ht
    · cases ht
    split at ht
    · cases ht
    split at ht
    · cases ht
    split at ht
    · cases ht
    · rename_i l' hp
      injection ht with ht
      rw [← ht]
      exact putd _ _ _ _ hp
  split at ht
  · unfold El.end_ at ht
    split at ht
    · cases ht
    split at ht
    · injection ht with ht; rw [← ht]; exact h
    · cases ht
  split at ht
  · unfold El.text at ht
    split at ht
    · split at ht
      · injection ht with ht; rw [← ht]; exact h
      · cases ht
    split at ht
    · injection ht with ht; rw [← ht]; exact h
    split at ht
    · split at ht
      · injection ht with ht
        rw [← ht, List.length_set]
        exact h
      · split at ht
        · cases ht
        · rename_i l' hp
          injection ht with ht
          rw [← ht]
          exact putd _ _ _ _ hp
    · split at ht
      · cases ht
      · rename_i l' hp
        injection ht with ht
        rw [← ht]
        exact putd _ _ _ _ hp
  · cases ht
theorem all_len : ∀ (ts : List El.Tok) (l : List Nd) (op : List Int) (s : El.St), l.length ≤ 2000 → El.all l op ts = .ok s → s.1.length ≤ 2000
  | [], l, op, s, h, ha => by
    injection ha with ha
    rw [← ha]; exact h
  | t :: ts, l, op, s, h, ha => by
    rw [El.all] at ha
    cases ht : El.take l op t with
    | error e => rw [ht] at ha; cases ha
    | ok s1 =>
      rw [ht] at ha
      exact all_len ts s1.1 s1.2 s (take_len h t s1 ht) ha
end Go.Proofs.YtkoogebfdinbnaaGreat.Pure
namespace Go.Proofs.YtkoogebfdinbnaaGreat.Pure
open Go Go.RowKit Go.Proofs.YtkoogebfdinbnaaGreat.Q Go.Proofs.YtkoogebfdinbnaaGreatW.PrintWords Go.Proofs.YtkoogebfdinbnaaGreatW.PrintLast Go.Proofs.YtkoogebfdinbnaaGreatW.Own Go.Proofs.YtkoogebfdinbnaaGreatW.PrintMore
set_option linter.unusedSimpArgs false
set_option linter.unusedVariables false
def Ans {α : Type} (f : Nat → Option α) (v : α) : Prop := ∃ K, ∀ k, K ≤ k → f k = some v
theorem Ans.now {α : Type} {f : Nat → Option α} {v : α} (h : ∀ k, f k = some v) : Ans f v := ⟨0, fun k _ => h k⟩
theorem Ans.succ {α : Type} {f g : Nat → Option α} {v : α} (h : Ans g v) (e : ∀ k, f (k + 1) = g k) : Ans f v := by
  obtain ⟨K, h⟩ := h
  refine ⟨K + 1, fun k hk => ?_⟩
  obtain ⟨j, rfl⟩ : ∃ j, k = j + 1 := ⟨k - 1, by omega⟩
  rw [e, h j (by omega)]
theorem Ans.bind {α β : Type} {f : Nat → Option α} {g : Nat → α → Option β} {v : α} {u : β} (h : Ans f v) (h2 : Ans (fun k => g k v) u) : Ans (fun k => (f k).bind (g k)) u := by
  obtain ⟨K, h⟩ := h
  obtain ⟨K2, h2⟩ := h2
  exact ⟨max K K2, fun k hk => by show (f k).bind (g k) = _; rw [h k (by omega), Option.bind_some]; exact h2 k (by omega)⟩
theorem Ans.there {α : Type} {f : Nat → Option α} {v : α} (h : Ans f v) : ∃ k, f k = some v := ⟨h.choose, h.choose_spec _ (Nat.le_refl _)⟩
theorem awake_6 : bU_.f 6 = some true := by kernel_rfl
theorem awake_ge (k : Nat) (h : 6 ≤ k) : bU_.f k = some true := by
  obtain ⟨j, rfl⟩ := Nat.exists_eq_add_of_le h
  clear h
  induction j with
  | zero => exact awake_6
  | succ j ih => exact bU_.mono _ _ ih
theorem awake_ans : Ans (fun k => bU_.f k) true := ⟨6, awake_ge⟩
theorem awake_told : Ans (fun k => (bU_.f k).bind fun t => some t) true := Ans.bind awake_ans (Ans.now fun _ => rfl)
theorem w1 (i : Nat) (h : i < 1000000000) : wrap64 ((i : Int) + 1) = ((i + 1 : Nat) : Int) := by unfold wrap64; omega
def kidsF : Nat → List Nd → Int → List Int
  | _, [], _ => []
  | j, n :: r, p => if n.f0 = p then (j : Int) :: kidsF (j + 1) r p else kidsF (j + 1) r p
theorem kidsF_len : ∀ (l : List Nd) (j : Nat) (p : Int), (kidsF j l p).length = l.countP (fun n => decide (n.f0 = p))
  | [], _, _ => rfl
  | n :: r, j, p => by
    rw [kidsF, List.countP_cons]
    have ih := kidsF_len r (j + 1) p
    by_cases h : n.f0 = p
    · rw [if_pos h, List.length_cons, ih, decide_eq_true h]; rfl
    · rw [if_neg h, ih, decide_eq_false h]; rfl
theorem kidsF_mem : ∀ (l : List Nd) (j : Nat) (p x : Int), x ∈ kidsF j l p → ∃ i : Nat, x = ((j + i : Nat) : Int) ∧ ∃ n, l[i]? = some n ∧ n.f0 = p
  | [], _, _, _, h => absurd h (by simp [kidsF])
  | n :: r, j, p, x, h => by
    rw [kidsF] at h
    by_cases hp : n.f0 = p
    · rw [if_pos hp] at h
      rcases List.mem_cons.1 h with h | h
      · exact ⟨0, by simpa using h, n, rfl, hp⟩
      · obtain ⟨i, e, m, hm, hq⟩ := kidsF_mem r (j + 1) p x h
        exact ⟨i + 1, by rw [e]; omega, m, hm, hq⟩
    · rw [if_neg hp] at h
      obtain ⟨i, e, m, hm, hq⟩ := kidsF_mem r (j + 1) p x h
      exact ⟨i + 1, by rw [e]; omega, m, hm, hq⟩
def kidsL (l : List Nd) (i : Int) : List Int := if 0 ≤ i ∧ i < (l.length : Int) then kidsF 0 l i else []
theorem rd_nd (l : List Nd) (i : Nat) (h : i < l.length) : bD_ l (i : Int) = l[i] := by
  simp [bD_, List.getD, h]
theorem kids_loop (l : List Nd) (hl : l.length ≤ 100000) (i : Int) : ∀ (d j : Nat) (acc : List Int), j + d = l.length → acc.length ≤ j →
    Ans (fun k => bJ_.l0 k l i acc l (l.length : Int) (j : Int)) (acc ++ (if 0 ≤ i ∧ i < (l.length : Int) then kidsF j (l.drop j) i else [])) := by
  intro d
  induction d with
  | zero =>
    intro j acc h _
    refine Ans.succ (g := fun _ => some (acc ++ (if 0 ≤ i ∧ i < (l.length : Int) then kidsF j (l.drop j) i else []))) (Ans.now fun _ => rfl) fun k => ?_
    rw [bJ_.l0, if_neg (by omega), List.drop_eq_nil_of_le (by omega)]
    simp [kidsF]
  | succ d ih =>
    intro j acc h hacc
    have hj : j < l.length := by omega
    have hd : l.drop j = l[j] :: l.drop (j + 1) := List.drop_eq_getElem_cons hj
    rw [hd, kidsF]
    by_cases hp : l[j].f0 = i
    · by_cases h0 : 0 ≤ i ∧ i < (l.length : Int)
      · have := ih (j + 1) (acc ++ [(j : Int)]) (by omega) (by rw [List.length_append, List.length_singleton]; omega)
        rw [if_pos h0] at this ⊢
        rw [if_pos hp]
        rw [List.append_assoc] at this
        refine Ans.succ this fun k => ?_
        rw [bJ_.l0, if_pos (by omega), if_pos (by omega), if_pos (by omega), rd_nd l j hj, if_pos hp, if_pos (by omega), if_pos (by omega), if_pos (by omega), w1 j (by omega)]
      · have := ih (j + 1) acc (by omega) (by omega)
        rw [if_neg h0] at this ⊢
        refine Ans.succ this fun k => ?_
        rw [bJ_.l0, if_pos (by omega), if_pos (by omega), if_pos (by omega), rd_nd l j hj, if_pos hp]
        by_cases ha : i ≥ 0
        · rw [if_pos ha, if_neg (by omega), w1 j (by omega)]
        · rw [if_neg ha, w1 j (by omega)]
    · have := ih (j + 1) acc (by omega) (by omega)
      rw [if_neg hp]
      refine Ans.succ this fun k => ?_
      rw [bJ_.l0, if_pos (by omega), if_pos (by omega), if_pos (by omega), rd_nd l j hj, if_neg hp, w1 j (by omega)]
theorem kids_told (l : List Nd) (hl : l.length ≤ 100000) (i : Int) : Ans (fun k => bJ_.f k l i) (kidsL l i) := by
  have := kids_loop l hl i l.length 0 [] (by omega) (by simp)
  rw [List.nil_append, List.drop_zero] at this
  exact this
end Go.Proofs.YtkoogebfdinbnaaGreat.Pure
