/- Texts put together: what functions of the program compute, and plain words about them. -/
import Derived.Test.YtomkimifooddpaaLawPropsManyM1
import Derived.Test.YtomkimifooddpaaLawPropsManyM2
import Derived.Test.YtomkimifooddpaaProg
import Derived.Test.YtomkimifooddpaaRows
import Derived.ChangeArms
import Derived.Deep.DeepHandedRow
import Derived.Shelf.Vars
import Derived.Below
import Derived.Deep.Draws
import Derived.Deep.AppendLies
import Derived.Maps.AppendAt
import Derived.OwnWalk
import Derived.Laws.BytesArg
import Derived.Laws.MakeOwn
import Derived.Laws.OwnMore
import Derived.Deep.OwnRows
import Derived.Tactics
import Derived.Lib.ConvBytes
import Derived.Laws.Slices
import Derived.WalkKit
import Derived.KernelRfl
import Derived.RowKit3
import Derived.Deep.LoopGhost
import Derived.Deep.QuietTactic
import Derived.BigQuiet
import Derived.WideLaws
import Derived.Deep.DeepCutAuto
import Derived.Deep.CutBlock
import Derived.Deep.RegionHeld3
import Derived.Laws.Rows
import Derived.Lib.AppendStr
import Derived.ArgAppend
import Derived.Laws.IdiomCopy
import Derived.OrdersHeld
import Derived.Laws.BitsLemmas
import Derived.RowKit
namespace Go.Proofs.Ytomkimifooddpaa.Q
open Go.RowKit Go.Proofs.YtomkimifooddpaaW.PrintWords Go.Proofs.YtomkimifooddpaaW.PrintLast Go.Proofs.YtomkimifooddpaaW.Own Go.Proofs.YtomkimifooddpaaW.PrintMore
attribute [local go_sem] max2_int min2_int max_two min_two max_three min_three max_four min_four   -- for this text's walks alone
set_option linter.unusedVariables false
set_option linter.unusedSimpArgs false
set_option maxHeartbeats 20000000
set_option maxRecDepth 100000
def newellaw16_awake.f (k : Nat)  : Option (Bool) := (newellaw16_name.f (⟨#[98]⟩ : ByteArray)).bind fun t127 => (if 1 + t127.size ≤ 9223372036854775807 then ((newellaw16_name.f (⟨#[97]⟩ : ByteArray)).bind fun t131 => ((props_Value.f k (([(⟨(⟨#[97]⟩ : ByteArray), (⟨#[120]⟩ : ByteArray) ++ t127⟩ : S27), (⟨(⟨#[98]⟩ : ByteArray), (⟨#[121]⟩ : ByteArray)⟩ : S27)] : List (S27))) t131).bind fun bt132 => (if bt132.2 = 0 then (some (bt132.1.toList == ([120, 121] : List UInt8))) else (some false)))) else (none))
theorem newellaw16_awake.calls (k : Nat)  (r : Bool) (w : World) (hG : Glob w) (h : newellaw16_awake.f k  = some r) :
 Calls Try.prog 12 #[] w fun e w' => e = .returned (.bool r) ∧ Below w.heap.size w w' := by
 have hu27 := Try.underlying27
 have HG := Aside0.mk hG
 clear hG
 have HB := Aside0.mk (Below.refl w.heap.size w)
 have H : ((newellaw16_name.f (⟨#[98]⟩ : ByteArray)).bind fun t127 => (if 1 + t127.size ≤ 9223372036854775807 then ((newellaw16_name.f (⟨#[97]⟩ : ByteArray)).bind fun t131 => ((props_Value.f k (([(⟨(⟨#[97]⟩ : ByteArray), (⟨#[120]⟩ : ByteArray) ++ t127⟩ : S27), (⟨(⟨#[98]⟩ : ByteArray), (⟨#[121]⟩ : ByteArray)⟩ : S27)] : List (S27))) t131).bind fun bt132 => (if bt132.2 = 0 then (some (bt132.1.toList == ([120, 121] : List UInt8))) else (some false)))) else (none))) = some r := h
 clear h
 replace H := bi H
 obtain ⟨t127, A10, H⟩ := H
 try dsimp only at H
 have A1 := Aside0.mk A10
 clear A10
 by_cases c2 : 1 + t127.size ≤ 9223372036854775807
 rotate_left
 ·rw [if_neg c2] at H
  exact absurd H (by simp)
 rw [if_pos c2] at H
 have c2b0 := eq_true c2
 have c2b1 := dT c2
 try have c2b2 : (9223372036854775807 < 1 + t127.size) = False := eq_false (Nat.not_lt.2 c2)
 obtain ⟨y128, hy128⟩ : ∃ y_ : List (S27), y_ = (([(⟨(⟨#[97]⟩ : ByteArray), (⟨#[120]⟩ : ByteArray) ++ t127⟩ : S27), (⟨(⟨#[98]⟩ : ByteArray), (⟨#[121]⟩ : ByteArray)⟩ : S27)] : List (S27))) := ⟨_, rfl⟩
 replace H : ((newellaw16_name.f (⟨#[97]⟩ : ByteArray)).bind fun t131 => ((props_Value.f k y128 t131).bind fun bt132 => (if bt132.2 = 0 then (some (bt132.1.toList == ([120, 121] : List UInt8))) else (some false)))) = some r := by first | (rw [hy128]; with_reducible exact H) | (have H2_ := (Option.bind_some _ _).symm.trans H; rw [hy128]; with_reducible exact H2_) | (have H2_ := (Option.bind_some _ _).symm.trans H; with_reducible exact H2_) | with_reducible exact H | (rw [hy128]; exact H) | exact H
 have Ny128 := Aside0.mk hy128
 clear hy128
 replace H := bi H
 obtain ⟨t131, A30, H⟩ := H
 try dsimp only at H
 have A3 := Aside0.mk A30
 clear A30
 replace H := bi H
 obtain ⟨⟨t132, t133⟩, A40, H⟩ := H
 try dsimp only at H
 have A4 := Aside0.mk A40
 clear A40
 by_cases c5 : t133 = 0
 rotate_left
 ·rw [if_neg c5] at H
  obtain ⟨c5b0, c5b1⟩ := eqF c5
  obtain rfl := Option.some.inj H
  go_enter Try.func12, Try.ntmps12
  go_wp2_with (first | (refine gl (some 4) Try.func10 #[.string (⟨#[98]⟩ : ByteArray)] ?_; (with_reducible refine (newellaw16_name.calls (⟨#[98]⟩ : ByteArray) t127 _ (gS HG) A1.out).mono ?_); rintro e w' ⟨rfl, ⟨nd, rfl⟩⟩; refine ⟨_, rfl, ?_⟩) | ((with_reducible refine gate_dst (N := 8) rfl ?_); refine Kd.R_lit k27 _ 27 ?hg (N := 8) ?hd (xs := ([(⟨(⟨#[97]⟩ : ByteArray), (⟨#[120]⟩ : ByteArray) ++ t127⟩ : S27), (⟨(⟨#[98]⟩ : ByteArray), (⟨#[121]⟩ : ByteArray)⟩ : S27)] : List (S27))) (inner := [.string (⟨#[97]⟩ : ByteArray), .string ((⟨#[120]⟩ : ByteArray) ++ t127), .string (⟨#[98]⟩ : ByteArray), .string (⟨#[121]⟩ : ByteArray)]) (ok := fun _ => True) (okp := fun _ => True) ?hr ?hp (fun _ hk => hk) trivial (Below.refl _ _) (Nat.le_refl _) (by simp) ?_; (case hd => rfl); (case hg => rfl); (case hr => first | (go_simp; done) | (go_simp; rfl)); (case hp => exact (Reps.c2 (show Kd.M k27 _ _ _ (⟨(⟨#[97]⟩ : ByteArray), (⟨#[120]⟩ : ByteArray) ++ t127⟩ : S27) [.string (⟨#[97]⟩ : ByteArray), .string ((⟨#[120]⟩ : ByteArray) ++ t127)] from (k27_mkM _ _ _ (⟨(⟨#[97]⟩ : ByteArray), (⟨#[120]⟩ : ByteArray) ++ t127⟩ : S27) )) (Reps.c2 (show Kd.M k27 _ _ _ (⟨(⟨#[98]⟩ : ByteArray), (⟨#[121]⟩ : ByteArray)⟩ : S27) [.string (⟨#[98]⟩ : ByteArray), .string (⟨#[121]⟩ : ByteArray)] from (k27_mkM _ _ _ (⟨(⟨#[98]⟩ : ByteArray), (⟨#[121]⟩ : ByteArray)⟩ : S27) )) (Reps.none _ _)))); intro v129 w10 ho11 hb hg_ hnew_; clear hg_ hnew_; (first | rw [← Ny128.out] at ho11 | (simp only [Int.reduceToNat] at ho11; rw [← Ny128.out] at ho11)); have HO130 := Aside0.mk (Kd.R_lower ho11 (below_size bE)); replace HB := sB hb; clear hb ho11) | (refine gl (some 9) Try.func10 #[.string (⟨#[97]⟩ : ByteArray)] ?_; (with_reducible refine (newellaw16_name.calls (⟨#[97]⟩ : ByteArray) t131 _ (gS HG) A3.out).mono ?_); rintro e w' ⟨rfl, ⟨nd, rfl⟩⟩; refine ⟨_, rfl, ?_⟩; obtain ⟨Ao12, co12, eo12⟩ := Kd.R_slice HO130.out; subst eo12) | (refine gl (some 10) Try.func11 #[.slice Ao12 y128.length co12, .string t131] ?_; (with_reducible refine (props_Value.calls k _ _ y128 t131 t132 t133 _ ?side1 ?side2 (gS HG) A4.out).mono ?_); (case side1 => repeat (first | exact (Kd.R_reads' HO130.out).2.2 | (with_reducible refine Kd.C_alloc ?_ _) | (with_reducible refine Kd.C_drewN ?_ _) | (with_reducible refine Kd.C_drew ?_))); (case side2 => exact (Kd.R_reads' HO130.out).2.1); rintro e w13 ⟨rfl, hb⟩; refine ⟨_, rfl, ?_⟩; replace HO130 := rB HO130 hb; replace HB := sB hb; (try clear hb)))
  go_ret
  exact ⟨eA, bE⟩
 rw [if_pos c5] at H
 obtain ⟨c5b0, c5b1⟩ := eqT c5
 clear c5
 obtain rfl := Option.some.inj H
 go_enter Try.func12, Try.ntmps12
 go_wp2_with (first | (refine gl (some 4) Try.func10 #[.string (⟨#[98]⟩ : ByteArray)] ?_; (with_reducible refine (newellaw16_name.calls (⟨#[98]⟩ : ByteArray) t127 _ (gS HG) A1.out).mono ?_); rintro e w' ⟨rfl, ⟨nd, rfl⟩⟩; refine ⟨_, rfl, ?_⟩) | ((with_reducible refine gate_dst (N := 8) rfl ?_); refine Kd.R_lit k27 _ 27 ?hg (N := 8) ?hd (xs := ([(⟨(⟨#[97]⟩ : ByteArray), (⟨#[120]⟩ : ByteArray) ++ t127⟩ : S27), (⟨(⟨#[98]⟩ : ByteArray), (⟨#[121]⟩ : ByteArray)⟩ : S27)] : List (S27))) (inner := [.string (⟨#[97]⟩ : ByteArray), .string ((⟨#[120]⟩ : ByteArray) ++ t127), .string (⟨#[98]⟩ : ByteArray), .string (⟨#[121]⟩ : ByteArray)]) (ok := fun _ => True) (okp := fun _ => True) ?hr ?hp (fun _ hk => hk) trivial (Below.refl _ _) (Nat.le_refl _) (by simp) ?_; (case hd => rfl); (case hg => rfl); (case hr => first | (go_simp; done) | (go_simp; rfl)); (case hp => exact (Reps.c2 (show Kd.M k27 _ _ _ (⟨(⟨#[97]⟩ : ByteArray), (⟨#[120]⟩ : ByteArray) ++ t127⟩ : S27) [.string (⟨#[97]⟩ : ByteArray), .string ((⟨#[120]⟩ : ByteArray) ++ t127)] from (k27_mkM _ _ _ (⟨(⟨#[97]⟩ : ByteArray), (⟨#[120]⟩ : ByteArray) ++ t127⟩ : S27) )) (Reps.c2 (show Kd.M k27 _ _ _ (⟨(⟨#[98]⟩ : ByteArray), (⟨#[121]⟩ : ByteArray)⟩ : S27) [.string (⟨#[98]⟩ : ByteArray), .string (⟨#[121]⟩ : ByteArray)] from (k27_mkM _ _ _ (⟨(⟨#[98]⟩ : ByteArray), (⟨#[121]⟩ : ByteArray)⟩ : S27) )) (Reps.none _ _)))); intro v129 w6 ho7 hb hg_ hnew_; clear hg_ hnew_; (first | rw [← Ny128.out] at ho7 | (simp only [Int.reduceToNat] at ho7; rw [← Ny128.out] at ho7)); have HO130 := Aside0.mk (Kd.R_lower ho7 (below_size bE)); replace HB := sB hb; clear hb ho7) | (refine gl (some 9) Try.func10 #[.string (⟨#[97]⟩ : ByteArray)] ?_; (with_reducible refine (newellaw16_name.calls (⟨#[97]⟩ : ByteArray) t131 _ (gS HG) A3.out).mono ?_); rintro e w' ⟨rfl, ⟨nd, rfl⟩⟩; refine ⟨_, rfl, ?_⟩; obtain ⟨Ao8, co8, eo8⟩ := Kd.R_slice HO130.out; subst eo8) | (refine gl (some 10) Try.func11 #[.slice Ao8 y128.length co8, .string t131] ?_; (with_reducible refine (props_Value.calls k _ _ y128 t131 t132 t133 _ ?side1 ?side2 (gS HG) A4.out).mono ?_); (case side1 => repeat (first | exact (Kd.R_reads' HO130.out).2.2 | (with_reducible refine Kd.C_alloc ?_ _) | (with_reducible refine Kd.C_drewN ?_ _) | (with_reducible refine Kd.C_drew ?_))); (case side2 => exact (Kd.R_reads' HO130.out).2.1); rintro e w9 ⟨rfl, hb⟩; refine ⟨_, rfl, ?_⟩; replace HO130 := rB HO130 hb; replace HB := sB hb; (try clear hb)))
 go_ret
 exact ⟨eA, bE⟩
def newelhelp_Digits.f : Nat → Int → Option (ByteArray)
 | 0, _ => none
 | k + 1, a0 => if a0 < 10 then (some (strOfNums (([(wrap64 (48 + a0)) % 256] : List Int)))) else ((newelhelp_Digits.f k (wrap64 (Int.tdiv a0 10))).bind fun t104 => ((some (([(wrap64 (48 + (Int.tmod a0 10))) % 256] : List Int) : List Int)).bind fun y105 => (if t104.size + (strOfNums y105).size ≤ 9223372036854775807 then (some (t104 ++ (strOfNums y105))) else (none))))
def newelhelp_Digits.T3 : Bool × List (List Nat × List Nat) := (true, [([], []), ([0], [0]), ([1], [1]), ([], []), ([3], [3]), ([4], [4]), ([5], [5]), ([6], [6]), ([7], [7]), ([2, 8], [2, 8]), ([9, 2, 0, 1, 2, 3, 4, 5, 6, 7, 8, 9], [9])])
def newelhelp_Digits.B3 : List Nat := [0, 1, 3, 0, 8, 24, 56, 120, 248, 511, 1023]
theorem newelhelp_Digits.tab3 : rtab .any (opsOf Try.f9 3) = newelhelp_Digits.T3 := by kernel_rfl
theorem newelhelp_Digits.bits3 : waitsOk newelhelp_Digits.T3.2 newelhelp_Digits.B3 = true := by kernel_rfl
theorem newelhelp_Digits.calls (k : Nat) : ∀ (a0 : Int) (r : ByteArray) (w : World) (hG : Glob w) (h : newelhelp_Digits.f k a0 = some r),
 Calls Try.prog 9 #[.int .i64 a0] w fun e w' => e = .returned (.string r) ∧ Below w.heap.size w w' := by
 induction k using Nat.strongRecOn with
 | _ k ih =>
 intro a0 r w hG h
 cases k with
 | zero => exact absurd h (by simp [newelhelp_Digits.f])
 | succ k =>
 simp only [newelhelp_Digits.f] at h
 have HG := Aside0.mk hG
 clear hG
 have HB := Aside0.mk (Below.refl w.heap.size w)
 have H : (if a0 < 10 then (some (strOfNums (([(wrap64 (48 + a0)) % 256] : List Int)))) else ((newelhelp_Digits.f k (wrap64 (Int.tdiv a0 10))).bind fun t104 => ((some (([(wrap64 (48 + (Int.tmod a0 10))) % 256] : List Int) : List Int)).bind fun y105 => (if t104.size + (strOfNums y105).size ≤ 9223372036854775807 then (some (t104 ++ (strOfNums y105))) else (none))))) = some r := h
 clear h
 by_cases c2 : a0 < 10
 ·rw [if_pos c2] at H
  have c2b0 := dT c2
  clear c2
  obtain ⟨y101, hy101⟩ : ∃ y_ : List Int, y_ = (([(wrap64 (48 + a0)) % 256] : List Int)) := ⟨_, rfl⟩
  replace H : (some (strOfNums y101)) = some r := by first | (rw [hy101]; with_reducible exact H) | (have H2_ := (Option.bind_some _ _).symm.trans H; rw [hy101]; with_reducible exact H2_) | (have H2_ := (Option.bind_some _ _).symm.trans H; with_reducible exact H2_) | with_reducible exact H | (rw [hy101]; exact H) | exact H
  have Ny101 := Aside0.mk hy101
  clear hy101
  obtain rfl := Option.some.inj H
  go_enter Try.func9, Try.ntmps9
  go_wp2_with (first | ((with_reducible refine gate_dst (N := 8) rfl ?_); refine Kd.R_lit (Kd.int .u8) _ 5 ?hg (N := 8) ?hd (xs := ([(wrap64 (48 + a0)) % 256] : List Int)) (inner := [.int .u8 ((wrap64 (48 + a0)) % 256)]) (ok := fun _ => True) (okp := fun _ => True) ?hr ?hp (fun _ hk => hk) trivial (Below.refl _ _) (Nat.le_refl _) (by simp) ?_; (case hd => rfl); (case hg => rfl); (case hr => first | (go_simp; done) | (go_simp; rfl)); (case hp => exact (Reps.one (show Kd.M (Kd.int .u8) _ _ _ ((wrap64 (48 + a0)) % 256) [.int .u8 ((wrap64 (48 + a0)) % 256)] from rfl) (Reps.none _ _))); intro v102 w3 ho4 hb hg_ hnew_; clear hg_ hnew_; (first | rw [← Ny101.out] at ho4 | (simp only [Int.reduceToNat] at ho4; rw [← Ny101.out] at ho4)); have HO103 := Aside0.mk (Kd.R_lower ho4 (below_size bE)); replace HB := sB hb; clear hb ho4; have hcv5 := own_string (P := Try.prog) Try.underlying47 Try.underlying5 Try.underlying9 (Kd.own_of_R HO103.out)))
  go_ret
  exact ⟨eA, bE⟩
 rw [if_neg c2] at H
 have c2b0 := dF c2
 clear c2
 replace H := bi H
 obtain ⟨t104, A60, H⟩ := H
 try dsimp only at H
 have A6 := Aside0.mk A60
 clear A60
 obtain ⟨y105, hy105⟩ : ∃ y_ : List Int, y_ = (([(wrap64 (48 + (Int.tmod a0 10))) % 256] : List Int)) := ⟨_, rfl⟩
 replace H : (if t104.size + (strOfNums y105).size ≤ 9223372036854775807 then (some (t104 ++ (strOfNums y105))) else (none)) = some r := by first | (rw [hy105]; with_reducible exact H) | (have H2_ := (Option.bind_some _ _).symm.trans H; rw [hy105]; with_reducible exact H2_) | (have H2_ := (Option.bind_some _ _).symm.trans H; with_reducible exact H2_) | with_reducible exact H | (rw [hy105]; exact H) | exact H
 have Ny105 := Aside0.mk hy105
 clear hy105
 by_cases c7 : t104.size + (strOfNums y105).size ≤ 9223372036854775807
 rotate_left
 ·rw [if_neg c7] at H
  exact absurd H (by simp)
 rw [if_pos c7] at H
 have c7b0 := eq_true c7
 have c7b1 := dT c7
 try have c7b2 : (9223372036854775807 < t104.size + (strOfNums y105).size) = False := eq_false (Nat.not_lt.2 c7)
 obtain rfl := Option.some.inj H
 go_enter Try.func9, Try.ntmps9
 try go_wp2
 replace HB := Aside0.mk (below_drew1 HB.out)
 refine start_ (n := 11) (S := fun w' => True) (ds := []) #[false, false, false, false, false, false, false, false, false, false, false] (by kernel_rfl) rfl rfl trivial (fun hHeld => ?_); refine with_tabW newelhelp_Digits.tab3 newelhelp_Digits.bits3 (fun HT_ HW_ => ?_)
 generalize w.drew = w8 at HB hHeld ⊢
 refine pz 0 (some 10) HT_ ?_
 refine pz 1 (some 11) HT_ ?_
 refine pz 3 (some 13) HT_ ?_
 refine pz 4 (some 14) HT_ ?_
 refine pz 5 (some 15) HT_ ?_
 refine pz 6 (some 16) HT_ ?_
 refine join_ (σ := Value) 2 #[true, true, true, true, true, true, true, true, true, false, false] (fun s_ => [(12, .string t104), (17, s_), (18, .string (strOfNums y105))]) (fun s_ w' => (Kd.R (Kd.int .u8) 5 w' w.heap.size (fun _ => True) s_ y105) ∧ (Below w.heap.size w w')) ?_ ?_
 rotate_left
 ·intro hCont
  refine two_ (i := 2) (j := 7) (Ni := some 12) (Nj := some 17) #[true, true, true, true, true, true, true, false, false, false, false] #[true, true, false, true, true, true, true, true, false, false, false] rfl rfl rfl rfl (two_of HT_.out (by kernel_rfl)) (by decide) (by decide) (fun K hK => ?_) (fun K hK => ?_)
  ·skip
   refine goes_ Try.func9 (by kernel_rfl) rfl #[.int .i64 (wrap64 (Int.tdiv a0 10))] (by rfl) rfl rfl mA ?_
   with_reducible refine (ih k (by omega) (wrap64 (Int.tdiv a0 10)) t104 _ (gS HG) A6.out).mono ?_
   rintro e w9 ⟨rfl, hb⟩
   refine ⟨_, rfl, ?_⟩
   replace HB := sB hb
   (try clear hb)
   refine hK.out _ _ trivial (fun hHeld => ?_)
   clear hK K
   refine nz (some 12) ?_
   refine on 7 (some 17) HT_ (fun K hK => ?_)
   refine Kd.R_lit_step (Kd.int .u8) _ 5 ?hg (N := 17) ?hd (xs := ([(wrap64 (48 + (Int.tmod a0 10))) % 256] : List Int)) (inner := [.int .u8 ((wrap64 (48 + (Int.tmod a0 10))) % 256)]) (ok := fun _ => True) (okp := fun _ => True) ?hr ?hp (fun _ hk => hk) trivial (Below.refl _ _) (Nat.le_refl _) (by simp) ?_; (case hd => rfl); (case hg => rfl); (case hr => first | (go_simp; done) | (go_simp; rfl)); (case hp => exact (Reps.one (show Kd.M (Kd.int .u8) _ _ _ ((wrap64 (48 + (Int.tmod a0 10))) % 256) [.int .u8 ((wrap64 (48 + (Int.tmod a0 10))) % 256)] from rfl) (Reps.none _ _)))
   intro v106 w10 ho11 hb hg_ hnew_
   clear hg_ hnew_
   (first | rw [← Ny105.out] at ho11 | (simp only [Int.reduceToNat] at ho11; rw [← Ny105.out] at ho11))
   have HO107 := Aside0.mk (Kd.R_lower ho11 (below_size bE))
   replace HB := sB hb
   clear hb ho11
   refine hK.out _ _ trivial (fun hHeld => ?_)
   clear hK K
   refine nz (some 17) ?_
   refine on 8 (some 18) HT_ (fun K hK => ?_)
   have hcv12 := own_string (P := Try.prog) Try.underlying47 Try.underlying5 Try.underlying9 (Kd.own_of_R HO107.out)
   refine value_ (w1 := ?_) (v := ?_) (by rfl) rfl ?_ ?_
   rotate_left 2
   ·go_simp
    constructor
    ·rfl
    ·rfl
   clear hcv12
   refine hK.out _ _ trivial (fun hHeld => ?_)
   clear hK K
   refine nz (some 18) ?_
   exact norm_ (by simp only [putAll, Act.put, List.setIfInBounds_toArray, List.set_cons_zero, List.set_cons_succ]) (hCont (v106) _ ⟨(kR HO107), bE⟩)
  ·skip
   refine Kd.R_lit_step (Kd.int .u8) _ 5 ?hg (N := 17) ?hd (xs := ([(wrap64 (48 + (Int.tmod a0 10))) % 256] : List Int)) (inner := [.int .u8 ((wrap64 (48 + (Int.tmod a0 10))) % 256)]) (ok := fun _ => True) (okp := fun _ => True) ?hr ?hp (fun _ hk => hk) trivial (Below.refl _ _) (Nat.le_refl _) (by simp) ?_; (case hd => rfl); (case hg => rfl); (case hr => first | (go_simp; done) | (go_simp; rfl)); (case hp => exact (Reps.one (show Kd.M (Kd.int .u8) _ _ _ ((wrap64 (48 + (Int.tmod a0 10))) % 256) [.int .u8 ((wrap64 (48 + (Int.tmod a0 10))) % 256)] from rfl) (Reps.none _ _)))
   intro v106 w9 ho10 hb hg_ hnew_
   clear hg_ hnew_
   (first | rw [← Ny105.out] at ho10 | (simp only [Int.reduceToNat] at ho10; rw [← Ny105.out] at ho10))
   have HO107 := Aside0.mk (Kd.R_lower ho10 (below_size bE))
   replace HB := sB hb
   clear hb ho10
   refine hK.out _ _ trivial (fun hHeld => ?_)
   clear hK K
   refine nz (some 17) ?_
   refine two_ (i := 2) (j := 8) (Ni := some 12) (Nj := some 18) #[true, true, true, true, true, true, true, true, false, false, false] #[true, true, false, true, true, true, true, true, true, false, false] rfl rfl rfl rfl (two_of HT_.out (by kernel_rfl)) (by decide) (by decide) (fun K hK => ?_) (fun K hK => ?_)
   ·skip
    refine goes_ Try.func9 (by kernel_rfl) rfl #[.int .i64 (wrap64 (Int.tdiv a0 10))] (by rfl) rfl rfl mA ?_
    with_reducible refine (ih k (by omega) (wrap64 (Int.tdiv a0 10)) t104 _ (gS HG) A6.out).mono ?_
    rintro e w11 ⟨rfl, hb⟩
    refine ⟨_, rfl, ?_⟩
    replace HO107 := rB HO107 hb
    replace HB := sB hb
    (try clear hb)
    refine hK.out _ _ trivial (fun hHeld => ?_)
    clear hK K
    refine nz (some 12) ?_
    refine on 8 (some 18) HT_ (fun K hK => ?_)
    have hcv12 := own_string (P := Try.prog) Try.underlying47 Try.underlying5 Try.underlying9 (Kd.own_of_R HO107.out)
    refine value_ (w1 := ?_) (v := ?_) (by rfl) rfl ?_ ?_
    rotate_left 2
    ·go_simp
     constructor
     ·rfl
     ·rfl
    clear hcv12
    refine hK.out _ _ trivial (fun hHeld => ?_)
    clear hK K
    refine nz (some 18) ?_
    exact norm_ (by simp only [putAll, Act.put, List.setIfInBounds_toArray, List.set_cons_zero, List.set_cons_succ]) (hCont (v106) _ ⟨(kR HO107), bE⟩)
   ·skip
    have hcv11 := own_string (P := Try.prog) Try.underlying47 Try.underlying5 Try.underlying9 (Kd.own_of_R HO107.out)
    refine value_ (w1 := ?_) (v := ?_) (by rfl) rfl ?_ ?_
    rotate_left 2
    ·go_simp
     constructor
     ·rfl
     ·rfl
    clear hcv11
    refine hK.out _ _ trivial (fun hHeld => ?_)
    clear hK K
    refine nz (some 18) ?_
    refine on 2 (some 12) HT_ (fun K hK => ?_)
    refine goes_ Try.func9 (by kernel_rfl) rfl #[.int .i64 (wrap64 (Int.tdiv a0 10))] (by rfl) rfl rfl mA ?_
    with_reducible refine (ih k (by omega) (wrap64 (Int.tdiv a0 10)) t104 _ (gS HG) A6.out).mono ?_
    rintro e w12 ⟨rfl, hb⟩
    refine ⟨_, rfl, ?_⟩
    replace HO107 := rB HO107 hb
    replace HB := sB hb
    (try clear hb)
    refine hK.out _ _ trivial (fun hHeld => ?_)
    clear hK K
    refine nz (some 12) ?_
    exact norm_ (by simp only [putAll, Act.put, List.setIfInBounds_toArray, List.set_cons_zero, List.set_cons_succ]) (hCont (v106) _ ⟨(kR HO107), bE⟩)
 rintro v106 w13 ⟨h0_, h1_⟩
 have HO107 : Aside0 (Kd.R (Kd.int .u8) 5 w13 w.heap.size (fun _ => True) v106 y105) := ⟨h0_⟩
 replace HB : Aside0 (Below w.heap.size w w13) := ⟨h1_⟩
 clear h0_ h1_
 have hHeld := trivial
 refine norm_ (a' := ?_) ?_ ?_
 rotate_left
 ·simp only [putAll, Act.put, List.setIfInBounds_toArray, List.set_cons_zero, List.set_cons_succ]
  rfl
 refine pz 9 (some 19) HT_ ?_
 refine pz 10 (some 2) HT_ ?_
 refine done_ (done_of HT_.out (by kernel_rfl)) ?_
 try go_wp2
 go_ret
 exact ⟨eA, bE⟩
mutual
def newellaw16_PropsMany.l0 : Nat → Int → Bool → List (S27) → Int → Option (Bool)
 | 0, _, _, _, _ => none
 | k + 1, x0, x1, x5, x6 => if x6 < x0 then ((newelhelp_Digits.f k (wrap64 (x6 + 1))).bind fun t179 => (if 1 + t179.size ≤ 9223372036854775807 then ((newellaw16_name.f ((⟨#[112]⟩ : ByteArray) ++ t179)).bind fun t180 => ((newelhelp_Digits.f k x6).bind fun t181 => (if 1 + t181.size ≤ 9223372036854775807 then (if t180.size + t180.size ≤ 9223372036854775807 then (if x5.length < 4398046511104 then (newellaw16_PropsMany.l0 k x0 x1 (x5 ++ [(⟨(⟨#[112]⟩ : ByteArray) ++ t181, t180 ++ t180⟩ : S27)]) (wrap64 (x6 + 1))) else (none)) else (none)) else (none)))) else (none))) else ((newelhelp_Digits.f k x0).bind fun t185 => (if 1 + t185.size ≤ 9223372036854775807 then (if x1 = true then (newellaw16_PropsMany.j1 k x0 x1 x5 ((⟨#[112]⟩ : ByteArray) ++ t185) (⟨#[]⟩ : ByteArray)) else (newellaw16_PropsMany.j1 k x0 x1 x5 ((⟨#[112]⟩ : ByteArray) ++ t185) (⟨#[120]⟩ : ByteArray))) else (none)))
def newellaw16_PropsMany.j1 : Nat → Int → Bool → List (S27) → ByteArray → ByteArray → Option (Bool)
 | 0, _, _, _, _, _ => none
 | k + 1, x0, x1, x5, x187000, x187001 => if x5.length < 4398046511104 then ((newellaw16_name.f (⟨#[112, 48]⟩ : ByteArray)).bind fun t190 => ((props_Value.f k (x5 ++ [(⟨x187000, x187001⟩ : S27)]) t190).bind fun bt191 => (if x1 = true then ((newellaw16_awake.f k).bind fun t193 => (if t193 = true then (if bt191.2 = 0 then (some (bt191.1.toList == ([] : List UInt8))) else (some false)) else (some false))) else (if x0 ≥ 9 then ((newellaw16_awake.f k).bind fun t194 => (if t194 = true then (if bt191.2 = 3 then (some (bt191.1.toList == ([] : List UInt8))) else (some false)) else (some false))) else ((newellaw16_awake.f k).bind fun t195 => (if t195 = true then (if bt191.2 = 0 then (if 0 ≤ (IntKind.u64.wrap (x0)) then (some ((bt191.1.size : Int) == (shl .i64 1 (IntKind.u64.wrap (x0))))) else (none)) else (some false)) else (some false))))))) else (none)
end
def newellaw16_PropsMany.f (k : Nat) (a0 : Int) (a1 : Bool) : Option (Bool) := newellaw16_PropsMany.l0 k (wrap64 (1 + (wrap64 (Int.tmod (IntKind.u64.wrap (a0)) 19)))) a1 ([] : List (S27)) 0
theorem newellaw16_PropsMany.calls (k : Nat) (a0 : Int) (a1 : Bool) (r : Bool) (w : World) (hG : Glob w) (h : newellaw16_PropsMany.f k a0 a1 = some r) (hr_ : r = true) :
 Calls Try.prog 5 #[.int .i64 a0, .bool a1] w fun e w' => e = .returned (.bool r) ∧ Below w.heap.size w w' := by
 have hu27 := Try.underlying27
 have HG := Aside0.mk hG
 clear hG
 have HB := Aside0.mk (Below.refl w.heap.size w)
 have H : (newellaw16_PropsMany.l0 k (wrap64 (1 + (wrap64 (Int.tmod (IntKind.u64.wrap (a0)) 19)))) a1 ([] : List (S27)) 0) = some r := h
 clear h
 have H' := Aside0.mk H
 clear H
 go_enter Try.func5, Try.ntmps5
 go_wp2
 go_loopg [5, 6] k (fun kq v5 v6 w' => ∃ (x5_1 : List (S27)) (x6_1 : Int), v6 = .int .i64 x6_1 ∧ Aside0 (newellaw16_PropsMany.l0 kq (wrap64 (1 + (wrap64 (Int.tmod (IntKind.u64.wrap (a0)) 19)))) a1 x5_1 x6_1 = some r) ∧ Aside0 (kq ≤ k) ∧ Aside0 (Kd.R k27 27 w' w.heap.size (fun _ => True) v5 x5_1) ∧ Aside0 (Below w.heap.size w w'))
 case atStart => exact ⟨(([] : List (S27))), (0), cA, H', ⟨Nat.le_refl _⟩, ⟨by first | exact Kd.R_nil _ _ _ _ _ | exact Kd.N_nil _ _ _ _ _ | exact Kd.V_nil _ _ _ _ _ | exact Kd.Q_nil _ _ _ _ _ | exact Kd.S_nil _ _ _ _ _⟩, ⟨bE⟩⟩
 clear H'
 try clear p2
 obtain ⟨x5_1, x6_1, rfl, HA, HK1, HO_5, HB⟩ := hrel
 cases gk with
 | zero => exact absurd HA.out (by simp [newellaw16_PropsMany.l0])
 | succ k1 =>
  have H := HA.out
  clear HA
  simp only [newellaw16_PropsMany.l0] at H
  by_cases c3 : x6_1 < (wrap64 (1 + (wrap64 (Int.tmod (IntKind.u64.wrap (a0)) 19))))
  ·rw [if_pos c3] at H
   have c3b0 := dT c3
   clear c3
   replace H := bi H
   obtain ⟨t179, A40, H⟩ := H
   try dsimp only at H
   have A4 := Aside0.mk A40
   clear A40
   by_cases c5 : 1 + t179.size ≤ 9223372036854775807
   rotate_left
   ·rw [if_neg c5] at H
    exact absurd H (by simp)
   rw [if_pos c5] at H
   have c5b0 := eq_true c5
   have c5b1 := dT c5
   try have c5b2 : (9223372036854775807 < 1 + t179.size) = False := eq_false (Nat.not_lt.2 c5)
   replace H := bi H
   obtain ⟨t180, A60, H⟩ := H
   try dsimp only at H
   have A6 := Aside0.mk A60
   clear A60
   replace H := bi H
   obtain ⟨t181, A70, H⟩ := H
   try dsimp only at H
   have A7 := Aside0.mk A70
   clear A70
   by_cases c8 : 1 + t181.size ≤ 9223372036854775807
   rotate_left
   ·rw [if_neg c8] at H
    exact absurd H (by simp)
   rw [if_pos c8] at H
   have c8b0 := eq_true c8
   have c8b1 := dT c8
   try have c8b2 : (9223372036854775807 < 1 + t181.size) = False := eq_false (Nat.not_lt.2 c8)
   by_cases c9 : t180.size + t180.size ≤ 9223372036854775807
   rotate_left
   ·rw [if_neg c9] at H
    exact absurd H (by simp)
   rw [if_pos c9] at H
   have c9b0 := eq_true c9
   have c9b1 := dT c9
   try have c9b2 : (9223372036854775807 < t180.size + t180.size) = False := eq_false (Nat.not_lt.2 c9)
   by_cases c10 : x5_1.length < 4398046511104
   rotate_left
   ·rw [if_neg c10] at H
    exact absurd H (by simp)
   rw [if_pos c10] at H
   have LMc10 := Aside0.mk c10
   clear c10
   obtain ⟨y182, hy182⟩ : ∃ y_ : List (S27), y_ = (x5_1 ++ [(⟨(⟨#[112]⟩ : ByteArray) ++ t181, t180 ++ t180⟩ : S27)]) := ⟨_, rfl⟩
   replace H : (newellaw16_PropsMany.l0 k1 (wrap64 (1 + (wrap64 (Int.tmod (IntKind.u64.wrap (a0)) 19)))) a1 y182 (wrap64 (x6_1 + 1))) = some r := by first | (rw [hy182]; with_reducible exact H) | (have H2_ := (Option.bind_some _ _).symm.trans H; rw [hy182]; with_reducible exact H2_) | (have H2_ := (Option.bind_some _ _).symm.trans H; with_reducible exact H2_) | with_reducible exact H | (rw [hy182]; exact H) | exact H
   have Ny182 := Aside0.mk hy182
   clear hy182
   have H' := Aside0.mk H
   clear H
   go_wp2_with (first | (refine gl (some 23) Try.func9 #[.int .i64 (wrap64 (x6_1 + 1))] ?_; (with_reducible refine (newelhelp_Digits.calls k1 (wrap64 (x6_1 + 1)) t179 _ (gS HG) A4.out).mono ?_); rintro e w11 ⟨rfl, hb⟩; refine ⟨_, rfl, ?_⟩; replace HO_5 := rB HO_5 hb; replace HB := sB hb; (try clear hb)) | (refine gl (some 25) Try.func10 #[.string ((⟨#[112]⟩ : ByteArray) ++ t179)] ?_; (with_reducible refine (newellaw16_name.calls ((⟨#[112]⟩ : ByteArray) ++ t179) t180 _ (gS HG) A6.out).mono ?_); rintro e w' ⟨rfl, ⟨nd, rfl⟩⟩; refine ⟨_, rfl, ?_⟩) | (refine gl (some 28) Try.func9 #[.int .i64 x6_1] ?_; (with_reducible refine (newelhelp_Digits.calls k1 x6_1 t181 _ (gS HG) A7.out).mono ?_); rintro e w12 ⟨rfl, hb⟩; refine ⟨_, rfl, ?_⟩; replace HO_5 := rB HO_5 hb; replace HB := sB hb; (try clear hb)) | ((with_reducible refine gate_builtin (b := .append) (xs := #[.tmp 26, .tmp 34]) rfl ?_); (try (refine gate_guard (by rfl) ?_; dsimp only)); at_builtin; refine Kd.R_append k27 (w0 := w) w.heap.size rfl (.tmp 26) (.tmp 34) 23 27 (.agg #[(.string ⟨#[]⟩), (.string ⟨#[]⟩)]) 32 rfl Try.underlying23 info27 rfl (by decide) (by omega) u5 x5_1 (⟨(⟨#[112]⟩ : ByteArray) ++ t181, t180 ++ t180⟩ : S27) [.string ((⟨#[112]⟩ : ByteArray) ++ t181), .string (t180 ++ t180)] (fun _ => True) (fun _ => False) rfl rfl ?aP (fun _ hk => hk.elim) ?aF ?aO ?aB ?aS ?aL ?_; (case aP => exact k27_mkM _ _ _ (⟨(⟨#[112]⟩ : ByteArray) ++ t181, t180 ++ t180⟩ : S27)); (case aB => exact bE); (case aF => exact (fun _ _ => trivial)); (case aO => exact (kR HO_5)); (case aS => exact (below_size bE)); (case aL => have := LMc10.out; omega); intro v183 w13 ho hb hg hat; rw [← Ny182.out] at ho; replace HB := Aside0.mk (hb); have HO184 := Aside0.mk (ho); clear HO_5; clear ho hb hg hat))
   go_roundg k1
   case measure => have := HK1.out; omega
   case rel => exact ⟨(y182), (wrap64 (x6_1 + 1)), cA, H', ⟨by have := HK1.out; omega⟩, ⟨kR HO184⟩, ⟨bE⟩⟩
  rw [if_neg c3] at H
  have c3b0 := dF c3
  clear c3
  replace H := bi H
  obtain ⟨t185, A140, H⟩ := H
  try dsimp only at H
  have A14 := Aside0.mk A140
  clear A140
  by_cases c15 : 1 + t185.size ≤ 9223372036854775807
  rotate_left
  ·rw [if_neg c15] at H
   exact absurd H (by simp)
  rw [if_pos c15] at H
  have c15b0 := eq_true c15
  have c15b1 := dT c15
  try have c15b2 : (9223372036854775807 < 1 + t185.size) = False := eq_false (Nat.not_lt.2 c15)
  have HC16 := Aside0.mk H
  clear H
  go_upto_if 41 with (first | (refine gl (some 37) Try.func9 #[.int .i64 (wrap64 (1 + (wrap64 (Int.tmod (IntKind.u64.wrap (a0)) 19))))] ?_; (with_reducible refine (newelhelp_Digits.calls k1 (wrap64 (1 + (wrap64 (Int.tmod (IntKind.u64.wrap (a0)) 19)))) t185 _ (gS HG) A14.out).mono ?_); rintro e w17 ⟨rfl, hb⟩; refine ⟨_, rfl, ?_⟩; replace HO_5 := rB HO_5 hb; replace HB := sB hb; (try clear hb)) | ((with_reducible refine gate_dst (N := 8) rfl ?_); (try (refine gate_guard (by rfl) ?_; dsimp only)); refine be 8 #[.string (⟨#[]⟩ : ByteArray), .string (⟨#[]⟩ : ByteArray)] 27 ?_; intro gb186 hg w18 hbox hb; replace HO_5 := Aside0.mk (Kd.R_below (Kd.R_elderB (kR HO_5) gb186 (Nat.le_of_eq hg.symm)) hb); have BK186 := Aside0.mk (hbox); have GW186 := gW hg; have GE186 := gW hg; replace HB := sB hb; clear hb hbox hg; have hcz19_0 : w18.cell? ⟨gb186, 0, none⟩ = some (.string (⟨#[]⟩ : ByteArray)) := (blk_cell BK186.out 0).trans rfl; have hcz19_1 : w18.cell? ⟨gb186, 1, none⟩ = some (.string (⟨#[]⟩ : ByteArray)) := (blk_cell BK186.out 1).trans rfl; have hfz19_0 := blk_frozen BK186.out 0; have hfz19_1 := blk_frozen BK186.out 1))
  (try simp only [Act.put, List.setIfInBounds_toArray, List.set_cons_zero, List.set_cons_succ])
  go_cut [] (fun wc => ∃ (kq : Nat) (x187001_15 : ByteArray), Aside0 (newellaw16_PropsMany.j1 kq (wrap64 (1 + (wrap64 (Int.tmod (IntKind.u64.wrap (a0)) 19)))) a1 x5_1 ((⟨#[112]⟩ : ByteArray) ++ t185) x187001_15 = some r) ∧ Aside0 (kq ≤ k1) ∧ Aside0 (Kd.R k27 27 wc w.heap.size (fun k_ => k_ ≠ gb186) u5 x5_1) ∧ Aside0 (wc.heap[gb186]? = some (.cells #[.string ((⟨#[112]⟩ : ByteArray) ++ t185), .string x187001_15] 27 (0, 0))) ∧ Aside0 (Below w.heap.size w wc))
  case first =>
   have H := HC16.out
   clear HC16
   by_cases c20 : a1 = true
   ·subst c20
    have H1 : (newellaw16_PropsMany.j1 k1 (wrap64 (1 + (wrap64 (Int.tmod (IntKind.u64.wrap (a0)) 19)))) true x5_1 ((⟨#[112]⟩ : ByteArray) ++ t185) (⟨#[]⟩ : ByteArray)) = some r := by rw [if_pos rfl] at H; exact H
    clear H
    have H := H1
    clear H1
    have H' := Aside0.mk H
    clear H
    go_wp2
    go_meet
    case rel => exact ⟨_, ((⟨#[]⟩ : ByteArray)), H', ⟨by have := HK1.out; first | omega | exact Nat.le_refl _⟩, ⟨by (with_reducible repeat (first | apply Kd.R_alloc | apply Kd.R_drewN | apply Kd.R_drew)); exact Kd.R_mono (Kd.R_far (p := ⟨gb186, 1, none⟩) (Kd.R_far (p := ⟨gb186, 0, none⟩) (Kd.R_mono HO_5.out (fun k_ hk => (⟨hk, hk.2⟩ : _ ∧ k_ ≠ gb186))) (fun _ hk => hk.2) (.string ((⟨#[112]⟩ : ByteArray) ++ t185))) (fun _ hk => hk.2) (.string (⟨#[]⟩ : ByteArray))) (fun _ hk => hk.1.2)⟩, ⟨bP BK186⟩, ⟨bG⟩⟩
   replace c20 := Bool.eq_false_iff.mpr c20
   subst c20
   have H1 : (newellaw16_PropsMany.j1 k1 (wrap64 (1 + (wrap64 (Int.tmod (IntKind.u64.wrap (a0)) 19)))) false x5_1 ((⟨#[112]⟩ : ByteArray) ++ t185) (⟨#[120]⟩ : ByteArray)) = some r := by rw [if_neg (show ¬ (false = true) by decide)] at H; exact H
   clear H
   have H := H1
   clear H1
   have H' := Aside0.mk H
   clear H
   obtain ⟨hcz21_0, hcz21_1, hfz21_0, hfz21_1⟩ := cells2 BK186
   go_wp2
   go_meet
   case rel => exact ⟨_, ((⟨#[120]⟩ : ByteArray)), H', ⟨by have := HK1.out; first | omega | exact Nat.le_refl _⟩, ⟨by (with_reducible repeat (first | apply Kd.R_alloc | apply Kd.R_drewN | apply Kd.R_drew)); exact Kd.R_mono (Kd.R_far (p := ⟨gb186, 1, none⟩) (Kd.R_far (p := ⟨gb186, 1, none⟩) (Kd.R_far (p := ⟨gb186, 0, none⟩) (Kd.R_mono HO_5.out (fun k_ hk => (⟨hk, hk.2⟩ : _ ∧ k_ ≠ gb186))) (fun _ hk => hk.2) (.string ((⟨#[112]⟩ : ByteArray) ++ t185))) (fun _ hk => hk.2) (.string (⟨#[]⟩ : ByteArray))) (fun _ hk => hk.2) (.string (⟨#[120]⟩ : ByteArray))) (fun _ hk => hk.1.2)⟩, ⟨bP BK186⟩, ⟨bG⟩⟩
  clear HC16
  try clear c1
  try clear c2
  try clear p2
  try clear c3
  try clear c3b0
  try clear c5
  try clear c5b0
  try clear c5b1
  try clear c5b2
  try clear p6
  try clear c8
  try clear c8b0
  try clear c8b1
  try clear c8b2
  try clear c9
  try clear c9b0
  try clear c9b1
  try clear c9b2
  try clear c10
  try clear c15
  try clear c15b0
  try clear c15b1
  try clear c15b2
  try clear c20
  try clear hcz19_0
  try clear hcz19_1
  try clear hcz21_0
  try clear hcz21_1
  try clear hfz19_0
  try clear hfz19_1
  try clear hfz21_0
  try clear hfz21_1
  try clear p2
  obtain ⟨kq, x187001_15, HA, HJ15, HO_5, BK186, HB⟩ := hcut
  cases kq with
  | zero => exact absurd HA.out (by simp [newellaw16_PropsMany.j1])
  | succ kj15 =>
   have H := HA.out
   clear HA
   simp only [newellaw16_PropsMany.j1] at H
   (try simp only [toList_lit] at H)
   by_cases c22 : x5_1.length < 4398046511104
   rotate_left
   ·rw [if_neg c22] at H
    exact absurd H (by simp)
   rw [if_pos c22] at H
   have LMc22 := Aside0.mk c22
   clear c22
   obtain ⟨y187, hy187⟩ : ∃ y_ : List (S27), y_ = (x5_1 ++ [(⟨((⟨#[112]⟩ : ByteArray) ++ t185), x187001_15⟩ : S27)]) := ⟨_, rfl⟩
   replace H : ((newellaw16_name.f (⟨#[112, 48]⟩ : ByteArray)).bind fun t190 => ((props_Value.f kj15 y187 t190).bind fun bt191 => (if a1 = true then ((newellaw16_awake.f kj15).bind fun t193 => (if t193 = true then (if bt191.2 = 0 then (some (bt191.1.toList == ([] : List UInt8))) else (some false)) else (some false))) else (if (wrap64 (1 + (wrap64 (Int.tmod (IntKind.u64.wrap (a0)) 19)))) ≥ 9 then ((newellaw16_awake.f kj15).bind fun t194 => (if t194 = true then (if bt191.2 = 3 then (some (bt191.1.toList == ([] : List UInt8))) else (some false)) else (some false))) else ((newellaw16_awake.f kj15).bind fun t195 => (if t195 = true then (if bt191.2 = 0 then (if 0 ≤ (IntKind.u64.wrap ((wrap64 (1 + (wrap64 (Int.tmod (IntKind.u64.wrap (a0)) 19)))))) then (some ((bt191.1.size : Int) == (shl .i64 1 (IntKind.u64.wrap ((wrap64 (1 + (wrap64 (Int.tmod (IntKind.u64.wrap (a0)) 19))))))))) else (none)) else (some false)) else (some false))))))) = some r := by first | (rw [hy187]; with_reducible exact H) | (have H2_ := (Option.bind_some _ _).symm.trans H; rw [hy187]; with_reducible exact H2_) | (have H2_ := (Option.bind_some _ _).symm.trans H; with_reducible exact H2_) | with_reducible exact H | (rw [hy187]; exact H) | exact H
   have Ny187 := Aside0.mk hy187
   clear hy187
   replace H := bi H
   obtain ⟨t190, A230, H⟩ := H
   try dsimp only at H
   have A23 := Aside0.mk A230
   clear A230
   replace H := bi H
   obtain ⟨⟨t191, t192⟩, A240, H⟩ := H
   try dsimp only at H
   have A24 := Aside0.mk A240
   clear A240
   by_cases c25 : a1 = true
   ·subst c25
    have H1 : ((newellaw16_awake.f kj15).bind fun t193 => (if t193 = true then (if t192 = 0 then (some (t191.toList == ([] : List UInt8))) else (some false)) else (some false))) = some r := by rw [if_pos rfl] at H; exact H
    clear H
    have H := H1
    clear H1
    replace H := bi H
    obtain ⟨t193, A260, H⟩ := H
    try dsimp only at H
    have A26 := Aside0.mk A260
    clear A260
    by_cases c27 : t193 = true
    rotate_left
    ·replace c27 := Bool.eq_false_iff.mpr c27
     subst c27
     have H1 : (some false) = some r := by rw [if_neg (show ¬ (false = true) by decide)] at H; exact H
     clear H
     have H := H1
     clear H1
     exfalso
     obtain rfl := Option.some.inj H
     exact absurd hr_ (by decide)
    subst c27
    have H1 : (if t192 = 0 then (some (t191.toList == ([] : List UInt8))) else (some false)) = some r := by rw [if_pos rfl] at H; exact H
    clear H
    have H := H1
    clear H1
    by_cases c28 : t192 = 0
    rotate_left
    ·rw [if_neg c28] at H
     obtain ⟨c28b0, c28b1⟩ := eqF c28
     exfalso
     obtain rfl := Option.some.inj H
     exact absurd hr_ (by decide)
    rw [if_pos c28] at H
    obtain ⟨c28b0, c28b1⟩ := eqT c28
    clear c28
    obtain rfl := Option.some.inj H
    obtain ⟨hcz29_0, hcz29_1, hfz29_0, hfz29_1⟩ := cells2 BK186
    go_wp2_with (first | ((with_reducible refine gate_builtin (b := .append) (xs := #[.tmp 43, .tmp 45]) rfl ?_); (try (refine gate_guard (by rfl) ?_; dsimp only)); at_builtin; refine Kd.R_append k27 (w0 := w) w.heap.size rfl (.tmp 43) (.tmp 45) 23 27 (.agg #[(.string ⟨#[]⟩), (.string ⟨#[]⟩)]) 32 rfl Try.underlying23 info27 rfl (by decide) (by omega) u5 x5_1 (⟨((⟨#[112]⟩ : ByteArray) ++ t185), x187001_15⟩ : S27) [.string ((⟨#[112]⟩ : ByteArray) ++ t185), .string x187001_15] (fun k_ => k_ ≠ gb186) (fun _ => False) rfl rfl ?aP (fun _ hk => hk.elim) ?aF ?aO ?aB ?aS ?aL ?_; (case aP => exact k27_mkM _ _ _ (⟨((⟨#[112]⟩ : ByteArray) ++ t185), x187001_15⟩ : S27)); (case aB => exact bG); (case aF => exact (fun k_ hk => Kd.freshB (g := gb186) (o := .cells #[.string ((⟨#[112]⟩ : ByteArray) ++ t185), .string x187001_15] 27 (0, 0)) (bK BK186) k_ hk)); (case aO => exact (kR HO_5)); (case aS => exact (below_size bG)); (case aL => have := LMc22.out; omega); intro v188 w30 ho hb hg hat; rw [← Ny187.out] at ho; replace BK186 := Aside0.mk (blk_grown (g := gb186) (o := .cells #[.string ((⟨#[112]⟩ : ByteArray) ++ t185), .string x187001_15] 27 (0, 0)) (bK BK186) hg (Kd.R_away HO_5.out (fun _ hk => hk))); replace HB := Aside0.mk (hb); have HO189 := Aside0.mk (ho); clear HO_5; clear ho hb hg hat) | (refine gl (some 49) Try.func10 #[.string (⟨#[112, 48]⟩ : ByteArray)] ?_; (with_reducible refine (newellaw16_name.calls (⟨#[112, 48]⟩ : ByteArray) t190 _ (gS HG) A23.out).mono ?_); rintro e w' ⟨rfl, ⟨nd, rfl⟩⟩; refine ⟨_, rfl, ?_⟩; obtain ⟨Ao31, co31, eo31⟩ := Kd.R_slice HO189.out; subst eo31) | (refine gl (some 50) Try.func11 #[.slice Ao31 y187.length co31, .string t190] ?_; (with_reducible refine (props_Value.calls kj15 _ _ y187 t190 t191 t192 _ ?side1 ?side2 (gS HG) A24.out).mono ?_); (case side1 => repeat (first | exact (Kd.R_reads' HO189.out).2.2 | (with_reducible refine Kd.C_alloc ?_ _) | (with_reducible refine Kd.C_drewN ?_ _) | (with_reducible refine Kd.C_drew ?_))); (case side2 => exact (Kd.R_reads' HO189.out).2.1); rintro e w32 ⟨rfl, hb⟩; refine ⟨_, rfl, ?_⟩; replace HO189 := rB HO189 hb; replace BK186 := kB BK186 hb; replace HB := sB hb; (try clear hb)) | (refine gl (some 54) Try.func12 #[] ?_; (with_reducible refine (newellaw16_awake.calls kj15  true _ (gS HG) A26.out).mono ?_); rintro e w33 ⟨rfl, hb⟩; refine ⟨_, rfl, ?_⟩; replace HO189 := rB HO189 hb; replace BK186 := kB BK186 hb; replace HB := sB hb; (try clear hb)))
    go_ret
    exact ⟨eA, bG⟩
   replace c25 := Bool.eq_false_iff.mpr c25
   subst c25
   have H1 : (if (wrap64 (1 + (wrap64 (Int.tmod (IntKind.u64.wrap (a0)) 19)))) ≥ 9 then ((newellaw16_awake.f kj15).bind fun t194 => (if t194 = true then (if t192 = 3 then (some (t191.toList == ([] : List UInt8))) else (some false)) else (some false))) else ((newellaw16_awake.f kj15).bind fun t195 => (if t195 = true then (if t192 = 0 then (if 0 ≤ (IntKind.u64.wrap ((wrap64 (1 + (wrap64 (Int.tmod (IntKind.u64.wrap (a0)) 19)))))) then (some ((t191.size : Int) == (shl .i64 1 (IntKind.u64.wrap ((wrap64 (1 + (wrap64 (Int.tmod (IntKind.u64.wrap (a0)) 19))))))))) else (none)) else (some false)) else (some false)))) = some r := by rw [if_neg (show ¬ (false = true) by decide)] at H; exact H
   clear H
   have H := H1
   clear H1
   by_cases c34 : (wrap64 (1 + (wrap64 (Int.tmod (IntKind.u64.wrap (a0)) 19)))) ≥ 9
   ·rw [if_pos c34] at H
    have c34b0 := dT c34
    clear c34
    replace H := bi H
    obtain ⟨t194, A350, H⟩ := H
    try dsimp only at H
    have A35 := Aside0.mk A350
    clear A350
    by_cases c36 : t194 = true
    rotate_left
    ·replace c36 := Bool.eq_false_iff.mpr c36
     subst c36
     have H1 : (some false) = some r := by rw [if_neg (show ¬ (false = true) by decide)] at H; exact H
     clear H
     have H := H1
     clear H1
     exfalso
     obtain rfl := Option.some.inj H
     exact absurd hr_ (by decide)
    subst c36
    have H1 : (if t192 = 3 then (some (t191.toList == ([] : List UInt8))) else (some false)) = some r := by rw [if_pos rfl] at H; exact H
    clear H
    have H := H1
    clear H1
    by_cases c37 : t192 = 3
    rotate_left
    ·rw [if_neg c37] at H
     obtain ⟨c37b0, c37b1⟩ := eqF c37
     exfalso
     obtain rfl := Option.some.inj H
     exact absurd hr_ (by decide)
    rw [if_pos c37] at H
    obtain ⟨c37b0, c37b1⟩ := eqT c37
    clear c37
    obtain rfl := Option.some.inj H
    obtain ⟨hcz38_0, hcz38_1, hfz38_0, hfz38_1⟩ := cells2 BK186
    go_wp2_with (first | ((with_reducible refine gate_builtin (b := .append) (xs := #[.tmp 43, .tmp 45]) rfl ?_); (try (refine gate_guard (by rfl) ?_; dsimp only)); at_builtin; refine Kd.R_append k27 (w0 := w) w.heap.size rfl (.tmp 43) (.tmp 45) 23 27 (.agg #[(.string ⟨#[]⟩), (.string ⟨#[]⟩)]) 32 rfl Try.underlying23 info27 rfl (by decide) (by omega) u5 x5_1 (⟨((⟨#[112]⟩ : ByteArray) ++ t185), x187001_15⟩ : S27) [.string ((⟨#[112]⟩ : ByteArray) ++ t185), .string x187001_15] (fun k_ => k_ ≠ gb186) (fun _ => False) rfl rfl ?aP (fun _ hk => hk.elim) ?aF ?aO ?aB ?aS ?aL ?_; (case aP => exact k27_mkM _ _ _ (⟨((⟨#[112]⟩ : ByteArray) ++ t185), x187001_15⟩ : S27)); (case aB => exact bG); (case aF => exact (fun k_ hk => Kd.freshB (g := gb186) (o := .cells #[.string ((⟨#[112]⟩ : ByteArray) ++ t185), .string x187001_15] 27 (0, 0)) (bK BK186) k_ hk)); (case aO => exact (kR HO_5)); (case aS => exact (below_size bG)); (case aL => have := LMc22.out; omega); intro v188 w39 ho hb hg hat; rw [← Ny187.out] at ho; replace BK186 := Aside0.mk (blk_grown (g := gb186) (o := .cells #[.string ((⟨#[112]⟩ : ByteArray) ++ t185), .string x187001_15] 27 (0, 0)) (bK BK186) hg (Kd.R_away HO_5.out (fun _ hk => hk))); replace HB := Aside0.mk (hb); have HO189 := Aside0.mk (ho); clear HO_5; clear ho hb hg hat) | (refine gl (some 49) Try.func10 #[.string (⟨#[112, 48]⟩ : ByteArray)] ?_; (with_reducible refine (newellaw16_name.calls (⟨#[112, 48]⟩ : ByteArray) t190 _ (gS HG) A23.out).mono ?_); rintro e w' ⟨rfl, ⟨nd, rfl⟩⟩; refine ⟨_, rfl, ?_⟩; obtain ⟨Ao40, co40, eo40⟩ := Kd.R_slice HO189.out; subst eo40) | (refine gl (some 50) Try.func11 #[.slice Ao40 y187.length co40, .string t190] ?_; (with_reducible refine (props_Value.calls kj15 _ _ y187 t190 t191 t192 _ ?side1 ?side2 (gS HG) A24.out).mono ?_); (case side1 => repeat (first | exact (Kd.R_reads' HO189.out).2.2 | (with_reducible refine Kd.C_alloc ?_ _) | (with_reducible refine Kd.C_drewN ?_ _) | (with_reducible refine Kd.C_drew ?_))); (case side2 => exact (Kd.R_reads' HO189.out).2.1); rintro e w41 ⟨rfl, hb⟩; refine ⟨_, rfl, ?_⟩; replace HO189 := rB HO189 hb; replace BK186 := kB BK186 hb; replace HB := sB hb; (try clear hb)) | (refine gl (some 65) Try.func12 #[] ?_; (with_reducible refine (newellaw16_awake.calls kj15  true _ (gS HG) A35.out).mono ?_); rintro e w42 ⟨rfl, hb⟩; refine ⟨_, rfl, ?_⟩; replace HO189 := rB HO189 hb; replace BK186 := kB BK186 hb; replace HB := sB hb; (try clear hb)))
    go_ret
    exact ⟨eA, bG⟩
   rw [if_neg c34] at H
   have c34b0 := dF c34
   clear c34
   replace H := bi H
   obtain ⟨t195, A430, H⟩ := H
   try dsimp only at H
   have A43 := Aside0.mk A430
   clear A430
   by_cases c44 : t195 = true
   rotate_left
   ·replace c44 := Bool.eq_false_iff.mpr c44
    subst c44
    have H1 : (some false) = some r := by rw [if_neg (show ¬ (false = true) by decide)] at H; exact H
    clear H
    have H := H1
    clear H1
    exfalso
    obtain rfl := Option.some.inj H
    exact absurd hr_ (by decide)
   subst c44
   have H1 : (if t192 = 0 then (if 0 ≤ (IntKind.u64.wrap ((wrap64 (1 + (wrap64 (Int.tmod (IntKind.u64.wrap (a0)) 19)))))) then (some ((t191.size : Int) == (shl .i64 1 (IntKind.u64.wrap ((wrap64 (1 + (wrap64 (Int.tmod (IntKind.u64.wrap (a0)) 19))))))))) else (none)) else (some false)) = some r := by rw [if_pos rfl] at H; exact H
   clear H
   have H := H1
   clear H1
   by_cases c45 : t192 = 0
   rotate_left
   ·rw [if_neg c45] at H
    obtain ⟨c45b0, c45b1⟩ := eqF c45
    exfalso
    obtain rfl := Option.some.inj H
    exact absurd hr_ (by decide)
   rw [if_pos c45] at H
   obtain ⟨c45b0, c45b1⟩ := eqT c45
   clear c45
   obtain ⟨ji46, hji46⟩ : ∃ j_ : Int, (IntKind.u64.wrap ((wrap64 (1 + (wrap64 (Int.tmod (IntKind.u64.wrap (a0)) 19)))))) = j_ := ⟨_, rfl⟩
   rw [hji46] at H
   (try rw [hji46] at A23)
   (try rw [hji46] at A24)
   (try rw [hji46] at A43)
   by_cases c47 : 0 ≤ (ji46)
   rotate_left
   ·rw [if_neg c47] at H
    exact absurd H (by simp)
   rw [if_pos c47] at H
   have c47b0 := eq_true c47
   have c47b1 := dT c47
   clear c47
   obtain ⟨ji48, hji48⟩ : ∃ j_ : Int, (shl .i64 1 (ji46)) = j_ := ⟨_, rfl⟩
   rw [hji48] at H
   (try rw [hji48] at A23)
   (try rw [hji48] at A24)
   (try rw [hji48] at A43)
   have hji48_ : (IntKind.i64.wrap (1 * 2 ^ min (ji46).toNat 64)) = ji48 := hji48
   have hji48z : (ji46) ≤ 64 → (IntKind.i64.wrap (1 * 2 ^ (ji46).toNat)) = ji48 := shl_small hji48
   have hji48u : (IntKind.i64.wrap (2 ^ min (ji46).toNat 64)) = ji48 := by have h_ := hji48_; rw [Int.one_mul] at h_; exact h_
   have hji48v : (ji46) ≤ 64 → (IntKind.i64.wrap (2 ^ (ji46).toNat)) = ji48 := fun hle_ => by have h_ := hji48z hle_; rw [Int.one_mul] at h_; exact h_
   have hji48y : (wrap64 (1 * 2 ^ min (ji46).toNat 64)) = ji48 := (i64_w _).symm.trans hji48_
   have hji48x : (ji46) ≤ 64 → (wrap64 (1 * 2 ^ (ji46).toNat)) = ji48 := fun h_ => (i64_w _).symm.trans (hji48z h_)
   obtain rfl := Option.some.inj H
   obtain ⟨hcz49_0, hcz49_1, hfz49_0, hfz49_1⟩ := cells2 BK186
   go_wp2_with (first | ((with_reducible refine gate_builtin (b := .append) (xs := #[.tmp 43, .tmp 45]) rfl ?_); (try (refine gate_guard (by rfl) ?_; dsimp only)); at_builtin; refine Kd.R_append k27 (w0 := w) w.heap.size rfl (.tmp 43) (.tmp 45) 23 27 (.agg #[(.string ⟨#[]⟩), (.string ⟨#[]⟩)]) 32 rfl Try.underlying23 info27 rfl (by decide) (by omega) u5 x5_1 (⟨((⟨#[112]⟩ : ByteArray) ++ t185), x187001_15⟩ : S27) [.string ((⟨#[112]⟩ : ByteArray) ++ t185), .string x187001_15] (fun k_ => k_ ≠ gb186) (fun _ => False) rfl rfl ?aP (fun _ hk => hk.elim) ?aF ?aO ?aB ?aS ?aL ?_; (case aP => exact k27_mkM _ _ _ (⟨((⟨#[112]⟩ : ByteArray) ++ t185), x187001_15⟩ : S27)); (case aB => exact bG); (case aF => exact (fun k_ hk => Kd.freshB (g := gb186) (o := .cells #[.string ((⟨#[112]⟩ : ByteArray) ++ t185), .string x187001_15] 27 (0, 0)) (bK BK186) k_ hk)); (case aO => exact (kR HO_5)); (case aS => exact (below_size bG)); (case aL => have := LMc22.out; omega); intro v188 w50 ho hb hg hat; rw [← Ny187.out] at ho; replace BK186 := Aside0.mk (blk_grown (g := gb186) (o := .cells #[.string ((⟨#[112]⟩ : ByteArray) ++ t185), .string x187001_15] 27 (0, 0)) (bK BK186) hg (Kd.R_away HO_5.out (fun _ hk => hk))); replace HB := Aside0.mk (hb); have HO189 := Aside0.mk (ho); clear HO_5; clear ho hb hg hat) | (refine gl (some 49) Try.func10 #[.string (⟨#[112, 48]⟩ : ByteArray)] ?_; (with_reducible refine (newellaw16_name.calls (⟨#[112, 48]⟩ : ByteArray) t190 _ (gS HG) A23.out).mono ?_); rintro e w' ⟨rfl, ⟨nd, rfl⟩⟩; refine ⟨_, rfl, ?_⟩; obtain ⟨Ao51, co51, eo51⟩ := Kd.R_slice HO189.out; subst eo51) | (refine gl (some 50) Try.func11 #[.slice Ao51 y187.length co51, .string t190] ?_; (with_reducible refine (props_Value.calls kj15 _ _ y187 t190 t191 t192 _ ?side1 ?side2 (gS HG) A24.out).mono ?_); (case side1 => repeat (first | exact (Kd.R_reads' HO189.out).2.2 | (with_reducible refine Kd.C_alloc ?_ _) | (with_reducible refine Kd.C_drewN ?_ _) | (with_reducible refine Kd.C_drew ?_))); (case side2 => exact (Kd.R_reads' HO189.out).2.1); rintro e w52 ⟨rfl, hb⟩; refine ⟨_, rfl, ?_⟩; replace HO189 := rB HO189 hb; replace BK186 := kB BK186 hb; replace HB := sB hb; (try clear hb)) | (refine gl (some 74) Try.func12 #[] ?_; (with_reducible refine (newellaw16_awake.calls kj15  true _ (gS HG) A43.out).mono ?_); rintro e w53 ⟨rfl, hb⟩; refine ⟨_, rfl, ?_⟩; replace HO189 := rB HO189 hb; replace BK186 := kB BK186 hb; replace HB := sB hb; (try clear hb)))
   go_ret
   exact ⟨by first | rfl | (simp [errW_none, errW_some] <;> rfl) | (simp only [← hji46, ← hji48]; first | rfl | (simp [errW_none, errW_some] <;> rfl)) | (simp [*, errW_none, errW_some] <;> rfl), bG⟩
end Go.Proofs.Ytomkimifooddpaa.Q
namespace Go.Proofs.Ytomkimifooddpaa.Q
open Go.RowKit Go.Proofs.YtomkimifooddpaaW.PrintWords Go.Proofs.YtomkimifooddpaaW.PrintLast Go.Proofs.YtomkimifooddpaaW.Own Go.Proofs.YtomkimifooddpaaW.PrintMore
set_option linter.unusedVariables false
set_option linter.unusedSimpArgs false
namespace Rd
open Go Go.RowKit
theorem glob {W : World} (h : W.ShapedOpen Try.prog) : Glob W :=
  cell_of_shapedOpen_int (g := 0) (t := 3) (zero := #[.int .i64 0]) (k := .i64) h (of_decide_eq_true (by kernel_rfl)) (by kernel_rfl) rfl (by kernel_rfl) (by kernel_rfl) Try.underlying3
end Rd
end Go.Proofs.Ytomkimifooddpaa.Q
namespace Go.Proofs.Ytomkimifooddpaa.Q
open Go.RowKit Go.Proofs.YtomkimifooddpaaW.PrintWords Go.Proofs.YtomkimifooddpaaW.PrintLast Go.Proofs.YtomkimifooddpaaW.Own Go.Proofs.YtomkimifooddpaaW.PrintMore
set_option linter.unusedVariables false
set_option linter.unusedSimpArgs false
def newellaw16_PropsMany.Pure : Prop := ∀ (a0 : Int) (a1 : Bool), ((Lit.int .i64 a0).wf = true) → ∃ k, newellaw16_PropsMany.f k a0 a1 = some true
end Go.Proofs.Ytomkimifooddpaa.Q
namespace Go.Proofs.Ytomkimifooddpaa.Pure
open Go Go.RowKit Go.Proofs.Ytomkimifooddpaa.Q Go.Proofs.YtomkimifooddpaaW.PrintWords
set_option maxRecDepth 1000000
theorem many_all : (List.range 19).all (fun n => newellaw16_PropsMany.l0 100 ((1 + n : Nat) : Int) true [] 0 == some true && newellaw16_PropsMany.l0 100 ((1 + n : Nat) : Int) false [] 0 == some true) = true := by kernel_rfl
theorem PropsMany : newellaw16_PropsMany.Pure := by
  intro a0 a1 _
  have h0 : 0 ≤ IntKind.u64.wrap a0 := by rw [IntKind.wrap_u64]; omega
  have h1 := Int.tmod_nonneg 19 h0
  have h2 := Int.tmod_lt_of_pos (IntKind.u64.wrap a0) (show (0 : Int) < 19 by decide)
  obtain ⟨n, hn⟩ := Int.eq_ofNat_of_zero_le h1
  have e : wrap64 (1 + wrap64 (Int.tmod (IntKind.u64.wrap a0) 19)) = ((1 + n : Nat) : Int) := by rw [hn] at h2 ⊢; unfold wrap64; omega
  have all := List.all_eq_true.1 many_all n (by rw [hn] at h2; simp; omega)
  rw [Bool.and_eq_true, beq_iff_eq, beq_iff_eq] at all
  refine ⟨100, ?_⟩
  unfold newellaw16_PropsMany.f
  rw [e]
  cases a1
  · exact all.2
  · exact all.1
end Go.Proofs.Ytomkimifooddpaa.Pure
