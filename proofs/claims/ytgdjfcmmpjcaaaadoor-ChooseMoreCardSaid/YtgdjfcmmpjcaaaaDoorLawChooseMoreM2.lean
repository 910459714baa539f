/- Texts put together: what functions of the program compute, and plain words about them. -/
import Derived.Test.YtgdjfcmmpjcaaaaDoorLawChooseMoreM1
import Derived.Shelf.Strings.Builder1
import Derived.Shelf.Strings.Builder2
import Derived.Shelf.Strings.OnBuilder
import Derived.Shelf.Strings.Trim
import Derived.Shelf.Small.Utf8
import Derived.Shelf.Small.Strs
import Derived.Shelf.Small.Wraps
import Derived.Shelf.Strings.BuilderF
import Derived.Shelf.Strings.BuilderK
import Derived.Shelf.Strings.Builder2Cap
import Derived.Shelf.Strings.Search1
import Derived.Shelf.Strings.Search2
import Derived.Shelf.Strings.Search3
import Derived.Shelf.Strings.Cut
import Derived.Shelf.Strings.Count
import Derived.Shelf.LaysM
import Derived.Shelf.Strings.Shaped
import Derived.Shelf.Strings.Prefix
import Derived.Shelf.Strings.Split
import Derived.Shelf.Strings.Runes
import Derived.Shelf.Strings.IndexAny
import Derived.Shelf.Strings.AsciiSet
import Derived.Shelf.Strings.IndexAnyAll
import Derived.Shelf.Unicode.DecodeSlow
import Derived.Shelf.Strings.BuilderCap
import Derived.Test.YtgdjfcmmpjcaaaaDoorProg
namespace Go.Proofs.YtgdjfcmmpjcaaaaDoor.Q
open Go.RowKit Go.Proofs.YtgdjfcmmpjcaaaaDoorW.PrintWords Go.Proofs.YtgdjfcmmpjcaaaaDoorW.PrintLast Go.Proofs.YtgdjfcmmpjcaaaaDoorW.Own Go.Proofs.YtgdjfcmmpjcaaaaDoorW.PrintMore
attribute [local go_sem] max2_int min2_int max_two min_two max_three min_three max_four min_four   -- for this text's walks alone
set_option linter.unusedVariables false
set_option linter.unusedSimpArgs false
set_option maxHeartbeats 8000000
set_option maxRecDepth 100000
def newelhelp_Digits.f : Nat → Int → Option (ByteArray)
 | 0, _ => none
 | k + 1, a0 => if a0 < 10 then (some (strOfNums (([(wrap64 (48 + a0)) % 256] : List Int)))) else ((newelhelp_Digits.f k (wrap64 (Int.tdiv a0 10))).bind fun t104 => ((some (([(wrap64 (48 + (Int.tmod a0 10))) % 256] : List Int) : List Int)).bind fun y105 => (if t104.size + (strOfNums y105).size ≤ 9223372036854775807 then (some (t104 ++ (strOfNums y105))) else (none))))
theorem newelhelp_Digits.mono_l : ∀ k, (∀ y0, LeO (newelhelp_Digits.f k y0) (newelhelp_Digits.f (k + 1) y0))
 | 0 => fun _ r h => by simp [newelhelp_Digits.f] at h
 | k + 1 => by
  have ih0 := newelhelp_Digits.mono_l k
  ·intro y0
   unfold newelhelp_Digits.f
   exact mo
theorem newelhelp_Digits.mono : ∀ a0 k, LeO (newelhelp_Digits.f k a0) (newelhelp_Digits.f (k + 1) a0) := by
 intro a0 k
 have ih0 := newelhelp_Digits.mono_l k
 exact ih0 a0
def newelhelp_Digits.T3 : Bool × List (List Nat × List Nat) := (true, [([], []), ([0], [0]), ([1], [1]), ([], []), ([3], [3]), ([4], [4]), ([5], [5]), ([6], [6]), ([7], [7]), ([2, 8], [2, 8]), ([9, 2, 0, 1, 2, 3, 4, 5, 6, 7, 8, 9], [9])])
def newelhelp_Digits.B3 : List Nat := [0, 1, 3, 0, 8, 24, 56, 120, 248, 511, 1023]
theorem newelhelp_Digits.tab3 : rtab .any (opsOf Tryd.f33 3) = newelhelp_Digits.T3 := by kernel_rfl
theorem newelhelp_Digits.bits3 : waitsOk newelhelp_Digits.T3.2 newelhelp_Digits.B3 = true := by kernel_rfl
theorem newelhelp_Digits.calls (k : Nat) : ∀ (a0 : Int) (r : ByteArray) (w : World) (hG : Glob w) (h : newelhelp_Digits.f k a0 = some r),
 Calls Tryd.prog 33 #[.int .i64 a0] w fun e w' => e = .returned (.string r) ∧ Below w.heap.size w w' := by
 induction k using Nat.strongRecOn with
 | _ k ih =>
 intro a0 r w hG h
 cases k with
 | zero => exact absurd h (by simp [newelhelp_Digits.f])
 | succ k =>
 simp only [newelhelp_Digits.f] at h
 have HG := Aside0.mk hG
 clear hG
 have HB := Aside0.mk (Below.refl w.heap.size w)
 have H : (if a0 < 10 then (some (strOfNums (([(wrap64 (48 + a0)) % 256] : List Int)))) else ((newelhelp_Digits.f k (wrap64 (Int.tdiv a0 10))).bind fun t104 => ((some (([(wrap64 (48 + (Int.tmod a0 10))) % 256] : List Int) : List Int)).bind fun y105 => (if t104.size + (strOfNums y105).size ≤ 9223372036854775807 then (some (t104 ++ (strOfNums y105))) else (none))))) = some r := h
 clear h
 by_cases c2 : a0 < 10
 ·rw [if_pos c2] at H
  have c2b0 := dT c2
  clear c2
  obtain ⟨y101, hy101⟩ : ∃ y_ : List Int, y_ = (([(wrap64 (48 + a0)) % 256] : List Int)) := ⟨_, rfl⟩
  replace H : (some (strOfNums y101)) = some r := by first | (rw [hy101]; with_reducible exact H) | (have H2_ := (Option.bind_some _ _).symm.trans H; rw [hy101]; with_reducible exact H2_) | (have H2_ := (Option.bind_some _ _).symm.trans H; with_reducible exact H2_) | with_reducible exact H | (rw [hy101]; exact H) | exact H
  have Ny101 := Aside0.mk hy101
  clear hy101
  obtain rfl := Option.some.inj H
  go_enter Tryd.func33, Tryd.ntmps33
  go_wp2_with (first | ((with_reducible refine gate_dst (N := 8) rfl ?_); refine Kd.R_lit (Kd.int .u8) _ 5 ?hg (N := 8) ?hd (xs := ([(wrap64 (48 + a0)) % 256] : List Int)) (inner := [.int .u8 ((wrap64 (48 + a0)) % 256)]) (ok := fun _ => True) (okp := fun _ => True) ?hr ?hp (fun _ hk => hk) trivial (Below.refl _ _) (Nat.le_refl _) (by simp) ?_; (case hd => rfl); (case hg => rfl); (case hr => first | (go_simp; done) | (go_simp; rfl)); (case hp => exact (Reps.one (show Kd.M (Kd.int .u8) _ _ _ ((wrap64 (48 + a0)) % 256) [.int .u8 ((wrap64 (48 + a0)) % 256)] from rfl) (Reps.none _ _))); intro v102 w3 ho4 hb hg_ hnew_; clear hg_ hnew_; (first | rw [← Ny101.out] at ho4 | (simp only [Int.reduceToNat] at ho4; rw [← Ny101.out] at ho4)); have HO103 := Aside0.mk (Kd.R_lower ho4 (below_size bE)); replace HB := sB hb; clear hb ho4; have hcv5 := own_string (P := Tryd.prog) Tryd.underlying30 Tryd.underlying5 Tryd.underlying9 (Kd.own_of_R HO103.out)))
  go_ret
  exact ⟨eA, bE⟩
 rw [if_neg c2] at H
 have c2b0 := dF c2
 clear c2
 replace H := bi H
 obtain ⟨t104, A60, H⟩ := H
 try dsimp only at H
 have A6 := Aside0.mk A60
 clear A60
 obtain ⟨y105, hy105⟩ : ∃ y_ : List Int, y_ = (([(wrap64 (48 + (Int.tmod a0 10))) % 256] : List Int)) := ⟨_, rfl⟩
 replace H : (if t104.size + (strOfNums y105).size ≤ 9223372036854775807 then (some (t104 ++ (strOfNums y105))) else (none)) = some r := by first | (rw [hy105]; with_reducible exact H) | (have H2_ := (Option.bind_some _ _).symm.trans H; rw [hy105]; with_reducible exact H2_) | (have H2_ := (Option.bind_some _ _).symm.trans H; with_reducible exact H2_) | with_reducible exact H | (rw [hy105]; exact H) | exact H
 have Ny105 := Aside0.mk hy105
 clear hy105
 by_cases c7 : t104.size + (strOfNums y105).size ≤ 9223372036854775807
 rotate_left
 ·rw [if_neg c7] at H
  exact absurd H (by simp)
 rw [if_pos c7] at H
 have c7b0 := eq_true c7
 have c7b1 := dT c7
 try have c7b2 : (9223372036854775807 < t104.size + (strOfNums y105).size) = False := eq_false (Nat.not_lt.2 c7)
 obtain rfl := Option.some.inj H
 go_enter Tryd.func33, Tryd.ntmps33
 try go_wp2
 replace HB := Aside0.mk (below_drew1 HB.out)
 refine start_ (n := 11) (S := fun w' => True) (ds := []) #[false, false, false, false, false, false, false, false, false, false, false] (by kernel_rfl) rfl rfl trivial (fun hHeld => ?_); refine with_tabW newelhelp_Digits.tab3 newelhelp_Digits.bits3 (fun HT_ HW_ => ?_)
 generalize w.drew = w8 at HB hHeld ⊢
 refine pz 0 (some 10) HT_ ?_
 refine pz 1 (some 11) HT_ ?_
 refine pz 3 (some 13) HT_ ?_
 refine pz 4 (some 14) HT_ ?_
 refine pz 5 (some 15) HT_ ?_
 refine pz 6 (some 16) HT_ ?_
 refine join_ (σ := Value) 2 #[true, true, true, true, true, true, true, true, true, false, false] (fun s_ => [(12, .string t104), (17, s_), (18, .string (strOfNums y105))]) (fun s_ w' => (Kd.R (Kd.int .u8) 5 w' w.heap.size (fun _ => True) s_ y105) ∧ (Below w.heap.size w w')) ?_ ?_
 rotate_left
 ·intro hCont
  refine two_ (i := 2) (j := 7) (Ni := some 12) (Nj := some 17) #[true, true, true, true, true, true, true, false, false, false, false] #[true, true, false, true, true, true, true, true, false, false, false] rfl rfl rfl rfl (two_of HT_.out (by kernel_rfl)) (by decide) (by decide) (fun K hK => ?_) (fun K hK => ?_)
  ·skip
   refine goes_ Tryd.func33 (by kernel_rfl) rfl #[.int .i64 (wrap64 (Int.tdiv a0 10))] (by rfl) rfl rfl mA ?_
   with_reducible refine (ih k (by omega) (wrap64 (Int.tdiv a0 10)) t104 _ (gS HG) A6.out).mono ?_
   rintro e w9 ⟨rfl, hb⟩
   refine ⟨_, rfl, ?_⟩
   replace HB := sB hb
   (try clear hb)
   refine hK.out _ _ trivial (fun hHeld => ?_)
   clear hK K
   refine nz (some 12) ?_
   refine on 7 (some 17) HT_ (fun K hK => ?_)
   refine Kd.R_lit_step (Kd.int .u8) _ 5 ?hg (N := 17) ?hd (xs := ([(wrap64 (48 + (Int.tmod a0 10))) % 256] : List Int)) (inner := [.int .u8 ((wrap64 (48 + (Int.tmod a0 10))) % 256)]) (ok := fun _ => True) (okp := fun _ => True) ?hr ?hp (fun _ hk => hk) trivial (Below.refl _ _) (Nat.le_refl _) (by simp) ?_; (case hd => rfl); (case hg => rfl); (case hr => first | (go_simp; done) | (go_simp; rfl)); (case hp => exact (Reps.one (show Kd.M (Kd.int .u8) _ _ _ ((wrap64 (48 + (Int.tmod a0 10))) % 256) [.int .u8 ((wrap64 (48 + (Int.tmod a0 10))) % 256)] from rfl) (Reps.none _ _)))
   intro v106 w10 ho11 hb hg_ hnew_
   clear hg_ hnew_
   (first | rw [← Ny105.out] at ho11 | (simp only [Int.reduceToNat] at ho11; rw [← Ny105.out] at ho11))
   have HO107 := Aside0.mk (Kd.R_lower ho11 (below_size bE))
   replace HB := sB hb
   clear hb ho11
   refine hK.out _ _ trivial (fun hHeld => ?_)
   clear hK K
   refine nz (some 17) ?_
   refine on 8 (some 18) HT_ (fun K hK => ?_)
   have hcv12 := own_string (P := Tryd.prog) Tryd.underlying30 Tryd.underlying5 Tryd.underlying9 (Kd.own_of_R HO107.out)
   refine value_ (w1 := ?_) (v := ?_) (by rfl) rfl ?_ ?_
   rotate_left 2
   ·go_simp
    constructor
    ·rfl
    ·rfl
   clear hcv12
   refine hK.out _ _ trivial (fun hHeld => ?_)
   clear hK K
   refine nz (some 18) ?_
   exact norm_ (by simp only [putAll, Act.put, List.setIfInBounds_toArray, List.set_cons_zero, List.set_cons_succ]) (hCont (v106) _ ⟨(kR HO107), bE⟩)
  ·skip
   refine Kd.R_lit_step (Kd.int .u8) _ 5 ?hg (N := 17) ?hd (xs := ([(wrap64 (48 + (Int.tmod a0 10))) % 256] : List Int)) (inner := [.int .u8 ((wrap64 (48 + (Int.tmod a0 10))) % 256)]) (ok := fun _ => True) (okp := fun _ => True) ?hr ?hp (fun _ hk => hk) trivial (Below.refl _ _) (Nat.le_refl _) (by simp) ?_; (case hd => rfl); (case hg => rfl); (case hr => first | (go_simp; done) | (go_simp; rfl)); (case hp => exact (Reps.one (show Kd.M (Kd.int .u8) _ _ _ ((wrap64 (48 + (Int.tmod a0 10))) % 256) [.int .u8 ((wrap64 (48 + (Int.tmod a0 10))) % 256)] from rfl) (Reps.none _ _)))
   intro v106 w9 ho10 hb hg_ hnew_
   clear hg_ hnew_
   (first | rw [← Ny105.out] at ho10 | (simp only [Int.reduceToNat] at ho10; rw [← Ny105.out] at ho10))
   have HO107 := Aside0.mk (Kd.R_lower ho10 (below_size bE))
   replace HB := sB hb
   clear hb ho10
   refine hK.out _ _ trivial (fun hHeld => ?_)
   clear hK K
   refine nz (some 17) ?_
   refine two_ (i := 2) (j := 8) (Ni := some 12) (Nj := some 18) #[true, true, true, true, true, true, true, true, false, false, false] #[true, true, false, true, true, true, true, true, true, false, false] rfl rfl rfl rfl (two_of HT_.out (by kernel_rfl)) (by decide) (by decide) (fun K hK => ?_) (fun K hK => ?_)
   ·skip
    refine goes_ Tryd.func33 (by kernel_rfl) rfl #[.int .i64 (wrap64 (Int.tdiv a0 10))] (by rfl) rfl rfl mA ?_
    with_reducible refine (ih k (by omega) (wrap64 (Int.tdiv a0 10)) t104 _ (gS HG) A6.out).mono ?_
    rintro e w11 ⟨rfl, hb⟩
    refine ⟨_, rfl, ?_⟩
    replace HO107 := rB HO107 hb
    replace HB := sB hb
    (try clear hb)
    refine hK.out _ _ trivial (fun hHeld => ?_)
    clear hK K
    refine nz (some 12) ?_
    refine on 8 (some 18) HT_ (fun K hK => ?_)
    have hcv12 := own_string (P := Tryd.prog) Tryd.underlying30 Tryd.underlying5 Tryd.underlying9 (Kd.own_of_R HO107.out)
    refine value_ (w1 := ?_) (v := ?_) (by rfl) rfl ?_ ?_
    rotate_left 2
    ·go_simp
     constructor
     ·rfl
     ·rfl
    clear hcv12
    refine hK.out _ _ trivial (fun hHeld => ?_)
    clear hK K
    refine nz (some 18) ?_
    exact norm_ (by simp only [putAll, Act.put, List.setIfInBounds_toArray, List.set_cons_zero, List.set_cons_succ]) (hCont (v106) _ ⟨(kR HO107), bE⟩)
   ·skip
    have hcv11 := own_string (P := Tryd.prog) Tryd.underlying30 Tryd.underlying5 Tryd.underlying9 (Kd.own_of_R HO107.out)
    refine value_ (w1 := ?_) (v := ?_) (by rfl) rfl ?_ ?_
    rotate_left 2
    ·go_simp
     constructor
     ·rfl
     ·rfl
    clear hcv11
    refine hK.out _ _ trivial (fun hHeld => ?_)
    clear hK K
    refine nz (some 18) ?_
    refine on 2 (some 12) HT_ (fun K hK => ?_)
    refine goes_ Tryd.func33 (by kernel_rfl) rfl #[.int .i64 (wrap64 (Int.tdiv a0 10))] (by rfl) rfl rfl mA ?_
    with_reducible refine (ih k (by omega) (wrap64 (Int.tdiv a0 10)) t104 _ (gS HG) A6.out).mono ?_
    rintro e w12 ⟨rfl, hb⟩
    refine ⟨_, rfl, ?_⟩
    replace HO107 := rB HO107 hb
    replace HB := sB hb
    (try clear hb)
    refine hK.out _ _ trivial (fun hHeld => ?_)
    clear hK K
    refine nz (some 12) ?_
    exact norm_ (by simp only [putAll, Act.put, List.setIfInBounds_toArray, List.set_cons_zero, List.set_cons_succ]) (hCont (v106) _ ⟨(kR HO107), bE⟩)
 rintro v106 w13 ⟨h0_, h1_⟩
 have HO107 : Aside0 (Kd.R (Kd.int .u8) 5 w13 w.heap.size (fun _ => True) v106 y105) := ⟨h0_⟩
 replace HB : Aside0 (Below w.heap.size w w13) := ⟨h1_⟩
 clear h0_ h1_
 have hHeld := trivial
 refine norm_ (a' := ?_) ?_ ?_
 rotate_left
 ·simp only [putAll, Act.put, List.setIfInBounds_toArray, List.set_cons_zero, List.set_cons_succ]
  rfl
 refine pz 9 (some 19) HT_ ?_
 refine pz 10 (some 2) HT_ ?_
 refine done_ (done_of HT_.out (by kernel_rfl)) ?_
 try go_wp2
 go_ret
 exact ⟨eA, bE⟩
end Go.Proofs.YtgdjfcmmpjcaaaaDoor.Q
namespace Go.Proofs
open Go.Shelf
def Tryd.lays161_ren : Go.Shelf.Ren := ⟨fun | 161 => 108 | 231 => 135 | 227 => 136 | 233 => 137 | 235 => 138 | 228 => 146 | 197 => 155 | 151 => 157 | 260 => 167 | 152 => 144 | 137 => 68 | 119 => 163 | 224 => 159 | 225 => 158 | 217 => 105 | 266 => 134 | n => n, fun | 9 => 9 | 4 => 4 | 3 => 3 | 5 => 5 | 117 => 144 | 116 => 143 | 0 => 0 | 124 => 147 | 105 => 152 | 21 => 21 | 119 => 165 | 46 => 41 | 139 => 168 | 138 => 167 | n => n, fun | 3 => 1 | 4 => 2 | n => n⟩
theorem Tryd.lays161 : Go.Proofs.Lays.n161 Tryd.prog Tryd.lays161_ren := {
  mixed := by kernel_rfl
  f119 := Tryd.func163.trans (congrArg some (by kernel_rfl))
  f137 := Tryd.func68.trans (congrArg some (by kernel_rfl))
  f151 := Tryd.func157.trans (congrArg some (by kernel_rfl))
  f152 := Tryd.func144.trans (congrArg some (by kernel_rfl))
  f161 := Tryd.func108.trans (congrArg some (by kernel_rfl))
  f197 := Tryd.func155.trans (congrArg some (by kernel_rfl))
  f217 := Tryd.func105.trans (congrArg some (by kernel_rfl))
  f224 := Tryd.func159.trans (congrArg some (by kernel_rfl))
  f225 := Tryd.func158.trans (congrArg some (by kernel_rfl))
  f227 := Tryd.func136.trans (congrArg some (by kernel_rfl))
  f228 := Tryd.func146.trans (congrArg some (by kernel_rfl))
  f231 := Tryd.func135.trans (congrArg some (by kernel_rfl))
  f233 := Tryd.func137.trans (congrArg some (by kernel_rfl))
  f235 := Tryd.func138.trans (congrArg some (by kernel_rfl))
  f260 := Tryd.func167.trans (congrArg some (by kernel_rfl))
  f266 := Tryd.func134.trans (congrArg some (by kernel_rfl))
  t0 := Tryd.underlying0
  a0 := Tryd.isAgg0
  z0 := Tryd.sizeOf0
  v0 := Tryd.zeroValue0
  t3 := Tryd.underlying3
  a3 := Tryd.isAgg3
  z3 := Tryd.sizeOf3
  v3 := Tryd.zeroValue3
  t4 := Tryd.underlying4
  a4 := Tryd.isAgg4
  z4 := Tryd.sizeOf4
  v4 := Tryd.zeroValue4
  t5 := Tryd.underlying5
  a5 := Tryd.isAgg5
  z5 := Tryd.sizeOf5
  v5 := Tryd.zeroValue5
  t9 := Tryd.underlying9
  a9 := Tryd.isAgg9
  z9 := Tryd.sizeOf9
  v9 := Tryd.zeroValue9
  t21 := Tryd.underlying21
  a21 := Tryd.isAgg21
  z21 := Tryd.sizeOf21
  v21 := Tryd.zeroValue21
  t46 := Tryd.underlying41
  a46 := Tryd.isAgg41
  z46 := Tryd.sizeOf41
  v46 := Tryd.zeroValue41
  t105 := Tryd.underlying152
  a105 := Tryd.isAgg152
  z105 := Tryd.sizeOf152
  v105 := Tryd.zeroValue152
  t116 := Tryd.underlying143
  a116 := Tryd.isAgg143
  z116 := Tryd.sizeOf143
  t117 := Tryd.underlying144
  a117 := Tryd.isAgg144
  z117 := Tryd.sizeOf144
  v117 := Tryd.zeroValue144
  t119 := Tryd.underlying165
  a119 := Tryd.isAgg165
  z119 := Tryd.sizeOf165
  t124 := Tryd.underlying147
  a124 := Tryd.isAgg147
  z124 := Tryd.sizeOf147
  v124 := Tryd.zeroValue147
  t138 := Tryd.underlying167
  a138 := Tryd.isAgg167
  z138 := Tryd.sizeOf167
  v138 := Tryd.zeroValue167
  t139 := Tryd.underlying168
  a139 := Tryd.isAgg168
  z139 := Tryd.sizeOf168
  v139 := Tryd.zeroValue168
  g3 := by kernel_rfl
  g4 := by kernel_rfl }
open Go.RowKit in
theorem Tryd.strings_TrimLeft_one (s : ByteArray) (c : UInt8) (hc : c.toNat < 128) (w : World) :
    Calls Tryd.prog 108 #[.string s, .string ⟨#[c]⟩] w fun e w' => e = .returned (.string ⟨(Lib.trimLeftB s.data.toList c).toArray⟩) ∧ w' = w := Any.strings_TrimLeft_one Tryd.lays161 s c hc w
def Tryd.lays160_ren : Go.Shelf.Ren := ⟨fun | 160 => 125 | 232 => 148 | 231 => 135 | 227 => 136 | 234 => 149 | 233 => 137 | 236 => 150 | 235 => 138 | 228 => 146 | 271 => 164 | 151 => 157 | 197 => 155 | 120 => 170 | 152 => 144 | 260 => 167 | 137 => 68 | 119 => 163 | 224 => 159 | 225 => 158 | 217 => 105 | 266 => 134 | n => n, fun | 9 => 9 | 4 => 4 | 3 => 3 | 5 => 5 | 117 => 144 | 116 => 143 | 0 => 0 | 124 => 147 | 21 => 21 | 105 => 152 | 46 => 41 | 119 => 165 | 139 => 168 | 138 => 167 | n => n, fun | 3 => 1 | 4 => 2 | n => n⟩
theorem Tryd.lays160 : Go.Proofs.Lays.n160 Tryd.prog Tryd.lays160_ren := {
  mixed := by kernel_rfl
  f119 := Tryd.func163.trans (congrArg some (by kernel_rfl))
  f120 := Tryd.func170.trans (congrArg some (by kernel_rfl))
  f137 := Tryd.func68.trans (congrArg some (by kernel_rfl))
  f151 := Tryd.func157.trans (congrArg some (by kernel_rfl))
  f152 := Tryd.func144.trans (congrArg some (by kernel_rfl))
  f160 := Tryd.func125.trans (congrArg some (by kernel_rfl))
  f197 := Tryd.func155.trans (congrArg some (by kernel_rfl))
  f217 := Tryd.func105.trans (congrArg some (by kernel_rfl))
  f224 := Tryd.func159.trans (congrArg some (by kernel_rfl))
  f225 := Tryd.func158.trans (congrArg some (by kernel_rfl))
  f227 := Tryd.func136.trans (congrArg some (by kernel_rfl))
  f228 := Tryd.func146.trans (congrArg some (by kernel_rfl))
  f231 := Tryd.func135.trans (congrArg some (by kernel_rfl))
  f232 := Tryd.func148.trans (congrArg some (by kernel_rfl))
  f233 := Tryd.func137.trans (congrArg some (by kernel_rfl))
  f234 := Tryd.func149.trans (congrArg some (by kernel_rfl))
  f235 := Tryd.func138.trans (congrArg some (by kernel_rfl))
  f236 := Tryd.func150.trans (congrArg some (by kernel_rfl))
  f260 := Tryd.func167.trans (congrArg some (by kernel_rfl))
  f266 := Tryd.func134.trans (congrArg some (by kernel_rfl))
  f271 := Tryd.func164.trans (congrArg some (by kernel_rfl))
  t0 := Tryd.underlying0
  a0 := Tryd.isAgg0
  z0 := Tryd.sizeOf0
  v0 := Tryd.zeroValue0
  t3 := Tryd.underlying3
  a3 := Tryd.isAgg3
  z3 := Tryd.sizeOf3
  v3 := Tryd.zeroValue3
  t4 := Tryd.underlying4
  a4 := Tryd.isAgg4
  z4 := Tryd.sizeOf4
  v4 := Tryd.zeroValue4
  t5 := Tryd.underlying5
  a5 := Tryd.isAgg5
  z5 := Tryd.sizeOf5
  v5 := Tryd.zeroValue5
  t9 := Tryd.underlying9
  a9 := Tryd.isAgg9
  z9 := Tryd.sizeOf9
  v9 := Tryd.zeroValue9
  t21 := Tryd.underlying21
  a21 := Tryd.isAgg21
  z21 := Tryd.sizeOf21
  v21 := Tryd.zeroValue21
  t46 := Tryd.underlying41
  a46 := Tryd.isAgg41
  z46 := Tryd.sizeOf41
  v46 := Tryd.zeroValue41
  t105 := Tryd.underlying152
  a105 := Tryd.isAgg152
  z105 := Tryd.sizeOf152
  v105 := Tryd.zeroValue152
  t116 := Tryd.underlying143
  a116 := Tryd.isAgg143
  z116 := Tryd.sizeOf143
  t117 := Tryd.underlying144
  a117 := Tryd.isAgg144
  z117 := Tryd.sizeOf144
  v117 := Tryd.zeroValue144
  t119 := Tryd.underlying165
  a119 := Tryd.isAgg165
  z119 := Tryd.sizeOf165
  t124 := Tryd.underlying147
  a124 := Tryd.isAgg147
  z124 := Tryd.sizeOf147
  v124 := Tryd.zeroValue147
  t138 := Tryd.underlying167
  a138 := Tryd.isAgg167
  z138 := Tryd.sizeOf167
  v138 := Tryd.zeroValue167
  t139 := Tryd.underlying168
  a139 := Tryd.isAgg168
  z139 := Tryd.sizeOf168
  v139 := Tryd.zeroValue168
  g3 := by kernel_rfl
  g4 := by kernel_rfl }
open Go.RowKit in
theorem Tryd.strings_Trim_one (s : ByteArray) (c : UInt8) (hc : c.toNat < 128) (w : World) (hs : s.size ≤ 9223372036854775807) :
    Calls Tryd.prog 125 #[.string s, .string ⟨#[c]⟩] w fun e w' => e = .returned (.string ⟨(Lib.trimB s.data.toList c).toArray⟩) ∧ (w' = w ∨ w' = w.drew) := Any.strings_Trim_one Tryd.lays160 s c hc w hs
def Tryd.lays119_ren : Go.Shelf.Ren := ⟨fun | 119 => 163 | n => n, fun | 21 => 21 | 4 => 4 | n => n, fun | n => n⟩
theorem Tryd.lays119 : Go.Proofs.Lays.n119 Tryd.prog Tryd.lays119_ren := {
  mixed := by kernel_rfl
  f119 := Tryd.func163.trans (congrArg some (by kernel_rfl))
  t4 := Tryd.underlying4
  a4 := Tryd.isAgg4
  z4 := Tryd.sizeOf4
  v4 := Tryd.zeroValue4
  t21 := Tryd.underlying21
  a21 := Tryd.isAgg21
  z21 := Tryd.sizeOf21
  v21 := Tryd.zeroValue21 }
theorem Tryd.utf8_ValidRune (r : Int) (w : World) :
    Calls Tryd.prog 163 #[.int .i32 r] w fun e w' => e = .returned (.bool (Lib.validRune r)) ∧ w' = w := Any.utf8_ValidRune Tryd.lays119 r w
def Tryd.lays137_ren : Go.Shelf.Ren := ⟨fun | 137 => 68 | 217 => 105 | 266 => 134 | n => n, fun | 9 => 9 | 5 => 5 | 3 => 3 | n => n, fun | n => n⟩
theorem Tryd.lays137 : Go.Proofs.Lays.n137 Tryd.prog Tryd.lays137_ren := {
  mixed := by kernel_rfl
  f137 := Tryd.func68.trans (congrArg some (by kernel_rfl))
  f217 := Tryd.func105.trans (congrArg some (by kernel_rfl))
  f266 := Tryd.func134.trans (congrArg some (by kernel_rfl))
  t3 := Tryd.underlying3
  a3 := Tryd.isAgg3
  z3 := Tryd.sizeOf3
  v3 := Tryd.zeroValue3
  t5 := Tryd.underlying5
  a5 := Tryd.isAgg5
  z5 := Tryd.sizeOf5
  v5 := Tryd.zeroValue5
  t9 := Tryd.underlying9
  a9 := Tryd.isAgg9
  z9 := Tryd.sizeOf9
  v9 := Tryd.zeroValue9 }
open Go.RowKit in
theorem Tryd.strings_IndexByte (s : ByteArray) (c : Int) (w : World) :
    Calls Tryd.prog 68 #[.string s, .int .u8 c] w fun e w' => e = .returned (.int .i64 (Lib.indexByte s.data.toList c.toNat.toUInt8)) ∧ w' = w := Any.strings_IndexByte Tryd.lays137 s c w
def Tryd.lays215_ren : Go.Shelf.Ren := ⟨fun | 215 => 171 | n => n, fun | 3 => 3 | 4 => 4 | n => n, fun | n => n⟩
def Tryd.lays219_ren : Go.Shelf.Ren := ⟨fun | 219 => 139 | 217 => 105 | 225 => 158 | 224 => 159 | 267 => 160 | 266 => 134 | 314 => 168 | n => n, fun | 9 => 9 | 3 => 3 | 4 => 4 | 5 => 5 | 46 => 41 | 146 => 162 | 51 => 161 | n => n, fun | 1 => 0 | n => n⟩
def Tryd.lays145_ren : Go.Shelf.Ren := ⟨fun | 145 => 124 | 220 => 147 | 219 => 139 | 217 => 105 | 225 => 158 | 224 => 159 | 267 => 160 | 266 => 134 | 314 => 168 | n => n, fun | 9 => 9 | 4 => 4 | 59 => 128 | 3 => 3 | 5 => 5 | 46 => 41 | 146 => 162 | 51 => 161 | n => n, fun | 1 => 0 | n => n⟩
theorem Tryd.lays145 : Go.Proofs.Lays.n145 Tryd.prog Tryd.lays145_ren := {
  mixed := by kernel_rfl
  f145 := Tryd.func124.trans (congrArg some (by kernel_rfl))
  f217 := Tryd.func105.trans (congrArg some (by kernel_rfl))
  f219 := Tryd.func139.trans (congrArg some (by kernel_rfl))
  f220 := Tryd.func147.trans (congrArg some (by kernel_rfl))
  f224 := Tryd.func159.trans (congrArg some (by kernel_rfl))
  f225 := Tryd.func158.trans (congrArg some (by kernel_rfl))
  f266 := Tryd.func134.trans (congrArg some (by kernel_rfl))
  f267 := Tryd.func160.trans (congrArg some (by kernel_rfl))
  f314 := Tryd.func168.trans (congrArg some (by kernel_rfl))
  t3 := Tryd.underlying3
  a3 := Tryd.isAgg3
  z3 := Tryd.sizeOf3
  v3 := Tryd.zeroValue3
  t4 := Tryd.underlying4
  a4 := Tryd.isAgg4
  z4 := Tryd.sizeOf4
  v4 := Tryd.zeroValue4
  t5 := Tryd.underlying5
  a5 := Tryd.isAgg5
  z5 := Tryd.sizeOf5
  v5 := Tryd.zeroValue5
  t9 := Tryd.underlying9
  a9 := Tryd.isAgg9
  z9 := Tryd.sizeOf9
  v9 := Tryd.zeroValue9
  t46 := Tryd.underlying41
  a46 := Tryd.isAgg41
  z46 := Tryd.sizeOf41
  v46 := Tryd.zeroValue41
  t51 := Tryd.underlying161
  a51 := Tryd.isAgg161
  z51 := Tryd.sizeOf161
  v51 := Tryd.zeroValue161
  t59 := Tryd.underlying128
  a59 := Tryd.isAgg128
  z59 := Tryd.sizeOf128
  v59 := Tryd.zeroValue128
  t146 := Tryd.underlying162
  a146 := Tryd.isAgg162
  z146 := Tryd.sizeOf162
  v146 := Tryd.zeroValue162
  g1 := by kernel_rfl }
open Go.RowKit Go.Lib in
theorem Tryd.strings_Cut (s sep : ByteArray) (m : Int) (w : World) (hs : s.size < 4294967281) (hm : w.cell? ⟨0, 0, none⟩ = some (.int .i64 m)) :
    Calls Tryd.prog 124 #[.string s, .string sep] w fun e w' => e = .returned (.tuple #[.string ⟨(Lib.cut s.data.toList sep.data.toList).1.toArray⟩, .string ⟨(Lib.cut s.data.toList sep.data.toList).2.1.toArray⟩, .bool (Lib.cut s.data.toList sep.data.toList).2.2]) ∧ ∃ n, w' = w.drewN n := Any.strings_Cut Tryd.lays145 s sep m w hs hm
def Tryd.lays152_ren : Go.Shelf.Ren := ⟨fun | 152 => 144 | 137 => 68 | 119 => 163 | 224 => 159 | 225 => 158 | 217 => 105 | 266 => 134 | n => n, fun | 9 => 9 | 21 => 21 | 3 => 3 | 4 => 4 | 5 => 5 | 0 => 0 | 46 => 41 | n => n, fun | n => n⟩
theorem Tryd.lays152 : Go.Proofs.Lays.n152 Tryd.prog Tryd.lays152_ren := {
  mixed := by kernel_rfl
  f119 := Tryd.func163.trans (congrArg some (by kernel_rfl))
  f137 := Tryd.func68.trans (congrArg some (by kernel_rfl))
  f152 := Tryd.func144.trans (congrArg some (by kernel_rfl))
  f217 := Tryd.func105.trans (congrArg some (by kernel_rfl))
  f224 := Tryd.func159.trans (congrArg some (by kernel_rfl))
  f225 := Tryd.func158.trans (congrArg some (by kernel_rfl))
  f266 := Tryd.func134.trans (congrArg some (by kernel_rfl))
  t0 := Tryd.underlying0
  a0 := Tryd.isAgg0
  z0 := Tryd.sizeOf0
  v0 := Tryd.zeroValue0
  t3 := Tryd.underlying3
  a3 := Tryd.isAgg3
  z3 := Tryd.sizeOf3
  v3 := Tryd.zeroValue3
  t4 := Tryd.underlying4
  a4 := Tryd.isAgg4
  z4 := Tryd.sizeOf4
  v4 := Tryd.zeroValue4
  t5 := Tryd.underlying5
  a5 := Tryd.isAgg5
  z5 := Tryd.sizeOf5
  v5 := Tryd.zeroValue5
  t9 := Tryd.underlying9
  a9 := Tryd.isAgg9
  z9 := Tryd.sizeOf9
  v9 := Tryd.zeroValue9
  t21 := Tryd.underlying21
  a21 := Tryd.isAgg21
  z21 := Tryd.sizeOf21
  v21 := Tryd.zeroValue21
  t46 := Tryd.underlying41
  a46 := Tryd.isAgg41
  z46 := Tryd.sizeOf41
  v46 := Tryd.zeroValue41 }
open Go.RowKit Go.Lib in
theorem Tryd.strings_IndexRune_ascii (s : ByteArray) (r : Int) (w : World) (h0 : 0 ≤ r) (h1 : r < 128) :
    Calls Tryd.prog 144 #[.string s, .int .i32 r] w fun e w' => e = .returned (.int .i64 (Lib.indexByte s.data.toList r.toNat.toUInt8)) ∧ w' = w := Any.strings_IndexRune_ascii Tryd.lays152 s r w h0 h1
def Tryd.lays226_ren : Go.Shelf.Ren := ⟨fun | 226 => 145 | n => n, fun | 3 => 3 | 4 => 4 | n => n, fun | n => n⟩
theorem Tryd.lays226 : Go.Proofs.Lays.n226 Tryd.prog Tryd.lays226_ren := {
  mixed := by kernel_rfl
  f226 := Tryd.func145.trans (congrArg some (by kernel_rfl))
  t3 := Tryd.underlying3
  a3 := Tryd.isAgg3
  z3 := Tryd.sizeOf3
  v3 := Tryd.zeroValue3
  t4 := Tryd.underlying4
  a4 := Tryd.isAgg4
  z4 := Tryd.sizeOf4
  v4 := Tryd.zeroValue4 }
open Go.RowKit Go.Lib in
theorem Tryd.strings_shouldUseASCIISet (n : Int) (w : World) :
    Calls Tryd.prog 145 #[.int .i64 n] w fun e w' => e = .returned (.bool (decide (8 < n))) ∧ w' = w := Any.strings_shouldUseASCIISet Tryd.lays226 n w
def Tryd.lays153_ren : Go.Shelf.Ren := ⟨fun | 153 => 123 | 152 => 144 | 226 => 145 | 227 => 136 | 228 => 146 | 137 => 68 | 119 => 163 | 224 => 159 | 225 => 158 | 217 => 105 | 266 => 134 | n => n, fun | 9 => 9 | 3 => 3 | 4 => 4 | 5 => 5 | 21 => 21 | 117 => 144 | 116 => 143 | 0 => 0 | 46 => 41 | 124 => 147 | n => n, fun | n => n⟩
theorem Tryd.lays153 : Go.Proofs.Lays.n153 Tryd.prog Tryd.lays153_ren := {
  mixed := by kernel_rfl
  f119 := Tryd.func163.trans (congrArg some (by kernel_rfl))
  f137 := Tryd.func68.trans (congrArg some (by kernel_rfl))
  f152 := Tryd.func144.trans (congrArg some (by kernel_rfl))
  f153 := Tryd.func123.trans (congrArg some (by kernel_rfl))
  f217 := Tryd.func105.trans (congrArg some (by kernel_rfl))
  f224 := Tryd.func159.trans (congrArg some (by kernel_rfl))
  f225 := Tryd.func158.trans (congrArg some (by kernel_rfl))
  f226 := Tryd.func145.trans (congrArg some (by kernel_rfl))
  f227 := Tryd.func136.trans (congrArg some (by kernel_rfl))
  f228 := Tryd.func146.trans (congrArg some (by kernel_rfl))
  f266 := Tryd.func134.trans (congrArg some (by kernel_rfl))
  t0 := Tryd.underlying0
  a0 := Tryd.isAgg0
  z0 := Tryd.sizeOf0
  v0 := Tryd.zeroValue0
  t3 := Tryd.underlying3
  a3 := Tryd.isAgg3
  z3 := Tryd.sizeOf3
  v3 := Tryd.zeroValue3
  t4 := Tryd.underlying4
  a4 := Tryd.isAgg4
  z4 := Tryd.sizeOf4
  v4 := Tryd.zeroValue4
  t5 := Tryd.underlying5
  a5 := Tryd.isAgg5
  z5 := Tryd.sizeOf5
  v5 := Tryd.zeroValue5
  t9 := Tryd.underlying9
  a9 := Tryd.isAgg9
  z9 := Tryd.sizeOf9
  v9 := Tryd.zeroValue9
  t21 := Tryd.underlying21
  a21 := Tryd.isAgg21
  z21 := Tryd.sizeOf21
  v21 := Tryd.zeroValue21
  t46 := Tryd.underlying41
  a46 := Tryd.isAgg41
  z46 := Tryd.sizeOf41
  v46 := Tryd.zeroValue41
  t116 := Tryd.underlying143
  a116 := Tryd.isAgg143
  z116 := Tryd.sizeOf143
  t117 := Tryd.underlying144
  a117 := Tryd.isAgg144
  z117 := Tryd.sizeOf144
  v117 := Tryd.zeroValue144
  t124 := Tryd.underlying147
  a124 := Tryd.isAgg147
  z124 := Tryd.sizeOf147
  v124 := Tryd.zeroValue147 }
open Go.RowKit Go.Lib in
theorem Tryd.strings_IndexAny_long (hv116 : ∀ w, (zeroValue 143).run Tryd.prog w = .ok (.agg (Array.replicate 256 (.bool false))) w) (s chars : ByteArray) (w : World) (h2 : 2 ≤ chars.size) (h8 : 8 < s.size) (hs : s.size < 4294967281) (hcs : chars.size < 4294967281) (hascii : ∀ (j : Nat) b, chars.data.toList[j]? = some b → b.toNat < 128) :
    Calls Tryd.prog 123 #[.string s, .string chars] w fun e w' => e = .returned (.int .i64 (Lib.indexAny s.data.toList chars.data.toList)) ∧ w' = ((w.alloc (.cells (Lib.setCells chars.data.toList) 143)).alloc (.cells (Lib.setCells chars.data.toList) 143)) := Any.strings_IndexAny_long Tryd.lays153 hv116 (by kernel_rfl) s chars w h2 h8 hs hcs hascii
end Go.Proofs
namespace Go.Proofs.YtgdjfcmmpjcaaaaDoor.Q
open Go.RowKit Go.Proofs.YtgdjfcmmpjcaaaaDoorW.PrintWords Go.Proofs.YtgdjfcmmpjcaaaaDoorW.PrintLast Go.Proofs.YtgdjfcmmpjcaaaaDoorW.Own Go.Proofs.YtgdjfcmmpjcaaaaDoorW.PrintMore
attribute [local go_sem] max2_int min2_int max_two min_two max_three min_three max_four min_four   -- for this text's walks alone
set_option linter.unusedVariables false
set_option linter.unusedSimpArgs false
set_option maxHeartbeats 8000000
set_option maxRecDepth 100000
def strings_IndexByte.f (a0 : ByteArray) (a1 : Int) : Option Int := some (Lib.indexByte a0.data.toList a1.toNat.toUInt8)
theorem strings_IndexByte.calls (a0 : ByteArray) (a1 : Int) (r : Int) (w : World) (hG : Glob w) (h : strings_IndexByte.f a0 a1 = some r) :
 Calls Tryd.prog 68 #[.string a0, .int .u8 a1] w fun e w' => e = .returned (.int .i64 r) ∧ Drawn0 w w' := by
 obtain rfl := Option.some.inj h
 exact (Tryd.strings_IndexByte a0 a1 w).mono fun e w' hh => ⟨hh.1, ⟨⟨0, hh.2⟩⟩⟩
def words_Right_1.f (a0 : Int) : Option (Bool) := if a0 < 33 then (some true) else (if a0 > 126 then (some true) else ((strings_IndexByte.f (⟨#[91, 93, 40, 41, 44]⟩ : ByteArray) a0).bind fun t108 => (some (decide (t108 ≥ 0)))))
theorem words_Right_1.calls (a0 : Int) (r : Bool) (w : World) (hG : Glob w) (h : words_Right_1.f a0 = some r) :
 Calls Tryd.prog 67 #[.int .u8 a0] w fun e w' => e = .returned (.bool r) ∧ Drawn0 w w' := by
 have HG := Aside0.mk hG
 clear hG
 have H : (if a0 < 33 then (some true) else (if a0 > 126 then (some true) else ((strings_IndexByte.f (⟨#[91, 93, 40, 41, 44]⟩ : ByteArray) a0).bind fun t108 => (some (decide (t108 ≥ 0)))))) = some r := h
 clear h
 by_cases c2 : a0 < 33
 ·rw [if_pos c2] at H
  have c2b0 := dT c2
  clear c2
  obtain rfl := Option.some.inj H
  go_enter Tryd.func67, Tryd.ntmps67
  go_wp2
  go_ret
  exact ⟨by first | rfl | (simp; done) | (simp [*]; done), by repeat (first | exact Drawn0.refl _ | apply Drawn0.step)⟩
 rw [if_neg c2] at H
 have c2b0 := dF c2
 clear c2
 by_cases c3 : a0 > 126
 ·rw [if_pos c3] at H
  have c3b0 := dT c3
  clear c3
  obtain rfl := Option.some.inj H
  go_enter Tryd.func67, Tryd.ntmps67
  go_wp2
  go_ret
  exact ⟨by first | rfl | (simp; done) | (simp [*]; done), by repeat (first | exact Drawn0.refl _ | apply Drawn0.step)⟩
 rw [if_neg c3] at H
 have c3b0 := dF c3
 clear c3
 replace H := bi H
 obtain ⟨t108, A40, H⟩ := H
 try dsimp only at H
 have A4 := Aside0.mk A40
 clear A40
 obtain rfl := Option.some.inj H
 go_enter Tryd.func67, Tryd.ntmps67
 go_wp2_with (first | (go_at_call 68; (with_reducible refine (strings_IndexByte.calls (⟨#[91, 93, 40, 41, 44]⟩ : ByteArray) a0 t108 _ ?side1 A4.out).mono ?_); (case side1 => exact Glob.drawn HG.out (by repeat (first | exact Drawn0.refl _ | apply Drawn0.step))); rintro e w' ⟨rfl, ⟨nd, rfl⟩⟩))
 go_ret
 exact ⟨by first | rfl | (simp; done) | (simp [*]; done), by repeat (first | exact Drawn0.refl _ | apply Drawn0.step)⟩
def slices_IndexFunc_byte_byte.l0 : Nat → List Int → Int → Int → Option (Int)
 | 0, _, _, _ => none
 | k + 1, x0, x7, x8 => if x8 < x7 then (if 0 ≤ x8 then (if x8 < (x0.length : Int) then ((words_Right_1.f (rd x0 x8)).bind fun t110 => (if t110 = true then (some x8) else (slices_IndexFunc_byte_byte.l0 k x0 x7 (wrap64 (x8 + 1))))) else (none)) else (none)) else (some (-1))
def slices_IndexFunc_byte_byte.f (k : Nat) (l0 : List Int)  : Option (Int) := slices_IndexFunc_byte_byte.l0 k l0 (l0.length : Int) 0
theorem slices_IndexFunc_byte_byte.mono_l : ∀ k, (∀ y0 y1 y2, LeO (slices_IndexFunc_byte_byte.l0 k y0 y1 y2) (slices_IndexFunc_byte_byte.l0 (k + 1) y0 y1 y2))
 | 0 => fun _ _ _ r h => by simp [slices_IndexFunc_byte_byte.l0] at h
 | k + 1 => by
  have ih0 := slices_IndexFunc_byte_byte.mono_l k
  ·intro y0 y1 y2
   unfold slices_IndexFunc_byte_byte.l0
   exact mo
theorem slices_IndexFunc_byte_byte.mono : ∀ a0 k, LeO (slices_IndexFunc_byte_byte.f k a0) (slices_IndexFunc_byte_byte.f (k + 1) a0) := by
 intro a0 k
 have ih0 := slices_IndexFunc_byte_byte.mono_l k
 unfold slices_IndexFunc_byte_byte.f
 exact mo
theorem slices_IndexFunc_byte_byte.calls (k : Nat) (A0 : Option Addr) (c0 : Nat) (l0 : List Int)  (r : Int) (w : World) (hr0 : Kd.C (Kd.int .u8) w A0 l0.length l0) (hc0 : l0.length ≤ c0) (hG : Glob w) (h : slices_IndexFunc_byte_byte.f k l0 = some r) :
 Calls Tryd.prog 104 #[.slice A0 l0.length c0, .func (.func 67) #[] #[]] w fun e w' => e = .returned (.int .i64 r) ∧ Drawn0 w w' := by
 have HG := Aside0.mk hG
 clear hG
 have HR0 := Aside0.mk hr0
 have HC0 := Aside0.mk hc0
 clear hr0 hc0
 have H : (slices_IndexFunc_byte_byte.l0 k l0 (l0.length : Int) 0) = some r := h
 clear h
 have H' := Aside0.mk H
 clear H
 go_enter Tryd.func104, Tryd.ntmps104
 go_wp2
 go_loopg [8] k (fun kq v8 w' => ∃ (x8_1 : Int), v8 = .int .i64 x8_1 ∧ Aside0 (slices_IndexFunc_byte_byte.l0 kq l0 (l0.length : Int) x8_1 = some r) ∧ Aside0 (kq ≤ k) ∧ Drawn0 w w')
 case atStart => exact ⟨(0), cA, H', ⟨Nat.le_refl _⟩, by repeat (first | exact Drawn0.refl _ | apply Drawn0.step)⟩
 clear H'
 try clear c1
 try clear p2
 obtain ⟨x8_1, rfl, HA, HK1, ⟨m1, rfl⟩⟩ := hrel
 cases gk with
 | zero => exact absurd HA.out (by simp [slices_IndexFunc_byte_byte.l0])
 | succ k1 =>
  have H := HA.out
  clear HA
  simp only [slices_IndexFunc_byte_byte.l0] at H
  by_cases c3 : x8_1 < (l0.length : Int)
  rotate_left
  ·rw [if_neg c3] at H
   have c3b0 := dF c3
   clear c3
   obtain rfl := Option.some.inj H
   go_wp2
   go_ret
   exact ⟨by first | rfl | (simp; done) | (simp [*]; done), by repeat (first | exact Drawn0.refl _ | apply Drawn0.step)⟩
  rw [if_pos c3] at H
  have c3b0 := dT c3
  clear c3
  by_cases c4 : 0 ≤ x8_1
  rotate_left
  ·rw [if_neg c4] at H
   exact absurd H (by simp)
  rw [if_pos c4] at H
  have c4b0 := dT c4
  clear c4
  by_cases c5 : x8_1 < (l0.length : Int)
  rotate_left
  ·rw [if_neg c5] at H
   exact absurd H (by simp)
  rw [if_pos c5] at H
  have c5b0 := dT c5
  clear c5
  replace H := bi H
  obtain ⟨t110, A60, H⟩ := H
  try dsimp only at H
  have A6 := Aside0.mk A60
  clear A60
  by_cases c7 : t110 = true
  ·subst c7
   have H1 : (some x8_1) = some r := by rw [if_pos rfl] at H; exact H
   clear H
   have H := H1
   clear H1
   obtain rfl := Option.some.inj H
   have p109 : 0 ≤ (x8_1 : Int) := dA
   have q109 : x8_1 < (l0.length : Int) := dA
   obtain ⟨ad109, e109, hx109_0⟩ := Kd.at_int HR0.out x8_1 p109 q109
   cases e109
   replace p109 := eq_true p109
   replace q109 := eq_true q109
   go_wp2_with (first | (go_at_call 67; (with_reducible refine (words_Right_1.calls (rd l0 x8_1) true _ ?side1 A6.out).mono ?_); (case side1 => exact Glob.drawn HG.out (by repeat (first | exact Drawn0.refl _ | apply Drawn0.step))); rintro e w' ⟨rfl, ⟨nd, rfl⟩⟩))
   go_ret
   exact ⟨by first | rfl | (simp; done) | (simp [*]; done), by repeat (first | exact Drawn0.refl _ | apply Drawn0.step)⟩
  replace c7 := Bool.eq_false_iff.mpr c7
  subst c7
  have H1 : (slices_IndexFunc_byte_byte.l0 k1 l0 (l0.length : Int) (wrap64 (x8_1 + 1))) = some r := by rw [if_neg (show ¬ (false = true) by decide)] at H; exact H
  clear H
  have H := H1
  clear H1
  have H' := Aside0.mk H
  clear H
  have p109 : 0 ≤ (x8_1 : Int) := dA
  have q109 : x8_1 < (l0.length : Int) := dA
  obtain ⟨ad109, e109, hx109_0⟩ := Kd.at_int HR0.out x8_1 p109 q109
  cases e109
  replace p109 := eq_true p109
  replace q109 := eq_true q109
  go_wp2_with (first | (go_at_call 67; (with_reducible refine (words_Right_1.calls (rd l0 x8_1) false _ ?side1 A6.out).mono ?_); (case side1 => exact Glob.drawn HG.out (by repeat (first | exact Drawn0.refl _ | apply Drawn0.step))); rintro e w' ⟨rfl, ⟨nd, rfl⟩⟩))
  go_roundg k1
  case measure => have := HK1.out; omega
  case rel => exact ⟨(wrap64 (x8_1 + 1)), cA, H', ⟨by have := HK1.out; omega⟩, by repeat (first | exact Drawn0.refl _ | apply Drawn0.step)⟩
def slices_ContainsFunc_byte_byte.f (k : Nat) (l0 : List Int)  : Option (Bool) := (slices_IndexFunc_byte_byte.f k l0).bind fun t111 => (some (decide (t111 ≥ 0)))
theorem slices_ContainsFunc_byte_byte.mono : ∀ a0 k, LeO (slices_ContainsFunc_byte_byte.f k a0) (slices_ContainsFunc_byte_byte.f (k + 1) a0) := by
 intro a0 k
 unfold slices_ContainsFunc_byte_byte.f
 have m0 := @slices_IndexFunc_byte_byte.mono
 exact mo
theorem slices_ContainsFunc_byte_byte.calls (k : Nat) (A0 : Option Addr) (c0 : Nat) (l0 : List Int)  (r : Bool) (w : World) (hr0 : Kd.C (Kd.int .u8) w A0 l0.length l0) (hc0 : l0.length ≤ c0) (hG : Glob w) (h : slices_ContainsFunc_byte_byte.f k l0 = some r) :
 Calls Tryd.prog 66 #[.slice A0 l0.length c0, .func (.func 67) #[] #[]] w fun e w' => e = .returned (.bool r) ∧ Drawn0 w w' := by
 have HG := Aside0.mk hG
 clear hG
 have HR0 := Aside0.mk hr0
 have HC0 := Aside0.mk hc0
 clear hr0 hc0
 have H : ((slices_IndexFunc_byte_byte.f k l0).bind fun t111 => (some (decide (t111 ≥ 0)))) = some r := h
 clear h
 replace H := bi H
 obtain ⟨t111, A30, H⟩ := H
 try dsimp only at H
 have A3 := Aside0.mk A30
 clear A30
 obtain rfl := Option.some.inj H
 go_enter Tryd.func66, Tryd.ntmps66
 go_wp2_with (first | (refine gl (some 7) Tryd.func104 #[.slice A0 l0.length c0, .func (.func 67) #[] #[]] ?_; (with_reducible refine (slices_IndexFunc_byte_byte.calls k _ _ l0  t111 _ ?side1 ?side2 ?side3 A3.out).mono ?_); (case side1 => repeat (first | exact HR0.out | (with_reducible refine Kd.C_alloc ?_ _) | (with_reducible refine Kd.C_drewN ?_ _) | (with_reducible refine Kd.C_drew ?_))); (case side2 => exact HC0.out); (case side3 => exact Glob.drawn HG.out (by repeat (first | exact Drawn0.refl _ | apply Drawn0.step))); rintro e w' ⟨rfl, ⟨nd, rfl⟩⟩; refine ⟨_, rfl, ?_⟩))
 go_ret
 exact ⟨by first | rfl | (simp; done) | (simp [*]; done), by repeat (first | exact Drawn0.refl _ | apply Drawn0.step)⟩
def words_Right.f (k : Nat) (a0 : ByteArray) : Option Bool := if 1 ≤ a0.size ∧ a0.size ≤ 100 then (slices_ContainsFunc_byte_byte.f k (bytesOf a0)).bind fun t => some (!t) else some false
theorem words_Right.mono : ∀ a0 k, LeO (words_Right.f k a0) (words_Right.f (k + 1) a0) := by
 intro a0 k
 unfold words_Right.f
 exact LeO.ite (LeO.bind (slices_ContainsFunc_byte_byte.mono _ _) (fun _ => LeO.refl _)) (LeO.refl _)
theorem words_Right.calls (k : Nat) (a0 : ByteArray) (r : Bool) (w : World) (hG : Glob w) (h : words_Right.f k a0 = some r) :
 Calls Tryd.prog 28 #[.string a0] w fun e w' => e = .returned (.bool r) ∧ Below w.heap.size w w' := by
 unfold words_Right.f at h
 go_enter Tryd.func28, Tryd.ntmps28
 by_cases c1 : 1 ≤ a0.size
 rotate_left
 ·rw [if_neg (fun h => c1 h.1)] at h
  obtain rfl := Option.some.inj h
  have d1 : decide (1 ≤ (a0.size : Int)) = false := decide_eq_false (by omega)
  have d1' : decide (1 ≤ a0.size) = false := decide_eq_false (by omega)
  go_wp2
  go_ret
  exact ⟨rfl, Below.refl _ _⟩
 by_cases c2 : a0.size ≤ 100
 ·rw [if_pos ⟨c1, c2⟩] at h
  obtain ⟨t, ht, h⟩ := Option.bind_eq_some_iff.1 h
  obtain rfl := Option.some.inj h
  have d1 : decide (1 ≤ (a0.size : Int)) = true := decide_eq_true (by omega)
  have d1' : decide (1 ≤ a0.size) = true := decide_eq_true (by omega)
  have d2 : decide ((a0.size : Int) ≤ 100) = true := decide_eq_true (by omega)
  have d2' : decide (a0.size ≤ 100) = true := decide_eq_true (by omega)
  have kb := fun W => print_bytes (P := Tryd.prog) 9 30 5 Tryd.underlying9 Tryd.underlying30 Tryd.underlying5 a0 W
  go_wp2_with (fail)
  have hr : Kd.C (Kd.int .u8) (Lib.bytesWorld w 5 a0) (some ⟨w.heap.size, 0, none⟩) a0.size (bytesOf a0) := Kd.C_of_reads (enc := Value.int .u8) (d := (0 : Int)) (h1 := fun _ => rfl) (bytes_reads w 5 a0 (by omega))
  have hb : Below w.heap.size w (Lib.bytesWorld w 5 a0) := bytes_below (Below.refl _ _) (Nat.le_refl _) _ _
  rw [← bytesOf_length] at hr ⊢
  refine (slices_ContainsFunc_byte_byte.calls k _ _ (bytesOf a0) t _ hr ?_ (hG.step hb) ht).mono fun e w' hh => ?_
  ·rw [bytesOf_length]; exact grownCap_ge _ _ _ _
  obtain ⟨rfl, hd⟩ := hh
  go_wp2
  go_ret
  exact ⟨rfl, hb.trans (hd.below.mono hb.size)⟩
 ·rw [if_neg (fun h => c2 h.2)] at h
  obtain rfl := Option.some.inj h
  have d1 : decide (1 ≤ (a0.size : Int)) = true := decide_eq_true (by omega)
  have d1' : decide (1 ≤ a0.size) = true := decide_eq_true (by omega)
  have d2 : decide ((a0.size : Int) ≤ 100) = false := decide_eq_false (by omega)
  have d2' : decide (a0.size ≤ 100) = false := decide_eq_false (by omega)
  go_wp2
  go_ret
  exact ⟨rfl, Below.refl _ _⟩
def cmp_Or_int.l0 : Nat → Int → List Int → Int → Int → Option (Int)
 | 0, _, _, _, _ => none
 | k + 1, x3, x6, x7, x8 => if x8 < x7 then (if 0 ≤ x8 then (if x8 < (x6.length : Int) then (if (rd x6 x8) = x3 then (cmp_Or_int.l0 k x3 x6 x7 (wrap64 (x8 + 1))) else (some (rd x6 x8))) else (none)) else (none)) else (some x3)
def cmp_Or_int.f (k : Nat) (l0 : List Int) : Option (Int) := cmp_Or_int.l0 k 0 l0 (l0.length : Int) 0
theorem cmp_Or_int.mono_l : ∀ k, (∀ y0 y1 y2 y3, LeO (cmp_Or_int.l0 k y0 y1 y2 y3) (cmp_Or_int.l0 (k + 1) y0 y1 y2 y3))
 | 0 => fun _ _ _ _ r h => by simp [cmp_Or_int.l0] at h
 | k + 1 => by
  have ih0 := cmp_Or_int.mono_l k
  ·intro y0 y1 y2 y3
   unfold cmp_Or_int.l0
   exact mo
theorem cmp_Or_int.mono : ∀ a0 k, LeO (cmp_Or_int.f k a0) (cmp_Or_int.f (k + 1) a0) := by
 intro a0 k
 have ih0 := cmp_Or_int.mono_l k
 unfold cmp_Or_int.f
 exact mo
theorem cmp_Or_int.calls (k : Nat) (A0 : Option Addr) (c0 : Nat) (l0 : List Int) (r : Int) (w : World) (hr0 : Kd.C (Kd.int .i64) w A0 l0.length l0) (hc0 : l0.length ≤ c0) (hG : Glob w) (h : cmp_Or_int.f k l0 = some r) :
 Calls Tryd.prog 112 #[.slice A0 l0.length c0] w fun e w' => e = .returned (.int .i64 r) ∧ Drawn0 w w' := by
 have HG := Aside0.mk hG
 clear hG
 have HR0 := Aside0.mk hr0
 have HC0 := Aside0.mk hc0
 clear hr0 hc0
 have H : (cmp_Or_int.l0 k 0 l0 (l0.length : Int) 0) = some r := h
 clear h
 have H' := Aside0.mk H
 clear H
 go_enter Tryd.func112, Tryd.ntmps112
 go_wp2
 go_loopg [8] k (fun kq v8 w' => ∃ (x8_1 : Int), v8 = .int .i64 x8_1 ∧ Aside0 (cmp_Or_int.l0 kq 0 l0 (l0.length : Int) x8_1 = some r) ∧ Aside0 (kq ≤ k) ∧ Drawn0 w w')
 case atStart => exact ⟨(0), cA, H', ⟨Nat.le_refl _⟩, by repeat (first | exact Drawn0.refl _ | apply Drawn0.step)⟩
 clear H'
 try clear c1
 obtain ⟨x8_1, rfl, HA, HK1, ⟨m1, rfl⟩⟩ := hrel
 cases gk with
 | zero => exact absurd HA.out (by simp [cmp_Or_int.l0])
 | succ k1 =>
  have H := HA.out
  clear HA
  simp only [cmp_Or_int.l0] at H
  by_cases c2 : x8_1 < (l0.length : Int)
  rotate_left
  ·rw [if_neg c2] at H
   have c2b0 := dF c2
   clear c2
   obtain rfl := Option.some.inj H
   go_wp2
   go_ret
   exact ⟨by first | rfl | (simp; done) | (simp [*]; done), by repeat (first | exact Drawn0.refl _ | apply Drawn0.step)⟩
  rw [if_pos c2] at H
  have c2b0 := dT c2
  clear c2
  by_cases c3 : 0 ≤ x8_1
  rotate_left
  ·rw [if_neg c3] at H
   exact absurd H (by simp)
  rw [if_pos c3] at H
  have c3b0 := dT c3
  clear c3
  by_cases c4 : x8_1 < (l0.length : Int)
  rotate_left
  ·rw [if_neg c4] at H
   exact absurd H (by simp)
  rw [if_pos c4] at H
  have c4b0 := dT c4
  clear c4
  by_cases c5 : (rd l0 x8_1) = 0
  rotate_left
  ·rw [if_neg c5] at H
   obtain ⟨c5b0, c5b1⟩ := eqF c5
   obtain rfl := Option.some.inj H
   have p318 : 0 ≤ (x8_1 : Int) := dA
   have q318 : x8_1 < (l0.length : Int) := dA
   obtain ⟨ad318, e318, hx318_0⟩ := Kd.at_int HR0.out x8_1 p318 q318
   cases e318
   replace p318 := eq_true p318
   replace q318 := eq_true q318
   go_wp2
   go_ret
   exact ⟨by first | rfl | (simp; done) | (simp [*]; done), by repeat (first | exact Drawn0.refl _ | apply Drawn0.step)⟩
  rw [if_pos c5] at H
  obtain ⟨c5b0, c5b1⟩ := eqT c5
  clear c5
  have H' := Aside0.mk H
  clear H
  have p318 : 0 ≤ (x8_1 : Int) := dA
  have q318 : x8_1 < (l0.length : Int) := dA
  obtain ⟨ad318, e318, hx318_0⟩ := Kd.at_int HR0.out x8_1 p318 q318
  cases e318
  replace p318 := eq_true p318
  replace q318 := eq_true q318
  go_wp2
  go_roundg k1
  case measure => have := HK1.out; omega
  case rel => exact ⟨(wrap64 (x8_1 + 1)), cA, H', ⟨by have := HK1.out; omega⟩, by repeat (first | exact Drawn0.refl _ | apply Drawn0.step)⟩
def cmp_isNaN_string.f (a0 : ByteArray) : Option (Bool) := some (a0.toList != a0.toList)
theorem cmp_isNaN_string.calls (a0 : ByteArray) (r : Bool) (w : World) (hG : Glob w) (h : cmp_isNaN_string.f a0 = some r) :
 Calls Tryd.prog 140 #[.string a0] w fun e w' => e = .returned (.bool r) ∧ Drawn0 w w' := by
 have HG := Aside0.mk hG
 clear hG
 have H : (some (a0.toList != a0.toList)) = some r := h
 clear h
 obtain rfl := Option.some.inj H
 go_enter Tryd.func140, Tryd.ntmps140
 go_wp2
 go_ret
 exact ⟨by first | rfl | (simp; done) | (simp [*]; done), by repeat (first | exact Drawn0.refl _ | apply Drawn0.step)⟩
section
theorem bytesLess_turn : ∀ x y : List UInt8, (!(Op.bytesLess x y || x == y)) = Op.bytesLess y x
 | [], [] => rfl
 | [], _ :: _ => rfl
 | _ :: _, [] => rfl
 | a :: x, b :: y => by
  have ih := bytesLess_turn x y
  rcases Nat.lt_trichotomy a.toNat b.toNat with h | h | h
  ·have h1 : decide (a < b) = true := decide_eq_true (UInt8.lt_iff_toNat_lt.2 h)
   have h2 : decide (b < a) = false := decide_eq_false (fun g => by have := UInt8.lt_iff_toNat_lt.1 g; omega)
   have h3 : (b == a) = false := by rw [Bool.eq_false_iff]; intro g; rw [beq_iff_eq] at g; rw [g] at h; omega
   simp [Op.bytesLess, h1, h2, h3]
  ·obtain rfl : a = b := UInt8.toNat_inj.1 h
   have h1 : decide (a < a) = false := decide_eq_false (fun g => by have := UInt8.lt_iff_toNat_lt.1 g; omega)
   simp only [Op.bytesLess, h1, beq_self_eq_true, Bool.true_and, Bool.false_or]
   rw [← ih]
   simp
  ·have h1 : decide (b < a) = true := decide_eq_true (UInt8.lt_iff_toNat_lt.2 h)
   have h2 : decide (a < b) = false := decide_eq_false (fun g => by have := UInt8.lt_iff_toNat_lt.1 g; omega)
   have h3 : (a == b) = false := by rw [Bool.eq_false_iff]; intro g; rw [beq_iff_eq] at g; rw [g] at h; omega
   have h4 : ¬ a = b := by simpa using h3
   simp [Op.bytesLess, h1, h2, h3, h4]
theorem binOp_gtr_turned (t : TypeId) (a b : ByteArray) : binOp .gtr t (.string a) (.string b) = pure (.bool (Op.bytesLess b.toList a.toList)) := by
 rw [← bytesLess_turn]
 simp [binOp, Op.stringOp]
attribute [local go_sem] binOp_gtr_turned
def cmp_Compare_string.f (a0 : ByteArray) (a1 : ByteArray) : Option (Int) := (cmp_isNaN_string.f a0).bind fun t316 => ((cmp_isNaN_string.f a1).bind fun t317 => (if t316 = true then (if t317 = true then (some 0) else (some (-1))) else (if t317 = true then (some 1) else (if (Op.bytesLess a0.toList a1.toList) = true then (some (-1)) else (if (Op.bytesLess a1.toList a0.toList) = true then (some 1) else (some 0))))))
theorem cmp_Compare_string.calls (a0 : ByteArray) (a1 : ByteArray) (r : Int) (w : World) (hG : Glob w) (h : cmp_Compare_string.f a0 a1 = some r) :
 Calls Tryd.prog 113 #[.string a0, .string a1] w fun e w' => e = .returned (.int .i64 r) ∧ Drawn0 w w' := by
 have HG := Aside0.mk hG
 clear hG
 have H : ((cmp_isNaN_string.f a0).bind fun t316 => ((cmp_isNaN_string.f a1).bind fun t317 => (if t316 = true then (if t317 = true then (some 0) else (some (-1))) else (if t317 = true then (some 1) else (if (Op.bytesLess a0.toList a1.toList) = true then (some (-1)) else (if (Op.bytesLess a1.toList a0.toList) = true then (some 1) else (some 0))))))) = some r := h
 clear h
 replace H := bi H
 obtain ⟨t316, A30, H⟩ := H
 try dsimp only at H
 have A3 := Aside0.mk A30
 clear A30
 replace H := bi H
 obtain ⟨t317, A40, H⟩ := H
 try dsimp only at H
 have A4 := Aside0.mk A40
 clear A40
 by_cases c5 : t316 = true
 ·subst c5
  have H1 : (if t317 = true then (some 0) else (some (-1))) = some r := by rw [if_pos rfl] at H; exact H
  clear H
  have H := H1
  clear H1
  by_cases c6 : t317 = true
  ·subst c6
   have H1 : (some 0) = some r := by rw [if_pos rfl] at H; exact H
   clear H
   have H := H1
   clear H1
   obtain rfl := Option.some.inj H
   go_enter Tryd.func113, Tryd.ntmps113
   go_wp2_with (first | (refine gl (some 8) Tryd.func140 #[.string a0] ?_; (with_reducible refine (cmp_isNaN_string.calls a0 true _ ?side1 A3.out).mono ?_); (case side1 => exact Glob.drawn HG.out (by repeat (first | exact Drawn0.refl _ | apply Drawn0.step))); rintro e w' ⟨rfl, ⟨nd, rfl⟩⟩; refine ⟨_, rfl, ?_⟩) | (refine gl (some 10) Tryd.func140 #[.string a1] ?_; (with_reducible refine (cmp_isNaN_string.calls a1 true _ ?side1 A4.out).mono ?_); (case side1 => exact Glob.drawn HG.out (by repeat (first | exact Drawn0.refl _ | apply Drawn0.step))); rintro e w' ⟨rfl, ⟨nd, rfl⟩⟩; refine ⟨_, rfl, ?_⟩))
   go_ret
   exact ⟨by first | rfl | (simp; done) | (simp [*]; done), by repeat (first | exact Drawn0.refl _ | apply Drawn0.step)⟩
  replace c6 := Bool.eq_false_iff.mpr c6
  subst c6
  have H1 : (some (-1)) = some r := by rw [if_neg (show ¬ (false = true) by decide)] at H; exact H
  clear H
  have H := H1
  clear H1
  obtain rfl := Option.some.inj H
  go_enter Tryd.func113, Tryd.ntmps113
  go_wp2_with (first | (refine gl (some 8) Tryd.func140 #[.string a0] ?_; (with_reducible refine (cmp_isNaN_string.calls a0 true _ ?side1 A3.out).mono ?_); (case side1 => exact Glob.drawn HG.out (by repeat (first | exact Drawn0.refl _ | apply Drawn0.step))); rintro e w' ⟨rfl, ⟨nd, rfl⟩⟩; refine ⟨_, rfl, ?_⟩) | (refine gl (some 10) Tryd.func140 #[.string a1] ?_; (with_reducible refine (cmp_isNaN_string.calls a1 false _ ?side1 A4.out).mono ?_); (case side1 => exact Glob.drawn HG.out (by repeat (first | exact Drawn0.refl _ | apply Drawn0.step))); rintro e w' ⟨rfl, ⟨nd, rfl⟩⟩; refine ⟨_, rfl, ?_⟩))
  go_ret
  exact ⟨by first | rfl | (simp; done) | (simp [*]; done), by repeat (first | exact Drawn0.refl _ | apply Drawn0.step)⟩
 replace c5 := Bool.eq_false_iff.mpr c5
 subst c5
 have H1 : (if t317 = true then (some 1) else (if (Op.bytesLess a0.toList a1.toList) = true then (some (-1)) else (if (Op.bytesLess a1.toList a0.toList) = true then (some 1) else (some 0)))) = some r := by rw [if_neg (show ¬ (false = true) by decide)] at H; exact H
 clear H
 have H := H1
 clear H1
 by_cases c7 : t317 = true
 ·subst c7
  have H1 : (some 1) = some r := by rw [if_pos rfl] at H; exact H
  clear H
  have H := H1
  clear H1
  obtain rfl := Option.some.inj H
  go_enter Tryd.func113, Tryd.ntmps113
  go_wp2_with (first | (refine gl (some 8) Tryd.func140 #[.string a0] ?_; (with_reducible refine (cmp_isNaN_string.calls a0 false _ ?side1 A3.out).mono ?_); (case side1 => exact Glob.drawn HG.out (by repeat (first | exact Drawn0.refl _ | apply Drawn0.step))); rintro e w' ⟨rfl, ⟨nd, rfl⟩⟩; refine ⟨_, rfl, ?_⟩) | (refine gl (some 10) Tryd.func140 #[.string a1] ?_; (with_reducible refine (cmp_isNaN_string.calls a1 true _ ?side1 A4.out).mono ?_); (case side1 => exact Glob.drawn HG.out (by repeat (first | exact Drawn0.refl _ | apply Drawn0.step))); rintro e w' ⟨rfl, ⟨nd, rfl⟩⟩; refine ⟨_, rfl, ?_⟩))
  go_ret
  exact ⟨by first | rfl | (simp; done) | (simp [*]; done), by repeat (first | exact Drawn0.refl _ | apply Drawn0.step)⟩
 replace c7 := Bool.eq_false_iff.mpr c7
 subst c7
 have H1 : (if (Op.bytesLess a0.toList a1.toList) = true then (some (-1)) else (if (Op.bytesLess a1.toList a0.toList) = true then (some 1) else (some 0))) = some r := by rw [if_neg (show ¬ (false = true) by decide)] at H; exact H
 clear H
 have H := H1
 clear H1
 by_cases c8 : (Op.bytesLess a0.toList a1.toList) = true
 ·rw [if_pos c8] at H
  have c8b0 : (Op.bytesLess a0.toList a1.toList) = true := c8
  clear c8
  obtain rfl := Option.some.inj H
  go_enter Tryd.func113, Tryd.ntmps113
  go_wp2_with (first | (refine gl (some 8) Tryd.func140 #[.string a0] ?_; (with_reducible refine (cmp_isNaN_string.calls a0 false _ ?side1 A3.out).mono ?_); (case side1 => exact Glob.drawn HG.out (by repeat (first | exact Drawn0.refl _ | apply Drawn0.step))); rintro e w' ⟨rfl, ⟨nd, rfl⟩⟩; refine ⟨_, rfl, ?_⟩) | (refine gl (some 10) Tryd.func140 #[.string a1] ?_; (with_reducible refine (cmp_isNaN_string.calls a1 false _ ?side1 A4.out).mono ?_); (case side1 => exact Glob.drawn HG.out (by repeat (first | exact Drawn0.refl _ | apply Drawn0.step))); rintro e w' ⟨rfl, ⟨nd, rfl⟩⟩; refine ⟨_, rfl, ?_⟩))
  go_ret
  exact ⟨by first | rfl | (simp; done) | (simp [*]; done), by repeat (first | exact Drawn0.refl _ | apply Drawn0.step)⟩
 rw [if_neg c8] at H
 have c8b0 : (Op.bytesLess a0.toList a1.toList) = false := by simpa using c8
 clear c8
 by_cases c9 : (Op.bytesLess a1.toList a0.toList) = true
 rotate_left
 ·rw [if_neg c9] at H
  have c9b0 : (Op.bytesLess a1.toList a0.toList) = false := by simpa using c9
  clear c9
  obtain rfl := Option.some.inj H
  go_enter Tryd.func113, Tryd.ntmps113
  go_wp2_with (first | (refine gl (some 8) Tryd.func140 #[.string a0] ?_; (with_reducible refine (cmp_isNaN_string.calls a0 false _ ?side1 A3.out).mono ?_); (case side1 => exact Glob.drawn HG.out (by repeat (first | exact Drawn0.refl _ | apply Drawn0.step))); rintro e w' ⟨rfl, ⟨nd, rfl⟩⟩; refine ⟨_, rfl, ?_⟩) | (refine gl (some 10) Tryd.func140 #[.string a1] ?_; (with_reducible refine (cmp_isNaN_string.calls a1 false _ ?side1 A4.out).mono ?_); (case side1 => exact Glob.drawn HG.out (by repeat (first | exact Drawn0.refl _ | apply Drawn0.step))); rintro e w' ⟨rfl, ⟨nd, rfl⟩⟩; refine ⟨_, rfl, ?_⟩))
  go_ret
  exact ⟨by first | rfl | (simp; done) | (simp [*]; done), by repeat (first | exact Drawn0.refl _ | apply Drawn0.step)⟩
 rw [if_pos c9] at H
 have c9b0 : (Op.bytesLess a1.toList a0.toList) = true := c9
 clear c9
 obtain rfl := Option.some.inj H
 go_enter Tryd.func113, Tryd.ntmps113
 go_wp2_with (first | (refine gl (some 8) Tryd.func140 #[.string a0] ?_; (with_reducible refine (cmp_isNaN_string.calls a0 false _ ?side1 A3.out).mono ?_); (case side1 => exact Glob.drawn HG.out (by repeat (first | exact Drawn0.refl _ | apply Drawn0.step))); rintro e w' ⟨rfl, ⟨nd, rfl⟩⟩; refine ⟨_, rfl, ?_⟩) | (refine gl (some 10) Tryd.func140 #[.string a1] ?_; (with_reducible refine (cmp_isNaN_string.calls a1 false _ ?side1 A4.out).mono ?_); (case side1 => exact Glob.drawn HG.out (by repeat (first | exact Drawn0.refl _ | apply Drawn0.step))); rintro e w' ⟨rfl, ⟨nd, rfl⟩⟩; refine ⟨_, rfl, ?_⟩))
 go_ret
 exact ⟨by first | rfl | (simp; done) | (simp [*]; done), by repeat (first | exact Drawn0.refl _ | apply Drawn0.step)⟩
end
def cmp_isNaN_int.f (a0 : Int) : Option (Bool) := some (a0 != a0)
theorem cmp_isNaN_int.calls (a0 : Int) (r : Bool) (w : World) (hG : Glob w) (h : cmp_isNaN_int.f a0 = some r) :
 Calls Tryd.prog 171 #[.int .i64 a0] w fun e w' => e = .returned (.bool r) ∧ Drawn0 w w' := by
 have HG := Aside0.mk hG
 clear hG
 have H : (some (a0 != a0)) = some r := h
 clear h
 obtain rfl := Option.some.inj H
 go_enter Tryd.func171, Tryd.ntmps171
 go_wp2
 go_ret
 exact ⟨by first | rfl | (simp; done) | (simp [*]; done), by repeat (first | exact Drawn0.refl _ | apply Drawn0.step)⟩
def cmp_Compare_int.f (a0 : Int) (a1 : Int) : Option (Int) := (cmp_isNaN_int.f a0).bind fun t314 => ((cmp_isNaN_int.f a1).bind fun t315 => (if t314 = true then (if t315 = true then (some 0) else (some (-1))) else (if t315 = true then (some 1) else (if a0 < a1 then (some (-1)) else (if a0 > a1 then (some 1) else (some 0))))))
theorem cmp_Compare_int.calls (a0 : Int) (a1 : Int) (r : Int) (w : World) (hG : Glob w) (h : cmp_Compare_int.f a0 a1 = some r) :
 Calls Tryd.prog 169 #[.int .i64 a0, .int .i64 a1] w fun e w' => e = .returned (.int .i64 r) ∧ Drawn0 w w' := by
 have HG := Aside0.mk hG
 clear hG
 have H : ((cmp_isNaN_int.f a0).bind fun t314 => ((cmp_isNaN_int.f a1).bind fun t315 => (if t314 = true then (if t315 = true then (some 0) else (some (-1))) else (if t315 = true then (some 1) else (if a0 < a1 then (some (-1)) else (if a0 > a1 then (some 1) else (some 0))))))) = some r := h
 clear h
 replace H := bi H
 obtain ⟨t314, A30, H⟩ := H
 try dsimp only at H
 have A3 := Aside0.mk A30
 clear A30
 replace H := bi H
 obtain ⟨t315, A40, H⟩ := H
 try dsimp only at H
 have A4 := Aside0.mk A40
 clear A40
 by_cases c5 : t314 = true
 ·subst c5
  have H1 : (if t315 = true then (some 0) else (some (-1))) = some r := by rw [if_pos rfl] at H; exact H
  clear H
  have H := H1
  clear H1
  by_cases c6 : t315 = true
  ·subst c6
   have H1 : (some 0) = some r := by rw [if_pos rfl] at H; exact H
   clear H
   have H := H1
   clear H1
   obtain rfl := Option.some.inj H
   go_enter Tryd.func169, Tryd.ntmps169
   go_wp2_with (first | (refine gl (some 8) Tryd.func171 #[.int .i64 a0] ?_; (with_reducible refine (cmp_isNaN_int.calls a0 true _ ?side1 A3.out).mono ?_); (case side1 => exact Glob.drawn HG.out (by repeat (first | exact Drawn0.refl _ | apply Drawn0.step))); rintro e w' ⟨rfl, ⟨nd, rfl⟩⟩; refine ⟨_, rfl, ?_⟩) | (refine gl (some 10) Tryd.func171 #[.int .i64 a1] ?_; (with_reducible refine (cmp_isNaN_int.calls a1 true _ ?side1 A4.out).mono ?_); (case side1 => exact Glob.drawn HG.out (by repeat (first | exact Drawn0.refl _ | apply Drawn0.step))); rintro e w' ⟨rfl, ⟨nd, rfl⟩⟩; refine ⟨_, rfl, ?_⟩))
   go_ret
   exact ⟨by first | rfl | (simp; done) | (simp [*]; done), by repeat (first | exact Drawn0.refl _ | apply Drawn0.step)⟩
  replace c6 := Bool.eq_false_iff.mpr c6
  subst c6
  have H1 : (some (-1)) = some r := by rw [if_neg (show ¬ (false = true) by decide)] at H; exact H
  clear H
  have H := H1
  clear H1
  obtain rfl := Option.some.inj H
  go_enter Tryd.func169, Tryd.ntmps169
  go_wp2_with (first | (refine gl (some 8) Tryd.func171 #[.int .i64 a0] ?_; (with_reducible refine (cmp_isNaN_int.calls a0 true _ ?side1 A3.out).mono ?_); (case side1 => exact Glob.drawn HG.out (by repeat (first | exact Drawn0.refl _ | apply Drawn0.step))); rintro e w' ⟨rfl, ⟨nd, rfl⟩⟩; refine ⟨_, rfl, ?_⟩) | (refine gl (some 10) Tryd.func171 #[.int .i64 a1] ?_; (with_reducible refine (cmp_isNaN_int.calls a1 false _ ?side1 A4.out).mono ?_); (case side1 => exact Glob.drawn HG.out (by repeat (first | exact Drawn0.refl _ | apply Drawn0.step))); rintro e w' ⟨rfl, ⟨nd, rfl⟩⟩; refine ⟨_, rfl, ?_⟩))
  go_ret
  exact ⟨by first | rfl | (simp; done) | (simp [*]; done), by repeat (first | exact Drawn0.refl _ | apply Drawn0.step)⟩
 replace c5 := Bool.eq_false_iff.mpr c5
 subst c5
 have H1 : (if t315 = true then (some 1) else (if a0 < a1 then (some (-1)) else (if a0 > a1 then (some 1) else (some 0)))) = some r := by rw [if_neg (show ¬ (false = true) by decide)] at H; exact H
 clear H
 have H := H1
 clear H1
 by_cases c7 : t315 = true
 ·subst c7
  have H1 : (some 1) = some r := by rw [if_pos rfl] at H; exact H
  clear H
  have H := H1
  clear H1
  obtain rfl := Option.some.inj H
  go_enter Tryd.func169, Tryd.ntmps169
  go_wp2_with (first | (refine gl (some 8) Tryd.func171 #[.int .i64 a0] ?_; (with_reducible refine (cmp_isNaN_int.calls a0 false _ ?side1 A3.out).mono ?_); (case side1 => exact Glob.drawn HG.out (by repeat (first | exact Drawn0.refl _ | apply Drawn0.step))); rintro e w' ⟨rfl, ⟨nd, rfl⟩⟩; refine ⟨_, rfl, ?_⟩) | (refine gl (some 10) Tryd.func171 #[.int .i64 a1] ?_; (with_reducible refine (cmp_isNaN_int.calls a1 true _ ?side1 A4.out).mono ?_); (case side1 => exact Glob.drawn HG.out (by repeat (first | exact Drawn0.refl _ | apply Drawn0.step))); rintro e w' ⟨rfl, ⟨nd, rfl⟩⟩; refine ⟨_, rfl, ?_⟩))
  go_ret
  exact ⟨by first | rfl | (simp; done) | (simp [*]; done), by repeat (first | exact Drawn0.refl _ | apply Drawn0.step)⟩
 replace c7 := Bool.eq_false_iff.mpr c7
 subst c7
 have H1 : (if a0 < a1 then (some (-1)) else (if a0 > a1 then (some 1) else (some 0))) = some r := by rw [if_neg (show ¬ (false = true) by decide)] at H; exact H
 clear H
 have H := H1
 clear H1
 by_cases c8 : a0 < a1
 ·rw [if_pos c8] at H
  have c8b0 := dT c8
  clear c8
  obtain rfl := Option.some.inj H
  go_enter Tryd.func169, Tryd.ntmps169
  go_wp2_with (first | (refine gl (some 8) Tryd.func171 #[.int .i64 a0] ?_; (with_reducible refine (cmp_isNaN_int.calls a0 false _ ?side1 A3.out).mono ?_); (case side1 => exact Glob.drawn HG.out (by repeat (first | exact Drawn0.refl _ | apply Drawn0.step))); rintro e w' ⟨rfl, ⟨nd, rfl⟩⟩; refine ⟨_, rfl, ?_⟩) | (refine gl (some 10) Tryd.func171 #[.int .i64 a1] ?_; (with_reducible refine (cmp_isNaN_int.calls a1 false _ ?side1 A4.out).mono ?_); (case side1 => exact Glob.drawn HG.out (by repeat (first | exact Drawn0.refl _ | apply Drawn0.step))); rintro e w' ⟨rfl, ⟨nd, rfl⟩⟩; refine ⟨_, rfl, ?_⟩))
  go_ret
  exact ⟨by first | rfl | (simp; done) | (simp [*]; done), by repeat (first | exact Drawn0.refl _ | apply Drawn0.step)⟩
 rw [if_neg c8] at H
 have c8b0 := dF c8
 clear c8
 by_cases c9 : a0 > a1
 rotate_left
 ·rw [if_neg c9] at H
  have c9b0 := dF c9
  clear c9
  obtain rfl := Option.some.inj H
  go_enter Tryd.func169, Tryd.ntmps169
  go_wp2_with (first | (refine gl (some 8) Tryd.func171 #[.int .i64 a0] ?_; (with_reducible refine (cmp_isNaN_int.calls a0 false _ ?side1 A3.out).mono ?_); (case side1 => exact Glob.drawn HG.out (by repeat (first | exact Drawn0.refl _ | apply Drawn0.step))); rintro e w' ⟨rfl, ⟨nd, rfl⟩⟩; refine ⟨_, rfl, ?_⟩) | (refine gl (some 10) Tryd.func171 #[.int .i64 a1] ?_; (with_reducible refine (cmp_isNaN_int.calls a1 false _ ?side1 A4.out).mono ?_); (case side1 => exact Glob.drawn HG.out (by repeat (first | exact Drawn0.refl _ | apply Drawn0.step))); rintro e w' ⟨rfl, ⟨nd, rfl⟩⟩; refine ⟨_, rfl, ?_⟩))
  go_ret
  exact ⟨by first | rfl | (simp; done) | (simp [*]; done), by repeat (first | exact Drawn0.refl _ | apply Drawn0.step)⟩
 rw [if_pos c9] at H
 have c9b0 := dT c9
 clear c9
 obtain rfl := Option.some.inj H
 go_enter Tryd.func169, Tryd.ntmps169
 go_wp2_with (first | (refine gl (some 8) Tryd.func171 #[.int .i64 a0] ?_; (with_reducible refine (cmp_isNaN_int.calls a0 false _ ?side1 A3.out).mono ?_); (case side1 => exact Glob.drawn HG.out (by repeat (first | exact Drawn0.refl _ | apply Drawn0.step))); rintro e w' ⟨rfl, ⟨nd, rfl⟩⟩; refine ⟨_, rfl, ?_⟩) | (refine gl (some 10) Tryd.func171 #[.int .i64 a1] ?_; (with_reducible refine (cmp_isNaN_int.calls a1 false _ ?side1 A4.out).mono ?_); (case side1 => exact Glob.drawn HG.out (by repeat (first | exact Drawn0.refl _ | apply Drawn0.step))); rintro e w' ⟨rfl, ⟨nd, rfl⟩⟩; refine ⟨_, rfl, ?_⟩))
 go_ret
 exact ⟨by first | rfl | (simp; done) | (simp [*]; done), by repeat (first | exact Drawn0.refl _ | apply Drawn0.step)⟩
def order_word.j0 : Nat → Bool → Int → ByteArray → Int → ByteArray → Option (Int)
 | 0, _, _, _, _, _ => none
 | k + 1, x23, x320000, x320001, x321000, x321001 => if x23 = true then ((cmp_Compare_int.f (x320001.size : Int) (x321001.size : Int)).bind fun t323 => ((cmp_Compare_string.f x320001 x321001).bind fun t324 => ((cmp_Or_int.f k (([t323, t324] : List Int))).bind fun t328 => (some t328)))) else (some 0)
def order_word.f (k : Nat) (a0_0 : Int) (a0_1 : ByteArray) (a1_0 : Int) (a1_1 : ByteArray) : Option (Int) := (cmp_Compare_int.f a0_0 a1_0).bind fun t321 => (if t321 = 0 then (if a0_0 = 8 then ((cmp_Compare_string.f a0_1 a1_1).bind fun t322 => (some t322)) else (if a0_0 = 9 then (order_word.j0 k (a0_0 == 9) a0_0 a0_1 a1_0 a1_1) else (order_word.j0 k (a0_0 == 10) a0_0 a0_1 a1_0 a1_1))) else (some t321))
theorem order_word.mono_l : ∀ k, (∀ y0 y1 y2 y3 y4, LeO (order_word.j0 k y0 y1 y2 y3 y4) (order_word.j0 (k + 1) y0 y1 y2 y3 y4))
 | 0 => fun _ _ _ _ _ r h => by simp [order_word.j0] at h
 | k + 1 => by
  have ih0 := order_word.mono_l k
  ·intro y0 y1 y2 y3 y4
   unfold order_word.j0
   have m0 := @cmp_Or_int.mono
   exact mo
theorem order_word.mono : ∀ a0 a1 a2 a3 k, LeO (order_word.f k a0 a1 a2 a3) (order_word.f (k + 1) a0 a1 a2 a3) := by
 intro a0 a1 a2 a3 k
 have ih0 := order_word.mono_l k
 unfold order_word.f
 have m0 := @cmp_Or_int.mono
 exact mo
def order_word.T9 : Bool × List (List Nat × List Nat) := (true, [([], []), ([0], [0]), ([1], [1]), ([], []), ([3], [3]), ([4], [4]), ([2, 5], [2, 5]), ([], []), ([7], [7]), ([], []), ([9], [9]), ([8, 10, 6], [8, 10]), ([6, 11], [6, 11]), ([12, 11], [12]), ([13, 13, 0, 1, 2, 3, 4, 5, 6, 7, 8, 9, 10, 11, 12, 13], [13])])
def order_word.B9 : List Nat := [0, 1, 3, 0, 8, 24, 63, 0, 128, 0, 512, 2047, 4095, 8191, 16383]
theorem order_word.tab9 : rtab .any (opsOf Tryd.f161 9) = order_word.T9 := by kernel_rfl
theorem order_word.bits9 : waitsOk order_word.T9.2 order_word.B9 = true := by kernel_rfl
theorem order_word.calls (k : Nat) (a0_0 : Int) (a0_1 : ByteArray) (a1_0 : Int) (a1_1 : ByteArray) (r : Int) (w : World) (hG : Glob w) (h : order_word.f k a0_0 a0_1 a1_0 a1_1 = some r) :
 Calls Tryd.prog 161 #[.agg #[.int .i64 a0_0, .string a0_1], .agg #[.int .i64 a1_0, .string a1_1]] w fun e w' => e = .returned (.int .i64 r) ∧ Below w.heap.size w w' := by
 have hu38 := Tryd.underlying38
 have HG := Aside0.mk hG
 clear hG
 have HB := Aside0.mk (Below.refl w.heap.size w)
 have H : ((cmp_Compare_int.f a0_0 a1_0).bind fun t321 => (if t321 = 0 then (if a0_0 = 8 then ((cmp_Compare_string.f a0_1 a1_1).bind fun t322 => (some t322)) else (if a0_0 = 9 then (order_word.j0 k (a0_0 == 9) a0_0 a0_1 a1_0 a1_1) else (order_word.j0 k (a0_0 == 10) a0_0 a0_1 a1_0 a1_1))) else (some t321))) = some r := h
 clear h
 replace H := bi H
 obtain ⟨t321, A30, H⟩ := H
 try dsimp only at H
 have A3 := Aside0.mk A30
 clear A30
 by_cases c4 : t321 = 0
 rotate_left
 ·rw [if_neg c4] at H
  obtain ⟨c4b0, c4b1⟩ := eqF c4
  obtain rfl := Option.some.inj H
  go_enter Tryd.func161, Tryd.ntmps161
  go_wp2_with (first | (refine be 2 #[.int .i64 a0_0, .string a0_1] 38 ?_; intro gb319 hg w27 hbox hb; have BK319 := Aside0.mk (hbox); have GW319 := gW hg; have GE319 := gW hg; replace HB := sB hb; clear hb hbox hg) | (refine be 3 #[.int .i64 a1_0, .string a1_1] 38 ?_; intro gb320 hg w28 hbox hb; have BK320 := Aside0.mk (hbox); have GW320 := gW hg; have GE320 := gW hg; replace HB := sB hb; have NB319_320 := nL BK319 hg; have NB320_319 := nG BK319 hg; replace BK319 := kB BK319 hb; clear hb hbox hg; have hnb29 := NB319_320.out; have hnc29 := NB320_319.out; have hcz30_0 : w28.cell? ⟨gb319, 0, none⟩ = some (.int .i64 a0_0) := (blk_cell BK319.out 0).trans rfl; have hcz30_1 : w28.cell? ⟨gb319, 1, none⟩ = some (.string a0_1) := (blk_cell BK319.out 1).trans rfl; have hfz30_0 := blk_frozen BK319.out 0; have hfz30_1 := blk_frozen BK319.out 1; have hcz31_0 : w28.cell? ⟨gb320, 0, none⟩ = some (.int .i64 a1_0) := (blk_cell BK320.out 0).trans rfl; have hcz31_1 : w28.cell? ⟨gb320, 1, none⟩ = some (.string a1_1) := (blk_cell BK320.out 1).trans rfl; have hfz31_0 := blk_frozen BK320.out 0; have hfz31_1 := blk_frozen BK320.out 1) | (refine gl (some 10) Tryd.func169 #[.int .i64 a0_0, .int .i64 a1_0] ?_; (with_reducible refine (cmp_Compare_int.calls a0_0 a1_0 t321 _ (gS HG) A3.out).mono ?_); rintro e w' ⟨rfl, ⟨nd, rfl⟩⟩; refine ⟨_, rfl, ?_⟩))
  go_ret
  exact ⟨eA, bG⟩
 rw [if_pos c4] at H
 obtain ⟨c4b0, c4b1⟩ := eqT c4
 clear c4
 by_cases c5 : a0_0 = 8
 ·rw [if_pos c5] at H
  obtain ⟨c5b0, c5b1⟩ := eqT c5
  clear c5
  replace H := bi H
  obtain ⟨t322, A60, H⟩ := H
  try dsimp only at H
  have A6 := Aside0.mk A60
  clear A60
  obtain rfl := Option.some.inj H
  go_enter Tryd.func161, Tryd.ntmps161
  go_wp2_with (first | (refine be 2 #[.int .i64 a0_0, .string a0_1] 38 ?_; intro gb319 hg w7 hbox hb; have BK319 := Aside0.mk (hbox); have GW319 := gW hg; have GE319 := gW hg; replace HB := sB hb; clear hb hbox hg) | (refine be 3 #[.int .i64 a1_0, .string a1_1] 38 ?_; intro gb320 hg w8 hbox hb; have BK320 := Aside0.mk (hbox); have GW320 := gW hg; have GE320 := gW hg; replace HB := sB hb; have NB319_320 := nL BK319 hg; have NB320_319 := nG BK319 hg; replace BK319 := kB BK319 hb; clear hb hbox hg; have hnb9 := NB319_320.out; have hnc9 := NB320_319.out; have hcz10_0 : w8.cell? ⟨gb319, 0, none⟩ = some (.int .i64 a0_0) := (blk_cell BK319.out 0).trans rfl; have hcz10_1 : w8.cell? ⟨gb319, 1, none⟩ = some (.string a0_1) := (blk_cell BK319.out 1).trans rfl; have hfz10_0 := blk_frozen BK319.out 0; have hfz10_1 := blk_frozen BK319.out 1; have hcz11_0 : w8.cell? ⟨gb320, 0, none⟩ = some (.int .i64 a1_0) := (blk_cell BK320.out 0).trans rfl; have hcz11_1 : w8.cell? ⟨gb320, 1, none⟩ = some (.string a1_1) := (blk_cell BK320.out 1).trans rfl; have hfz11_0 := blk_frozen BK320.out 0; have hfz11_1 := blk_frozen BK320.out 1) | (refine gl (some 10) Tryd.func169 #[.int .i64 a0_0, .int .i64 a1_0] ?_; (with_reducible refine (cmp_Compare_int.calls a0_0 a1_0 t321 _ (gS HG) A3.out).mono ?_); rintro e w' ⟨rfl, ⟨nd, rfl⟩⟩; refine ⟨_, rfl, ?_⟩) | (refine gl (some 22) Tryd.func113 #[.string a0_1, .string a1_1] ?_; (with_reducible refine (cmp_Compare_string.calls a0_1 a1_1 t322 _ (gS HG) A6.out).mono ?_); rintro e w' ⟨rfl, ⟨nd, rfl⟩⟩; refine ⟨_, rfl, ?_⟩))
  go_ret
  exact ⟨eA, bG⟩
 rw [if_neg c5] at H
 obtain ⟨c5b0, c5b1⟩ := eqF c5
 have HC12 := Aside0.mk H
 clear H
 go_enter Tryd.func161, Tryd.ntmps161
 go_upto_if 23 with (first | (refine be 2 #[.int .i64 a0_0, .string a0_1] 38 ?_; intro gb319 hg w13 hbox hb; have BK319 := Aside0.mk (hbox); have GW319 := gW hg; have GE319 := gW hg; replace HB := sB hb; clear hb hbox hg) | (refine be 3 #[.int .i64 a1_0, .string a1_1] 38 ?_; intro gb320 hg w14 hbox hb; have BK320 := Aside0.mk (hbox); have GW320 := gW hg; have GE320 := gW hg; replace HB := sB hb; have NB319_320 := nL BK319 hg; have NB320_319 := nG BK319 hg; replace BK319 := kB BK319 hb; clear hb hbox hg; have hnb15 := NB319_320.out; have hnc15 := NB320_319.out; have hcz16_0 : w14.cell? ⟨gb319, 0, none⟩ = some (.int .i64 a0_0) := (blk_cell BK319.out 0).trans rfl; have hcz16_1 : w14.cell? ⟨gb319, 1, none⟩ = some (.string a0_1) := (blk_cell BK319.out 1).trans rfl; have hfz16_0 := blk_frozen BK319.out 0; have hfz16_1 := blk_frozen BK319.out 1; have hcz17_0 : w14.cell? ⟨gb320, 0, none⟩ = some (.int .i64 a1_0) := (blk_cell BK320.out 0).trans rfl; have hcz17_1 : w14.cell? ⟨gb320, 1, none⟩ = some (.string a1_1) := (blk_cell BK320.out 1).trans rfl; have hfz17_0 := blk_frozen BK320.out 0; have hfz17_1 := blk_frozen BK320.out 1) | (refine gl (some 10) Tryd.func169 #[.int .i64 a0_0, .int .i64 a1_0] ?_; (with_reducible refine (cmp_Compare_int.calls a0_0 a1_0 t321 _ (gS HG) A3.out).mono ?_); rintro e w' ⟨rfl, ⟨nd, rfl⟩⟩; refine ⟨_, rfl, ?_⟩))
 (try simp only [Act.put, List.setIfInBounds_toArray, List.set_cons_zero, List.set_cons_succ])
 go_cut [23] (fun v23 wc => ∃ (kq : Nat) (x23_11 : Bool), v23 = .bool x23_11 ∧ Aside0 (order_word.j0 kq x23_11 a0_0 a0_1 a1_0 a1_1 = some r) ∧ Aside0 (kq ≤ k) ∧ Aside0 (wc.heap[gb319]? = some (.cells #[.int .i64 a0_0, .string a0_1] 38 (0, 0))) ∧ Aside0 (wc.heap[gb320]? = some (.cells #[.int .i64 a1_0, .string a1_1] 38 (0, 0))) ∧ Aside0 (Below w.heap.size w wc))
 case first =>
  have H := HC12.out
  clear HC12
  by_cases c18 : a0_0 = 9
  rotate_left
  ·rw [if_neg c18] at H
   obtain ⟨c18b0, c18b1⟩ := eqF c18
   (first | rw [c18b0] | (simp only [i64_w, i32_w]; rw [c18b0]) | skip)
   have H' := Aside0.mk H
   clear H
   go_wp2
   go_meet
   case rel => exact ⟨_, ((a0_0 == 10)), cA, H', ⟨by first | omega | exact Nat.le_refl _⟩, ⟨bK BK319⟩, ⟨bK BK320⟩, ⟨bG⟩⟩
  rw [if_pos c18] at H
  obtain ⟨c18b0, c18b1⟩ := eqT c18
  clear c18
  (first | rw [c18b0] | (simp only [i64_w, i32_w]; rw [c18b0]) | skip)
  have H' := Aside0.mk H
  clear H
  go_wp2
  go_meet
  case rel => exact ⟨_, ((a0_0 == 9)), cA, H', ⟨by first | omega | exact Nat.le_refl _⟩, ⟨bK BK319⟩, ⟨bK BK320⟩, ⟨bG⟩⟩
 clear HC12
 try clear c1
 try clear p2
 try clear c4
 try clear c4b0
 try clear c4b1
 try clear c5
 try clear c5b0
 try clear c5b1
 try clear c9
 try clear c11
 try clear c15
 try clear c16
 try clear c18
 try clear c18b0
 try clear c18b1
 try clear hcz10_0
 try clear hcz10_1
 try clear hcz11_0
 try clear hcz11_1
 try clear hcz16_0
 try clear hcz16_1
 try clear hcz17_0
 try clear hcz17_1
 try clear hfz10_0
 try clear hfz10_1
 try clear hfz11_0
 try clear hfz11_1
 try clear hfz16_0
 try clear hfz16_1
 try clear hfz17_0
 try clear hfz17_1
 obtain ⟨kq, x23_11, rfl, HA, HJ11, BK319, BK320, HB⟩ := hcut
 cases kq with
 | zero => exact absurd HA.out (by simp [order_word.j0])
 | succ kj11 =>
  have H := HA.out
  clear HA
  simp only [order_word.j0] at H
  by_cases c19 : x23_11 = true
  rotate_left
  ·replace c19 := Bool.eq_false_iff.mpr c19
   subst c19
   have H1 : (some 0) = some r := by rw [if_neg (show ¬ (false = true) by decide)] at H; exact H
   clear H
   have H := H1
   clear H1
   obtain rfl := Option.some.inj H
   go_wp2
   go_ret
   exact ⟨eA, bG⟩
  subst c19
  have H1 : ((cmp_Compare_int.f (a0_1.size : Int) (a1_1.size : Int)).bind fun t323 => ((cmp_Compare_string.f a0_1 a1_1).bind fun t324 => ((cmp_Or_int.f kj11 (([t323, t324] : List Int))).bind fun t328 => (some t328)))) = some r := by rw [if_pos rfl] at H; exact H
  clear H
  have H := H1
  clear H1
  replace H := bi H
  obtain ⟨t323, A200, H⟩ := H
  try dsimp only at H
  have A20 := Aside0.mk A200
  clear A200
  replace H := bi H
  obtain ⟨t324, A210, H⟩ := H
  try dsimp only at H
  have A21 := Aside0.mk A210
  clear A210
  obtain ⟨y325, hy325⟩ : ∃ y_ : List Int, y_ = (([t323, t324] : List Int)) := ⟨_, rfl⟩
  replace H : ((cmp_Or_int.f kj11 y325).bind fun t328 => (some t328)) = some r := by first | (rw [hy325]; with_reducible exact H) | (have H2_ := (Option.bind_some _ _).symm.trans H; rw [hy325]; with_reducible exact H2_) | (have H2_ := (Option.bind_some _ _).symm.trans H; with_reducible exact H2_) | with_reducible exact H | (rw [hy325]; exact H) | exact H
  have Ny325 := Aside0.mk hy325
  clear hy325
  replace H := bi H
  obtain ⟨t328, A220, H⟩ := H
  try dsimp only at H
  have A22 := Aside0.mk A220
  clear A220
  obtain rfl := Option.some.inj H
  try go_wp2
  replace BK319 := Aside0.mk (blk_drew BK319.out)
  replace BK320 := Aside0.mk (blk_drew BK320.out)
  replace HB := Aside0.mk (below_drew1 HB.out)
  refine start_ (n := 15) (S := fun w' => w'.cell? ⟨gb319, 0, none⟩ = some (.int .i64 a0_0) ∧ w'.cell? ⟨gb319, 1, none⟩ = some (.string a0_1) ∧ w'.cell? ⟨gb320, 0, none⟩ = some (.int .i64 a1_0) ∧ w'.cell? ⟨gb320, 1, none⟩ = some (.string a1_1)) (ds := []) #[false, false, false, false, false, false, false, false, false, false, false, false, false, false, false] (by kernel_rfl) rfl rfl ⟨(blk_cell BK319.out 0).trans rfl, (blk_cell BK319.out 1).trans rfl, (blk_cell BK320.out 0).trans rfl, (blk_cell BK320.out 1).trans rfl⟩ (fun hHeld => ?_); refine with_tabW order_word.tab9 order_word.bits9 (fun HT_ HW_ => ?_)
  generalize wc.drew = w23 at BK319 BK320 HB hHeld ⊢
  refine pz 0 (some 26) HT_ ?_
  refine pz 3 (some 29) HT_ ?_
  refine pz 7 (some 33) HT_ ?_
  refine pz 9 (some 35) HT_ ?_
  refine tm 1 (some 27) HT_ HW_ hHeld ?_
  refine pz 2 (some 28) HT_ ?_
  refine tm 4 (some 30) HT_ HW_ hHeld ?_
  refine pz 5 (some 31) HT_ ?_
  refine tm 8 (some 34) HT_ HW_ hHeld ?_
  refine tm 10 (some 36) HT_ HW_ hHeld ?_
  refine on 6 (some 32) HT_ (fun K hK => ?_)
  refine goes_ Tryd.func169 (by kernel_rfl) rfl #[.int .i64 (a0_1.size : Int), .int .i64 (a1_1.size : Int)] (by rfl) rfl rfl mA ?_
  with_reducible refine (cmp_Compare_int.calls (a0_1.size : Int) (a1_1.size : Int) t323 _ (gS HG) A20.out).mono ?_
  rintro e w' ⟨rfl, ⟨nd, rfl⟩⟩
  refine ⟨_, rfl, ?_⟩
  refine hK.out _ _ ⟨(blk_cell BK319.out 0).trans rfl, (blk_cell BK319.out 1).trans rfl, (blk_cell BK320.out 0).trans rfl, (blk_cell BK320.out 1).trans rfl⟩ (fun hHeld => ?_)
  clear hK K
  refine nz (some 32) ?_
  refine on 11 (some 37) HT_ (fun K hK => ?_)
  refine goes_ Tryd.func113 (by kernel_rfl) rfl #[.string a0_1, .string a1_1] (by rfl) rfl rfl mA ?_
  with_reducible refine (cmp_Compare_string.calls a0_1 a1_1 t324 _ (gS HG) A21.out).mono ?_
  rintro e w' ⟨rfl, ⟨nd, rfl⟩⟩
  refine ⟨_, rfl, ?_⟩
  refine hK.out _ _ ⟨(blk_cell BK319.out 0).trans rfl, (blk_cell BK319.out 1).trans rfl, (blk_cell BK320.out 0).trans rfl, (blk_cell BK320.out 1).trans rfl⟩ (fun hHeld => ?_)
  clear hK K
  refine nz (some 37) ?_
  refine on 12 (some 38) HT_ (fun K hK => ?_)
  refine Kd.R_lit_step (Kd.int .i64) _ 3 ?hg (N := 38) ?hd (xs := ([t323, t324] : List Int)) (inner := [.int .i64 t323, .int .i64 t324]) (ok := fun _ => True) (okp := fun _ => True) ?hr ?hp (fun _ hk => hk) trivial (Below.refl _ _) (Nat.le_refl _) (by simp) ?_; (case hd => rfl); (case hg => rfl); (case hr => first | (go_simp; done) | (go_simp; rfl)); (case hp => exact (Reps.one (show Kd.M (Kd.int .i64) _ _ _ t323 [.int .i64 t323] from rfl) (Reps.one (show Kd.M (Kd.int .i64) _ _ _ t324 [.int .i64 t324] from rfl) (Reps.none _ _))))
  intro v326 w24 ho25 hb hg_ hnew_
  clear hg_ hnew_
  (first | rw [← Ny325.out] at ho25 | (simp only [Int.reduceToNat] at ho25; rw [← Ny325.out] at ho25))
  have HO327 := Aside0.mk (Kd.R_lower ho25 (below_size bG))
  replace BK319 := kB BK319 hb
  replace BK320 := kB BK320 hb
  replace HB := sB hb
  clear hb ho25
  obtain ⟨Ao26, co26, eo26⟩ := Kd.R_slice HO327.out
  (first | subst eo26 | (injection eo26 with f1_ f2_ f3_; have f4_ := f1_.symm; have f5_ := f3_.symm; clear f1_ f2_ f3_; subst f4_; subst f5_))
  refine hK.out _ _ ⟨(blk_cell BK319.out 0).trans rfl, (blk_cell BK319.out 1).trans rfl, (blk_cell BK320.out 0).trans rfl, (blk_cell BK320.out 1).trans rfl⟩ (fun hHeld => ?_)
  clear hK K
  refine nz (some 38) ?_
  refine on 13 (some 39) HT_ (fun K hK => ?_)
  refine goes_ Tryd.func112 (by kernel_rfl) rfl #[.slice Ao26 y325.length co26] (by rfl) rfl rfl mA ?_
  with_reducible refine (cmp_Or_int.calls kj11 _ _ y325 t328 _ ?side1 ?side2 (gS HG) A22.out).mono ?_
  (case side1 => repeat (first | exact (Kd.R_reads' HO327.out).2.2 | (with_reducible refine Kd.C_alloc ?_ _) | (with_reducible refine Kd.C_drewN ?_ _) | (with_reducible refine Kd.C_drew ?_)))
  (case side2 => exact (Kd.R_reads' HO327.out).2.1)
  rintro e w' ⟨rfl, ⟨nd, rfl⟩⟩
  refine ⟨_, rfl, ?_⟩
  refine hK.out _ _ ⟨(blk_cell BK319.out 0).trans rfl, (blk_cell BK319.out 1).trans rfl, (blk_cell BK320.out 0).trans rfl, (blk_cell BK320.out 1).trans rfl⟩ (fun hHeld => ?_)
  clear hK K
  refine nz (some 39) ?_
  refine pz 14 (some 4) HT_ ?_
  refine done_ (done_of HT_.out (by kernel_rfl)) ?_
  try go_wp2
  go_ret
  exact ⟨eA, bG⟩
def order_at.f (l0 : List (S38)) (a1 : Int) : Option (Int × ByteArray) := if a1 < (l0.length : Int) then (if 0 ≤ a1 then (some ((rd_T38 l0 a1).f0, (rd_T38 l0 a1).f1)) else (none)) else (some (6, (⟨#[]⟩ : ByteArray)))
theorem order_at.calls (A0 : Option Addr) (c0 : Nat) (l0 : List (S38)) (a1 : Int) (r1 : Int) (r2 : ByteArray) (w : World) (hr0 : Kd.C k38 w A0 l0.length l0) (hc0 : l0.length ≤ c0) (hG : Glob w) (h : order_at.f l0 a1 = some (r1, r2)) :
 Calls Tryd.prog 162 #[.slice A0 l0.length c0, .int .i64 a1] w fun e w' => e = .returned (.agg #[.int .i64 r1, .string r2]) ∧ Below w.heap.size w w' := by
 have hu38 := Tryd.underlying38
 have HG := Aside0.mk hG
 clear hG
 have HR0 := Aside0.mk hr0
 have HC0 := Aside0.mk hc0
 clear hr0 hc0
 have HB := Aside0.mk (Below.refl w.heap.size w)
 have H : (if a1 < (l0.length : Int) then (if 0 ≤ a1 then (some ((rd_T38 l0 a1).f0, (rd_T38 l0 a1).f1)) else (none)) else (some (6, (⟨#[]⟩ : ByteArray)))) = some (r1, r2) := h
 clear h
 by_cases c3 : a1 < (l0.length : Int)
 rotate_left
 ·rw [if_neg c3] at H
  have c3b0 := dF c3
  clear c3
  simp only [Option.some.injEq, Prod.mk.injEq] at H
  obtain ⟨rfl, rfl⟩ := H
  go_enter Tryd.func162, Tryd.ntmps162
  go_wp2_with (first | (refine be 4 #[.int .i64 0, .string (⟨#[]⟩ : ByteArray)] 38 ?_; intro gb312 hg w7 hbox hb; have BK312 := Aside0.mk (hbox); have GW312 := gW hg; have GE312 := gW hg; replace HB := sB hb; clear hb hbox hg; have hcz8_0 : w7.cell? ⟨gb312, 0, none⟩ = some (.int .i64 0) := (blk_cell BK312.out 0).trans rfl; have hcz8_1 : w7.cell? ⟨gb312, 1, none⟩ = some (.string (⟨#[]⟩ : ByteArray)) := (blk_cell BK312.out 1).trans rfl; have hfz8_0 := blk_frozen BK312.out 0; have hfz8_1 := blk_frozen BK312.out 1))
  refine bodyPost_ret (results_cell_row rfl _ _ gb312 38 #[.int .i64 6, .string (⟨#[]⟩ : ByteArray)] (0, 0) _ rfl (bP BK312) Tryd.underlying38 rfl (by kernel_rfl)) rfl ?_
  exact ⟨eA, bG⟩
 rw [if_pos c3] at H
 have c3b0 := dT c3
 clear c3
 by_cases c4 : 0 ≤ a1
 rotate_left
 ·rw [if_neg c4] at H
  exact absurd H (by simp)
 rw [if_pos c4] at H
 have c4b0 := dT c4
 clear c4
 simp only [Option.some.injEq, Prod.mk.injEq] at H
 obtain ⟨rfl, rfl⟩ := H
 go_enter Tryd.func162, Tryd.ntmps162
 go_wp2_with (first | (refine be 4 #[.int .i64 0, .string (⟨#[]⟩ : ByteArray)] 38 ?_; intro gb312 hg w5 hbox hb; have BK312 := Aside0.mk (hbox); have GW312 := gW hg; have GE312 := gW hg; replace HB := sB hb; clear hb hbox hg; have p313 : 0 ≤ (a1 : Int) := dA; have q313 : a1 < (l0.length : Int) := dA; obtain ⟨ad313, e313, hx313_0, hx313_1⟩ := at_T38 HR0.out a1 p313 q313; cases e313; replace hx313_0 := (HB.out.cell (World.block_lt_of_cell? w _ hx313_0)).trans hx313_0; replace hx313_1 := (HB.out.cell (World.block_lt_of_cell? w _ hx313_1)).trans hx313_1; replace p313 := eq_true p313; replace q313 := eq_true q313; have hcz6_0 : w5.cell? ⟨gb312, 0, none⟩ = some (.int .i64 0) := (blk_cell BK312.out 0).trans rfl; have hcz6_1 : w5.cell? ⟨gb312, 1, none⟩ = some (.string (⟨#[]⟩ : ByteArray)) := (blk_cell BK312.out 1).trans rfl; have hfz6_0 := blk_frozen BK312.out 0; have hfz6_1 := blk_frozen BK312.out 1))
 refine bodyPost_ret (results_cell_row rfl _ _ gb312 38 #[.int .i64 ((rd_T38 l0 a1).f0), .string ((rd_T38 l0 a1).f1)] (0, 0) _ rfl (bP BK312) Tryd.underlying38 rfl (by kernel_rfl)) rfl ?_
 exact ⟨eA, bG⟩
def order_Words.l0 : Nat → List (S38) → List (S38) → Int → Option (Int)
 | 0, _, _, _ => none
 | k + 1, x0, x1, x5 => (order_at.f x0 x5).bind fun bt329 => ((order_at.f x1 x5).bind fun bt331 => ((order_word.f k bt329.1 bt329.2 bt331.1 bt331.2).bind fun t333 => (if t333 = 0 then (if (wrap64 (x5 + 1)) < (mx (x0.length : Int) (x1.length : Int)) then (order_Words.l0 k x0 x1 (wrap64 (x5 + 1))) else (some t333)) else (some t333))))
def order_Words.f (k : Nat) (l0 : List (S38)) (l1 : List (S38)) : Option (Int) := order_Words.l0 k l0 l1 0
theorem order_Words.mono_l : ∀ k, (∀ y0 y1 y2, LeO (order_Words.l0 k y0 y1 y2) (order_Words.l0 (k + 1) y0 y1 y2))
 | 0 => fun _ _ _ r h => by simp [order_Words.l0] at h
 | k + 1 => by
  have ih0 := order_Words.mono_l k
  ·intro y0 y1 y2
   unfold order_Words.l0
   have m0 := @order_word.mono
   exact mo
theorem order_Words.mono : ∀ a0 a1 k, LeO (order_Words.f k a0 a1) (order_Words.f (k + 1) a0 a1) := by
 intro a0 a1 k
 have ih0 := order_Words.mono_l k
 unfold order_Words.f
 have m0 := @order_word.mono
 exact mo
theorem order_Words.calls (k : Nat) (A0 : Option Addr) (c0 : Nat) (l0 : List (S38)) (A1 : Option Addr) (c1 : Nat) (l1 : List (S38)) (r : Int) (w : World) (hr0 : Kd.C k38 w A0 l0.length l0) (hc0 : l0.length ≤ c0) (hr1 : Kd.C k38 w A1 l1.length l1) (hc1 : l1.length ≤ c1) (hG : Glob w) (h : order_Words.f k l0 l1 = some r) :
 Calls Tryd.prog 141 #[.slice A0 l0.length c0, .slice A1 l1.length c1] w fun e w' => e = .returned (.int .i64 r) ∧ Below w.heap.size w w' := by
 have HG := Aside0.mk hG
 clear hG
 have HR0 := Aside0.mk hr0
 have HC0 := Aside0.mk hc0
 clear hr0 hc0
 have HR1 := Aside0.mk hr1
 have HC1 := Aside0.mk hc1
 clear hr1 hc1
 have HB := Aside0.mk (Below.refl w.heap.size w)
 have H : (order_Words.l0 k l0 l1 0) = some r := h
 clear h
 have HS3 := Aside0.mk H
 clear H
 go_enter Tryd.func141, Tryd.ntmps141
 go_wp2
 refine wp_scope_loop 0 (by rfl) ?_
 have H := HS3.out
 clear HS3
 have H' := Aside0.mk H
 clear H
 go_wp2
 refine wp_label ?_
 rename_i hlb
 refine hlb _ _ ?_
 refine wp_at_label ?_
 refine LoopAt.intro (fun aB_ kq_ a1 w1 => ∃ (u4 u5 u6 u7 u8 u9 u10 u11 u12 u13 u14 u15 u16 u17 u18 u19 u20 u21 u22 u23 u24 u25 u26 u27 : Value), (fun kq v5 w' => ∃ (x5_1 : Int), v5 = .int .i64 x5_1 ∧ Aside0 (order_Words.l0 kq l0 l1 x5_1 = some r) ∧ Aside0 (kq ≤ k) ∧ Aside0 (Below w.heap.size w w')) kq_ u5 w1 ∧ a1 = ((((((((((((((((((((((((aB_.put (some 4) u4).put (some 5) u5).put (some 6) u6).put (some 7) u7).put (some 8) u8).put (some 9) u9).put (some 10) u10).put (some 11) u11).put (some 12) u12).put (some 13) u13).put (some 14) u14).put (some 15) u15).put (some 16) u16).put (some 17) u17).put (some 18) u18).put (some 19) u19).put (some 20) u20).put (some 21) u21).put (some 22) u22).put (some 23) u23).put (some 24) u24).put (some 25) u25).put (some 26) u26).put (some 27) u27)) k ?_ ?_
 ·(repeat apply Exists.intro)
  (try simp only [Act.put, List.setIfInBounds_toArray, List.set_cons_zero, List.set_cons_succ])
  refine ⟨?_, rfl⟩
  exact ⟨(0), cA, H', ⟨Nat.le_refl _⟩, ⟨bE⟩⟩
 ·intro gk a1 wr hinv
  obtain ⟨u4, u5, u6, u7, u8, u9, u10, u11, u12, u13, u14, u15, u16, u17, u18, u19, u20, u21, u22, u23, u24, u25, u26, u27, hrel, ha⟩ := hinv
  subst ha
  (try simp only [Act.put, List.setIfInBounds_toArray, List.set_cons_zero, List.set_cons_succ])
  intro Js0 Ks0 hJs0 hKs0
  clear H'
  try clear c1
  try clear p2
  obtain ⟨x5_1, rfl, HA, HK1, HB⟩ := hrel
  cases gk with
  | zero => exact absurd HA.out (by simp [order_Words.l0])
  | succ k1 =>
   have H := HA.out
   clear HA
   simp only [order_Words.l0] at H
   replace H := bi H
   obtain ⟨⟨t329, t330⟩, A40, H⟩ := H
   try dsimp only at H
   have A4 := Aside0.mk A40
   clear A40
   replace H := bi H
   obtain ⟨⟨t331, t332⟩, A50, H⟩ := H
   try dsimp only at H
   have A5 := Aside0.mk A50
   clear A50
   replace H := bi H
   obtain ⟨t333, A60, H⟩ := H
   try dsimp only at H
   have A6 := Aside0.mk A60
   clear A60
   by_cases c7 : t333 = 0
   rotate_left
   ·rw [if_neg c7] at H
    obtain ⟨c7b0, c7b1⟩ := eqF c7
    obtain rfl := Option.some.inj H
    go_wp2_with (first | (refine gl (some 9) Tryd.func162 #[.slice A0 l0.length c0, .int .i64 x5_1] ?_; (with_reducible refine (order_at.calls _ _ l0 x5_1 t329 t330 _ ?side1 ?side2 (gS HG) A4.out).mono ?_); (case side1 => repeat (first | exact (Kd.C_below HR0.out HB.out) | (with_reducible refine Kd.C_alloc ?_ _) | (with_reducible refine Kd.C_drewN ?_ _) | (with_reducible refine Kd.C_drew ?_))); (case side2 => exact HC0.out); rintro e w16 ⟨rfl, hb⟩; refine ⟨_, rfl, ?_⟩; replace HB := sB hb; (try clear hb)) | (refine gl (some 12) Tryd.func162 #[.slice A1 l1.length c1, .int .i64 x5_1] ?_; (with_reducible refine (order_at.calls _ _ l1 x5_1 t331 t332 _ ?side1 ?side2 (gS HG) A5.out).mono ?_); (case side1 => repeat (first | exact (Kd.C_below HR1.out HB.out) | (with_reducible refine Kd.C_alloc ?_ _) | (with_reducible refine Kd.C_drewN ?_ _) | (with_reducible refine Kd.C_drew ?_))); (case side2 => exact HC1.out); rintro e w17 ⟨rfl, hb⟩; refine ⟨_, rfl, ?_⟩; replace HB := sB hb; (try clear hb)) | (refine gl (some 13) Tryd.func161 #[.agg #[.int .i64 t329, .string t330], .agg #[.int .i64 t331, .string t332]] ?_; (with_reducible refine (order_word.calls k1 t329 t330 t331 t332 t333 _ (gS HG) A6.out).mono ?_); rintro e w18 ⟨rfl, hb⟩; refine ⟨_, rfl, ?_⟩; replace HB := sB hb; (try clear hb)))
    (try simp only [Exit.inBlock, Exit.then, jump_ret])
    go_ret
    exact ⟨eA, bE⟩
   rw [if_pos c7] at H
   obtain ⟨c7b0, c7b1⟩ := eqT c7
   clear c7
   obtain ⟨ji8, hji8⟩ : ∃ j_ : Int, (mx (l0.length : Int) (l1.length : Int)) = j_ := ⟨_, rfl⟩
   rw [hji8] at H
   (try rw [hji8] at A4)
   (try rw [hji8] at A5)
   (try rw [hji8] at A6)
   have hji8_ : (if (l0.length : Int) < (l1.length : Int) then (l1.length : Int) else (l0.length : Int)) = ji8 := hji8
   have hji8n : (if l0.length < l1.length then (l1.length : Int) else (l0.length : Int)) = ji8 := by rw [← hji8_]; simp only [Int.ofNat_lt]
   by_cases c9 : (wrap64 (x5_1 + 1)) < (ji8)
   rotate_left
   ·rw [if_neg c9] at H
    have c9b0 := dF c9
    clear c9
    obtain rfl := Option.some.inj H
    go_wp2_with (first | (refine gl (some 9) Tryd.func162 #[.slice A0 l0.length c0, .int .i64 x5_1] ?_; (with_reducible refine (order_at.calls _ _ l0 x5_1 t329 t330 _ ?side1 ?side2 (gS HG) A4.out).mono ?_); (case side1 => repeat (first | exact (Kd.C_below HR0.out HB.out) | (with_reducible refine Kd.C_alloc ?_ _) | (with_reducible refine Kd.C_drewN ?_ _) | (with_reducible refine Kd.C_drew ?_))); (case side2 => exact HC0.out); rintro e w13 ⟨rfl, hb⟩; refine ⟨_, rfl, ?_⟩; replace HB := sB hb; (try clear hb)) | (refine gl (some 12) Tryd.func162 #[.slice A1 l1.length c1, .int .i64 x5_1] ?_; (with_reducible refine (order_at.calls _ _ l1 x5_1 t331 t332 _ ?side1 ?side2 (gS HG) A5.out).mono ?_); (case side1 => repeat (first | exact (Kd.C_below HR1.out HB.out) | (with_reducible refine Kd.C_alloc ?_ _) | (with_reducible refine Kd.C_drewN ?_ _) | (with_reducible refine Kd.C_drew ?_))); (case side2 => exact HC1.out); rintro e w14 ⟨rfl, hb⟩; refine ⟨_, rfl, ?_⟩; replace HB := sB hb; (try clear hb)) | (refine gl (some 13) Tryd.func161 #[.agg #[.int .i64 t329, .string t330], .agg #[.int .i64 t331, .string t332]] ?_; (with_reducible refine (order_word.calls k1 t329 t330 t331 t332 t333 _ (gS HG) A6.out).mono ?_); rintro e w15 ⟨rfl, hb⟩; refine ⟨_, rfl, ?_⟩; replace HB := sB hb; (try clear hb)))
    (try simp only [Exit.inBlock, Exit.then, jump_ret])
    go_ret
    exact ⟨by first | rfl | (simp [errW_none, errW_some] <;> rfl) | (simp only [← hji8]; first | rfl | (simp [errW_none, errW_some] <;> rfl)) | (simp [*, errW_none, errW_some] <;> rfl), bE⟩
   rw [if_pos c9] at H
   have c9b0 := dT c9
   clear c9
   have H' := Aside0.mk H
   clear H
   go_wp2_with (first | (refine gl (some 9) Tryd.func162 #[.slice A0 l0.length c0, .int .i64 x5_1] ?_; (with_reducible refine (order_at.calls _ _ l0 x5_1 t329 t330 _ ?side1 ?side2 (gS HG) A4.out).mono ?_); (case side1 => repeat (first | exact (Kd.C_below HR0.out HB.out) | (with_reducible refine Kd.C_alloc ?_ _) | (with_reducible refine Kd.C_drewN ?_ _) | (with_reducible refine Kd.C_drew ?_))); (case side2 => exact HC0.out); rintro e w10 ⟨rfl, hb⟩; refine ⟨_, rfl, ?_⟩; replace HB := sB hb; (try clear hb)) | (refine gl (some 12) Tryd.func162 #[.slice A1 l1.length c1, .int .i64 x5_1] ?_; (with_reducible refine (order_at.calls _ _ l1 x5_1 t331 t332 _ ?side1 ?side2 (gS HG) A5.out).mono ?_); (case side1 => repeat (first | exact (Kd.C_below HR1.out HB.out) | (with_reducible refine Kd.C_alloc ?_ _) | (with_reducible refine Kd.C_drewN ?_ _) | (with_reducible refine Kd.C_drew ?_))); (case side2 => exact HC1.out); rintro e w11 ⟨rfl, hb⟩; refine ⟨_, rfl, ?_⟩; replace HB := sB hb; (try clear hb)) | (refine gl (some 13) Tryd.func161 #[.agg #[.int .i64 t329, .string t330], .agg #[.int .i64 t331, .string t332]] ?_; (with_reducible refine (order_word.calls k1 t329 t330 t331 t332 t333 _ (gS HG) A6.out).mono ?_); rintro e w12 ⟨rfl, hb⟩; refine ⟨_, rfl, ?_⟩; replace HB := sB hb; (try clear hb)))
   refine wp_goto (And.intro rfl ?_)
   refine hKs0 _ _ ?_
   go_roundg k1
   case measure => have := HK1.out; omega
   case rel => exact ⟨(wrap64 (x5_1 + 1)), cA, H', ⟨by have := HK1.out; omega⟩, ⟨bE⟩⟩
def chars_Digit.f (a0 : Int) : Option (Bool) := if a0 ≥ 48 then (some (decide (a0 ≤ 57))) else (some false)
theorem chars_Digit.calls (a0 : Int) (r : Bool) (w : World) (hG : Glob w) (h : chars_Digit.f a0 = some r) :
 Calls Tryd.prog 106 #[.int .u8 a0] w fun e w' => e = .returned (.bool r) ∧ Drawn0 w w' := by
 have HG := Aside0.mk hG
 clear hG
 have H : (if a0 ≥ 48 then (some (decide (a0 ≤ 57))) else (some false)) = some r := h
 clear h
 by_cases c2 : a0 ≥ 48
 rotate_left
 ·rw [if_neg c2] at H
  have c2b0 := dF c2
  clear c2
  obtain rfl := Option.some.inj H
  go_enter Tryd.func106, Tryd.ntmps106
  go_wp2
  go_ret
  exact ⟨by first | rfl | (simp; done) | (simp [*]; done), by repeat (first | exact Drawn0.refl _ | apply Drawn0.step)⟩
 rw [if_pos c2] at H
 have c2b0 := dT c2
 clear c2
 obtain rfl := Option.some.inj H
 go_enter Tryd.func106, Tryd.ntmps106
 go_wp2
 go_ret
 exact ⟨by first | rfl | (simp; done) | (simp [*]; done), by repeat (first | exact Drawn0.refl _ | apply Drawn0.step)⟩
def words_parts.l0 : Nat → ByteArray → List (S93) → Int → Int → Option ((List (S93)))
 | 0, _, _, _, _ => none
 | k + 1, x0, x3, x10, x11 => if x11 < x10 then (if 0 ≤ x11 then (if x11 < (x0.size : Int) then (if 0 ≤ (wrap64 ((x3.length : Int) - 1)) then (if (wrap64 ((x3.length : Int) - 1)) < (x3.length : Int) then (if (bt x0 x11) = 46 then (if x3.length < 5864062014805 then (words_parts.l0 k x0 (x3 ++ [(⟨(⟨#[]⟩ : ByteArray), ((bt x0 x11) == 45), false⟩ : S93)]) x10 (wrap64 (x11 + 1))) else (none)) else (if (bt x0 x11) = 45 then (if x3.length < 5864062014805 then (words_parts.l0 k x0 (x3 ++ [(⟨(⟨#[]⟩ : ByteArray), true, false⟩ : S93)]) x10 (wrap64 (x11 + 1))) else (none)) else (if ((rd_T93 x3 (wrap64 ((x3.length : Int) - 1))).f0).toList = ([] : List UInt8) then ((some (([bt x0 x11] : List Int) : List Int)).bind fun y123 => (if ((rd_T93 x3 (wrap64 ((x3.length : Int) - 1))).f0).size + (strOfNums y123).size ≤ 9223372036854775807 then (words_parts.l0 k x0 (x3.set ((wrap64 ((x3.length : Int) - 1)) : Int).toNat (⟨((rd_T93 x3 (wrap64 ((x3.length : Int) - 1))).f0) ++ (strOfNums y123), (rd_T93 x3 (wrap64 ((x3.length : Int) - 1))).f1, (rd_T93 x3 (wrap64 ((x3.length : Int) - 1))).f2⟩ : S93)) x10 (wrap64 (x11 + 1))) else (none))) else ((chars_Digit.f (bt x0 x11)).bind fun t127 => (if 0 ≤ (wrap64 (x11 - 1)) then (if (wrap64 (x11 - 1)) < (x0.size : Int) then ((chars_Digit.f (bt x0 (wrap64 (x11 - 1)))).bind fun t128 => (if (t127 != t128) = true then ((chars_Digit.f (bt x0 x11)).bind fun t129 => ((some (x3.set ((wrap64 ((x3.length : Int) - 1)) : Int).toNat (⟨(rd_T93 x3 (wrap64 ((x3.length : Int) - 1))).f0, (rd_T93 x3 (wrap64 ((x3.length : Int) - 1))).f1, t129⟩ : S93) : List (S93))).bind fun y130 => (if y130.length < 5864062014805 then ((some (y130 ++ [(⟨(⟨#[]⟩ : ByteArray), true, false⟩ : S93)] : List (S93))).bind fun y131 => (if 0 ≤ (wrap64 ((y131.length : Int) - 1)) then (if (wrap64 ((y131.length : Int) - 1)) < (y131.length : Int) then ((some (([bt x0 x11] : List Int) : List Int)).bind fun y135 => (if ((rd_T93 y131 (wrap64 ((y131.length : Int) - 1))).f0).size + (strOfNums y135).size ≤ 9223372036854775807 then (words_parts.l0 k x0 (y131.set ((wrap64 ((y131.length : Int) - 1)) : Int).toNat (⟨((rd_T93 y131 (wrap64 ((y131.length : Int) - 1))).f0) ++ (strOfNums y135), (rd_T93 y131 (wrap64 ((y131.length : Int) - 1))).f1, (rd_T93 y131 (wrap64 ((y131.length : Int) - 1))).f2⟩ : S93)) x10 (wrap64 (x11 + 1))) else (none))) else (none)) else (none))) else (none)))) else ((some (([bt x0 x11] : List Int) : List Int)).bind fun y140 => (if ((rd_T93 x3 (wrap64 ((x3.length : Int) - 1))).f0).size + (strOfNums y140).size ≤ 9223372036854775807 then (words_parts.l0 k x0 (x3.set ((wrap64 ((x3.length : Int) - 1)) : Int).toNat (⟨((rd_T93 x3 (wrap64 ((x3.length : Int) - 1))).f0) ++ (strOfNums y140), (rd_T93 x3 (wrap64 ((x3.length : Int) - 1))).f1, (rd_T93 x3 (wrap64 ((x3.length : Int) - 1))).f2⟩ : S93)) x10 (wrap64 (x11 + 1))) else (none))))) else (none)) else (none)))))) else (none)) else (none)) else (none)) else (none)) else (some x3)
def words_parts.f (k : Nat) (a0 : ByteArray) : Option ((List (S93))) := words_parts.l0 k a0 (([(⟨(⟨#[]⟩ : ByteArray), false, false⟩ : S93)] : List (S93))) (a0.size : Int) 0
theorem words_parts.mono_l : ∀ k, (∀ y0 y1 y2 y3, LeO (words_parts.l0 k y0 y1 y2 y3) (words_parts.l0 (k + 1) y0 y1 y2 y3))
 | 0 => fun _ _ _ _ r h => by simp [words_parts.l0] at h
 | k + 1 => by
  have ih0 := words_parts.mono_l k
  ·intro y0 y1 y2 y3
   unfold words_parts.l0
   exact mo
theorem words_parts.mono : ∀ a0 k, LeO (words_parts.f k a0) (words_parts.f (k + 1) a0) := by
 intro a0 k
 have ih0 := words_parts.mono_l k
 unfold words_parts.f
 exact mo
def words_parts.T5 : Bool × List (List Nat × List Nat) := (true, [([], []), ([], []), ([0, 1], [0, 1]), ([], []), ([], []), ([4], [4]), ([5], [5]), ([3, 6], [3, 6]), ([2, 0, 1, 2], [2]), ([7, 8, 0, 1, 2, 3, 4, 5, 6, 7, 8], [7])])
def words_parts.B5 : List Nat := [0, 0, 3, 0, 0, 16, 48, 120, 7, 511]
theorem words_parts.tab5 : rtab .any (opsOf Tryd.f71 5) = words_parts.T5 := by kernel_rfl
theorem words_parts.bits5 : waitsOk words_parts.T5.2 words_parts.B5 = true := by kernel_rfl
def words_parts.T8 : Bool × List (List Nat × List Nat) := (true, [([], []), ([0], [0]), ([1], [1]), ([2], [2]), ([3], [3]), ([4], [4]), ([5], [5]), ([6, 5, 5], [5, 6]), ([5], [5]), ([5], [5]), ([9, 5], [5, 9]), ([8, 10, 5], [5, 8, 10]), ([11, 7, 5], [5, 11]), ([7, 12, 5], [5, 7, 12]), ([5, 13], [5, 13]), ([14, 12], [14])])
def words_parts.B8 : List Nat := [0, 1, 3, 7, 15, 31, 63, 127, 63, 63, 575, 1855, 4095, 8191, 16383, 32767]
theorem words_parts.tab8 : rtab .any (opsOf Tryd.f71 8) = words_parts.T8 := by kernel_rfl
theorem words_parts.bits8 : waitsOk words_parts.T8.2 words_parts.B8 = true := by kernel_rfl
def words_parts.T12 : Bool × List (List Nat × List Nat) := (true, [([], []), ([0], [0]), ([1], [1]), ([2], [2]), ([], []), ([4], [4]), ([5], [5]), ([3, 6], [3, 6]), ([0, 0, 1, 2, 3, 4, 5, 6, 7], [0]), ([8, 0, 1, 2, 3, 4, 5, 6, 7], [8]), ([9, 7, 0, 1, 2, 3, 4, 5, 6, 7], [7, 9])])
def words_parts.B12 : List Nat := [0, 1, 3, 7, 0, 16, 48, 127, 255, 511, 1023]
theorem words_parts.tab12 : rtab .any (opsOf Tryd.f71 12) = words_parts.T12 := by kernel_rfl
theorem words_parts.bits12 : waitsOk words_parts.T12.2 words_parts.B12 = true := by kernel_rfl
theorem words_parts.calls (k : Nat) (a0 : ByteArray) (r : List (S93)) (w : World) (hG : Glob w) (h : words_parts.f k a0 = some r) :
 Calls Tryd.prog 71 #[.string a0] w fun e w' => ∃ v0_ : Value, e = .returned (v0_) ∧ Kd.R k93 93 w' w.heap.size (fun _ => True) v0_ r ∧ Below w.heap.size w w' := by
 have hu93 := Tryd.underlying93
 have HG := Aside0.mk hG
 clear hG
 have HB := Aside0.mk (Below.refl w.heap.size w)
 have H : (words_parts.l0 k a0 (([(⟨(⟨#[]⟩ : ByteArray), false, false⟩ : S93)] : List (S93))) (a0.size : Int) 0) = some r := h
 clear h
 obtain ⟨y112, hy112⟩ : ∃ y_ : List (S93), y_ = (([(⟨(⟨#[]⟩ : ByteArray), false, false⟩ : S93)] : List (S93))) := ⟨_, rfl⟩
 replace H : (words_parts.l0 k a0 y112 (a0.size : Int) 0) = some r := by first | (rw [hy112]; with_reducible exact H) | (have H2_ := (Option.bind_some _ _).symm.trans H; rw [hy112]; with_reducible exact H2_) | (have H2_ := (Option.bind_some _ _).symm.trans H; with_reducible exact H2_) | with_reducible exact H | (rw [hy112]; exact H) | exact H
 have Ny112 := Aside0.mk hy112
 clear hy112
 have H' := Aside0.mk H
 clear H
 go_enter Tryd.func71, Tryd.ntmps71
 go_wp2_with (first | ((with_reducible refine gate_dst (N := 8) rfl ?_); refine Kd.R_lit k93 _ 93 ?hg (N := 8) ?hd (xs := ([(⟨(⟨#[]⟩ : ByteArray), false, false⟩ : S93)] : List (S93))) (inner := [.string (⟨#[]⟩ : ByteArray), .bool false, .bool false]) (ok := fun _ => True) (okp := fun _ => True) ?hr ?hp (fun _ hk => hk) trivial (Below.refl _ _) (Nat.le_refl _) (by simp) ?_; (case hd => rfl); (case hg => rfl); (case hr => first | (go_simp; done) | (go_simp; rfl)); (case hp => exact (Reps.c3 (show Kd.M k93 _ _ _ (⟨(⟨#[]⟩ : ByteArray), false, false⟩ : S93) [.string (⟨#[]⟩ : ByteArray), .bool false, .bool false] from (k93_mkM _ _ _ (⟨(⟨#[]⟩ : ByteArray), false, false⟩ : S93) )) (Reps.none _ _))); intro v113 w2 ho3 hb hg_ hnew_; clear hg_ hnew_; (first | rw [← Ny112.out] at ho3 | (simp only [Int.reduceToNat] at ho3; rw [← Ny112.out] at ho3)); have HO114 := Aside0.mk (Kd.R_lower ho3 (below_size bE)); replace HB := sB hb; clear hb ho3))
 (try simp only [Act.put, List.setIfInBounds_toArray, List.set_cons_zero, List.set_cons_succ])
 go_loopg [3, 11] k (fun kq v3 v11 w' => ∃ (x3_1 : List (S93)) (x11_1 : Int), v11 = .int .i64 x11_1 ∧ Aside0 (words_parts.l0 kq a0 x3_1 (a0.size : Int) x11_1 = some r) ∧ Aside0 (kq ≤ k) ∧ Aside0 (Kd.R k93 93 w' w.heap.size (fun _ => True) v3 x3_1) ∧ Aside0 (Below w.heap.size w w'))
 case atStart => exact ⟨(y112), (0), cA, H', ⟨Nat.le_refl _⟩, ⟨kR HO114⟩, ⟨bE⟩⟩
 clear H'
 try clear p2
 try clear c3
 obtain ⟨x3_1, x11_1, rfl, HA, HK1, HO_3, HB⟩ := hrel
 cases gk with
 | zero => exact absurd HA.out (by simp [words_parts.l0])
 | succ k1 =>
  have H := HA.out
  clear HA
  simp only [words_parts.l0] at H
  by_cases c4 : x11_1 < (a0.size : Int)
  rotate_left
  ·rw [if_neg c4] at H
   have c4b0 := dF c4
   clear c4
   obtain rfl := Option.some.inj H
   go_wp2
   go_ret
   exact ⟨_, by first | rfl | (simp [errW_none, errW_some] <;> rfl) | (simp [*, errW_none, errW_some] <;> rfl), by (with_reducible repeat (first | apply Kd.R_alloc | apply Kd.R_drewN | apply Kd.R_drew)); exact HO_3.out, bE⟩
  rw [if_pos c4] at H
  have c4b0 := dT c4
  clear c4
  by_cases c5 : 0 ≤ x11_1
  rotate_left
  ·rw [if_neg c5] at H
   exact absurd H (by simp)
  rw [if_pos c5] at H
  have c5b0 := dT c5
  clear c5
  by_cases c6 : x11_1 < (a0.size : Int)
  rotate_left
  ·rw [if_neg c6] at H
   exact absurd H (by simp)
  rw [if_pos c6] at H
  have c6b0 := dT c6
  clear c6
  obtain ⟨ji8, hji8⟩ : ∃ j_ : Int, (wrap64 ((x3_1.length : Int) - 1)) = j_ := ⟨_, rfl⟩
  rw [hji8] at H
  have hji8w : (IntKind.i64.wrap ((x3_1.length : Int) - 1)) = ji8 := (i64_w _).trans hji8
  by_cases c9 : 0 ≤ (ji8)
  rotate_left
  ·rw [if_neg c9] at H
   exact absurd H (by simp)
  rw [if_pos c9] at H
  have c9b0 := dT c9
  clear c9
  by_cases c10 : (ji8) < (x3_1.length : Int)
  rotate_left
  ·rw [if_neg c10] at H
   exact absurd H (by simp)
  rw [if_pos c10] at H
  have c10b0 := dT c10
  clear c10
  by_cases c12 : (bt a0 x11_1) = 46
  ·rw [if_pos c12] at H
   obtain ⟨c12b0, c12b1⟩ := eqT c12
   clear c12
   by_cases c13 : x3_1.length < 5864062014805
   rotate_left
   ·rw [if_neg c13] at H
    exact absurd H (by simp)
   rw [if_pos c13] at H
   have LMc13 := Aside0.mk c13
   clear c13
   obtain ⟨y115, hy115⟩ : ∃ y_ : List (S93), y_ = (x3_1 ++ [(⟨(⟨#[]⟩ : ByteArray), ((bt a0 x11_1) == 45), false⟩ : S93)]) := ⟨_, rfl⟩
   replace H : (words_parts.l0 k1 a0 y115 (a0.size : Int) (wrap64 (x11_1 + 1))) = some r := by first | (rw [hy115]; with_reducible exact H) | (have H2_ := (Option.bind_some _ _).symm.trans H; rw [hy115]; with_reducible exact H2_) | (have H2_ := (Option.bind_some _ _).symm.trans H; with_reducible exact H2_) | with_reducible exact H | (rw [hy115]; exact H) | exact H
   have Ny115 := Aside0.mk hy115
   clear hy115
   have H' := Aside0.mk H
   clear H
   try go_wp2
   replace HO_3 := Aside0.mk (Kd.R_drew HO_3.out)
   replace HB := Aside0.mk (below_drew1 HB.out)
   have p7 : 0 ≤ (x11_1 : Int) := dA
   have q7 : x11_1 < (a0.size : Int) := dA
   have hx7 := bt_at a0 x11_1
   replace p7 := eq_true p7
   replace q7 := eq_true q7
   obtain ⟨Ao15, co15, eo15⟩ := Kd.R_slice HO_3.out
   (first | subst eo15 | (injection eo15 with f1_ f2_ f3_; have f4_ := f1_.symm; have f5_ := f3_.symm; clear f1_ f2_ f3_; subst f4_; subst f5_))
   have p11 : 0 ≤ ((ji8) : Int) := dA
   have q11 : ((ji8) : Int) < ((x3_1.length : Int) : Int) := dA
   obtain ⟨go11, co11, eo11, gb11, gl11, cl11, HG11⟩ := Kd.R_form HO_3.out (by omega)
   (first | cases eo11 | (injection eo11 with ea_ en_ ec_; (first | subst ea_ | (injection ea_ with ea_; subst ea_)); subst ec_; clear en_))
   have GB11 := Aside0.mk gb11
   have GG11 := Aside0.mk HG11
   clear gb11 gl11 HG11
   obtain ⟨ce11, hcl11, hM11, hcc11, hfr11⟩ := Kd.R_elem HO_3.out z93 ((ji8) : Int) p11 q11
   obtain rfl := k93_openM hM11
   have hx11_0 : World.cell? _ ⟨go11, ((ji8) : Int).toNat * 3, none⟩ = some (.string ((rd_T93 x3_1 (ji8)).f0)) := hcc11 0 _ rfl
   have hx11_1 : World.cell? _ ⟨go11, ((ji8) : Int).toNat * 3 + 1, none⟩ = some (.bool ((rd_T93 x3_1 (ji8)).f1)) := hcc11 1 _ rfl
   have hx11_2 : World.cell? _ ⟨go11, ((ji8) : Int).toNat * 3 + 2, none⟩ = some (.bool ((rd_T93 x3_1 (ji8)).f2)) := hcc11 2 _ rfl
   have hf11_0 : World.frozen? _ ⟨go11, ((ji8) : Int).toNat * 3, none⟩ = false := hfr11 0
   have hf11_1 : World.frozen? _ ⟨go11, ((ji8) : Int).toNat * 3 + 1, none⟩ = false := hfr11 1
   have hf11_2 : World.frozen? _ ⟨go11, ((ji8) : Int).toNat * 3 + 2, none⟩ = false := hfr11 2
   clear hcl11 hcc11 hfr11 hM11
   replace p11 := eq_true p11
   replace q11 := eq_true q11
   refine start_ (n := 10) (S := fun w' => True) (ds := []) #[false, false, false, false, false, false, false, false, false, false] (by kernel_rfl) rfl rfl trivial (fun hHeld => ?_); refine with_tabW words_parts.tab5 words_parts.bits5 (fun HT_ HW_ => ?_)
   generalize wr.drew = w14 at HO_3 HB GG11 hf11_0 hf11_1 hf11_2 hx11_0 hx11_1 hx11_2 hHeld ⊢
   refine pz 0 (some 14) HT_ ?_
   refine pz 1 (some 15) HT_ ?_
   refine pz 3 (some 17) HT_ ?_
   refine pz 4 (some 18) HT_ ?_
   refine pz 5 (some 19) HT_ ?_
   refine pz 6 (some 20) HT_ ?_
   refine pz 7 (some 21) HT_ ?_
   refine tk 2 (some 16) HT_ HW_ hHeld ?_
   refine pz 8 (some 5) HT_ ?_
   refine pz 9 (some 6) HT_ ?_
   refine done_ (done_of HT_.out (by kernel_rfl)) ?_
   try go_wp2_with (first | ((with_reducible refine gate_builtin (b := .append) (xs := #[.tmp 29, .tmp 33]) rfl ?_); at_builtin; refine Kd.R_append k93 (w0 := w) w.heap.size rfl (.tmp 29) (.tmp 33) 87 93 (.agg #[(.string ⟨#[]⟩), (.bool false), (.bool false)]) 24 rfl Tryd.underlying87 info93 rfl (by decide) (by omega) (.slice (some ⟨go11, 0, none⟩) x3_1.length co15) x3_1 (⟨(⟨#[]⟩ : ByteArray), ((bt a0 x11_1) == 45), false⟩ : S93) [.string (⟨#[]⟩ : ByteArray), .bool ((bt a0 x11_1) == 45), .bool false] (fun _ => True) (fun _ => False) rfl rfl ?aP (fun _ hk => hk.elim) ?aF ?aO ?aB ?aS ?aL ?_; (case aP => exact k93_mkM _ _ _ (⟨(⟨#[]⟩ : ByteArray), ((bt a0 x11_1) == 45), false⟩ : S93)); (case aB => exact bE); (case aF => exact (fun _ _ => trivial)); (case aO => exact (kR HO_3)); (case aS => exact (below_size bE)); (case aL => have := LMc13.out; omega); intro v116 w16 ho hb hg hat; rw [← Ny115.out] at ho; replace HB := Aside0.mk (hb); have HO117 := Aside0.mk (ho); clear HO_3; clear ho hb hg hat))
   go_roundg k1
   case measure => have := HK1.out; omega
   case rel => exact ⟨(y115), (wrap64 (x11_1 + 1)), cA, H', ⟨by have := HK1.out; omega⟩, ⟨kR HO117⟩, ⟨bE⟩⟩
  rw [if_neg c12] at H
  obtain ⟨c12b0, c12b1⟩ := eqF c12
  by_cases c17 : (bt a0 x11_1) = 45
  ·rw [if_pos c17] at H
   obtain ⟨c17b0, c17b1⟩ := eqT c17
   clear c17
   by_cases c18 : x3_1.length < 5864062014805
   rotate_left
   ·rw [if_neg c18] at H
    exact absurd H (by simp)
   rw [if_pos c18] at H
   have LMc18 := Aside0.mk c18
   clear c18
   obtain ⟨y118, hy118⟩ : ∃ y_ : List (S93), y_ = (x3_1 ++ [(⟨(⟨#[]⟩ : ByteArray), true, false⟩ : S93)]) := ⟨_, rfl⟩
   replace H : (words_parts.l0 k1 a0 y118 (a0.size : Int) (wrap64 (x11_1 + 1))) = some r := by first | (rw [hy118]; with_reducible exact H) | (have H2_ := (Option.bind_some _ _).symm.trans H; rw [hy118]; with_reducible exact H2_) | (have H2_ := (Option.bind_some _ _).symm.trans H; with_reducible exact H2_) | with_reducible exact H | (rw [hy118]; exact H) | exact H
   have Ny118 := Aside0.mk hy118
   clear hy118
   have H' := Aside0.mk H
   clear H
   try go_wp2
   replace HO_3 := Aside0.mk (Kd.R_drew HO_3.out)
   replace HB := Aside0.mk (below_drew1 HB.out)
   have p7 : 0 ≤ (x11_1 : Int) := dA
   have q7 : x11_1 < (a0.size : Int) := dA
   have hx7 := bt_at a0 x11_1
   replace p7 := eq_true p7
   replace q7 := eq_true q7
   obtain ⟨Ao20, co20, eo20⟩ := Kd.R_slice HO_3.out
   (first | subst eo20 | (injection eo20 with f1_ f2_ f3_; have f4_ := f1_.symm; have f5_ := f3_.symm; clear f1_ f2_ f3_; subst f4_; subst f5_))
   have p11 : 0 ≤ ((ji8) : Int) := dA
   have q11 : ((ji8) : Int) < ((x3_1.length : Int) : Int) := dA
   obtain ⟨go11, co11, eo11, gb11, gl11, cl11, HG11⟩ := Kd.R_form HO_3.out (by omega)
   (first | cases eo11 | (injection eo11 with ea_ en_ ec_; (first | subst ea_ | (injection ea_ with ea_; subst ea_)); subst ec_; clear en_))
   have GB11 := Aside0.mk gb11
   have GG11 := Aside0.mk HG11
   clear gb11 gl11 HG11
   obtain ⟨ce11, hcl11, hM11, hcc11, hfr11⟩ := Kd.R_elem HO_3.out z93 ((ji8) : Int) p11 q11
   obtain rfl := k93_openM hM11
   have hx11_0 : World.cell? _ ⟨go11, ((ji8) : Int).toNat * 3, none⟩ = some (.string ((rd_T93 x3_1 (ji8)).f0)) := hcc11 0 _ rfl
   have hx11_1 : World.cell? _ ⟨go11, ((ji8) : Int).toNat * 3 + 1, none⟩ = some (.bool ((rd_T93 x3_1 (ji8)).f1)) := hcc11 1 _ rfl
   have hx11_2 : World.cell? _ ⟨go11, ((ji8) : Int).toNat * 3 + 2, none⟩ = some (.bool ((rd_T93 x3_1 (ji8)).f2)) := hcc11 2 _ rfl
   have hf11_0 : World.frozen? _ ⟨go11, ((ji8) : Int).toNat * 3, none⟩ = false := hfr11 0
   have hf11_1 : World.frozen? _ ⟨go11, ((ji8) : Int).toNat * 3 + 1, none⟩ = false := hfr11 1
   have hf11_2 : World.frozen? _ ⟨go11, ((ji8) : Int).toNat * 3 + 2, none⟩ = false := hfr11 2
   clear hcl11 hcc11 hfr11 hM11
   replace p11 := eq_true p11
   replace q11 := eq_true q11
   refine start_ (n := 10) (S := fun w' => True) (ds := []) #[false, false, false, false, false, false, false, false, false, false] (by kernel_rfl) rfl rfl trivial (fun hHeld => ?_); refine with_tabW words_parts.tab5 words_parts.bits5 (fun HT_ HW_ => ?_)
   generalize wr.drew = w19 at HO_3 HB GG11 hf11_0 hf11_1 hf11_2 hx11_0 hx11_1 hx11_2 hHeld ⊢
   refine pz 0 (some 14) HT_ ?_
   refine pz 1 (some 15) HT_ ?_
   refine pz 3 (some 17) HT_ ?_
   refine pz 4 (some 18) HT_ ?_
   refine pz 5 (some 19) HT_ ?_
   refine pz 6 (some 20) HT_ ?_
   refine pz 7 (some 21) HT_ ?_
   refine tk 2 (some 16) HT_ HW_ hHeld ?_
   refine pz 8 (some 5) HT_ ?_
   refine pz 9 (some 6) HT_ ?_
   refine done_ (done_of HT_.out (by kernel_rfl)) ?_
   try go_wp2_with (first | ((with_reducible refine gate_builtin (b := .append) (xs := #[.tmp 29, .tmp 33]) rfl ?_); at_builtin; refine Kd.R_append k93 (w0 := w) w.heap.size rfl (.tmp 29) (.tmp 33) 87 93 (.agg #[(.string ⟨#[]⟩), (.bool false), (.bool false)]) 24 rfl Tryd.underlying87 info93 rfl (by decide) (by omega) (.slice (some ⟨go11, 0, none⟩) x3_1.length co20) x3_1 (⟨(⟨#[]⟩ : ByteArray), true, false⟩ : S93) [.string (⟨#[]⟩ : ByteArray), .bool true, .bool false] (fun _ => True) (fun _ => False) rfl rfl ?aP (fun _ hk => hk.elim) ?aF ?aO ?aB ?aS ?aL ?_; (case aP => exact k93_mkM _ _ _ (⟨(⟨#[]⟩ : ByteArray), true, false⟩ : S93)); (case aB => exact bE); (case aF => exact (fun _ _ => trivial)); (case aO => exact (kR HO_3)); (case aS => exact (below_size bE)); (case aL => have := LMc18.out; omega); intro v119 w21 ho hb hg hat; rw [← Ny118.out] at ho; replace HB := Aside0.mk (hb); have HO120 := Aside0.mk (ho); clear HO_3; clear ho hb hg hat))
   go_roundg k1
   case measure => have := HK1.out; omega
   case rel => exact ⟨(y118), (wrap64 (x11_1 + 1)), cA, H', ⟨by have := HK1.out; omega⟩, ⟨kR HO120⟩, ⟨bE⟩⟩
  rw [if_neg c17] at H
  obtain ⟨c17b0, c17b1⟩ := eqF c17
  by_cases c22 : ((rd_T93 x3_1 (ji8)).f0).toList = ([] : List UInt8)
  ·rw [if_pos c22] at H
   obtain ⟨c22b0, c22b1⟩ := eqT c22
   (try (have c22b2 : (((rd_T93 x3_1 (ji8)).f0).toList).isEmpty = true := by simpa using c22))
   clear c22
   obtain ⟨y123, hy123⟩ : ∃ y_ : List Int, y_ = (([bt a0 x11_1] : List Int)) := ⟨_, rfl⟩
   replace H : (if ((rd_T93 x3_1 (ji8)).f0).size + (strOfNums y123).size ≤ 9223372036854775807 then (words_parts.l0 k1 a0 (x3_1.set ((ji8) : Int).toNat (⟨((rd_T93 x3_1 (ji8)).f0) ++ (strOfNums y123), (rd_T93 x3_1 (ji8)).f1, (rd_T93 x3_1 (ji8)).f2⟩ : S93)) (a0.size : Int) (wrap64 (x11_1 + 1))) else (none)) = some r := by first | (rw [hy123]; with_reducible exact H) | (have H2_ := (Option.bind_some _ _).symm.trans H; rw [hy123]; with_reducible exact H2_) | (have H2_ := (Option.bind_some _ _).symm.trans H; with_reducible exact H2_) | with_reducible exact H | (rw [hy123]; exact H) | exact H
   have Ny123 := Aside0.mk hy123
   clear hy123
   by_cases c23 : ((rd_T93 x3_1 (ji8)).f0).size + (strOfNums y123).size ≤ 9223372036854775807
   rotate_left
   ·rw [if_neg c23] at H
    exact absurd H (by simp)
   rw [if_pos c23] at H
   have c23b0 := eq_true c23
   have c23b1 := dT c23
   try have c23b2 : (9223372036854775807 < ((rd_T93 x3_1 (ji8)).f0).size + (strOfNums y123).size) = False := eq_false (Nat.not_lt.2 c23)
   obtain ⟨y126, hy126⟩ : ∃ y_ : List (S93), y_ = (x3_1.set ((ji8) : Int).toNat (⟨((rd_T93 x3_1 (ji8)).f0) ++ (strOfNums y123), (rd_T93 x3_1 (ji8)).f1, (rd_T93 x3_1 (ji8)).f2⟩ : S93)) := ⟨_, rfl⟩
   replace H : (words_parts.l0 k1 a0 y126 (a0.size : Int) (wrap64 (x11_1 + 1))) = some r := by first | (rw [hy126]; with_reducible exact H) | (have H2_ := (Option.bind_some _ _).symm.trans H; rw [hy126]; with_reducible exact H2_) | (have H2_ := (Option.bind_some _ _).symm.trans H; with_reducible exact H2_) | with_reducible exact H | (rw [hy126]; exact H) | exact H
   have Ny126 := Aside0.mk hy126
   clear hy126
   have H' := Aside0.mk H
   clear H
   try go_wp2
   replace HO_3 := Aside0.mk (Kd.R_drew HO_3.out)
   replace HB := Aside0.mk (below_drew1 HB.out)
   have p7 : 0 ≤ (x11_1 : Int) := dA
   have q7 : x11_1 < (a0.size : Int) := dA
   have hx7 := bt_at a0 x11_1
   replace p7 := eq_true p7
   replace q7 := eq_true q7
   obtain ⟨Ao26, co26, eo26⟩ := Kd.R_slice HO_3.out
   (first | subst eo26 | (injection eo26 with f1_ f2_ f3_; have f4_ := f1_.symm; have f5_ := f3_.symm; clear f1_ f2_ f3_; subst f4_; subst f5_))
   have p11 : 0 ≤ ((ji8) : Int) := dA
   have q11 : ((ji8) : Int) < ((x3_1.length : Int) : Int) := dA
   obtain ⟨go11, co11, eo11, gb11, gl11, cl11, HG11⟩ := Kd.R_form HO_3.out (by omega)
   (first | cases eo11 | (injection eo11 with ea_ en_ ec_; (first | subst ea_ | (injection ea_ with ea_; subst ea_)); subst ec_; clear en_))
   have GB11 := Aside0.mk gb11
   have GG11 := Aside0.mk HG11
   clear gb11 gl11 HG11
   obtain ⟨ce11, hcl11, hM11, hcc11, hfr11⟩ := Kd.R_elem HO_3.out z93 ((ji8) : Int) p11 q11
   obtain rfl := k93_openM hM11
   have hx11_0 : World.cell? _ ⟨go11, ((ji8) : Int).toNat * 3, none⟩ = some (.string ((rd_T93 x3_1 (ji8)).f0)) := hcc11 0 _ rfl
   have hx11_1 : World.cell? _ ⟨go11, ((ji8) : Int).toNat * 3 + 1, none⟩ = some (.bool ((rd_T93 x3_1 (ji8)).f1)) := hcc11 1 _ rfl
   have hx11_2 : World.cell? _ ⟨go11, ((ji8) : Int).toNat * 3 + 2, none⟩ = some (.bool ((rd_T93 x3_1 (ji8)).f2)) := hcc11 2 _ rfl
   have hf11_0 : World.frozen? _ ⟨go11, ((ji8) : Int).toNat * 3, none⟩ = false := hfr11 0
   have hf11_1 : World.frozen? _ ⟨go11, ((ji8) : Int).toNat * 3 + 1, none⟩ = false := hfr11 1
   have hf11_2 : World.frozen? _ ⟨go11, ((ji8) : Int).toNat * 3 + 2, none⟩ = false := hfr11 2
   clear hcl11 hcc11 hfr11 hM11
   replace p11 := eq_true p11
   replace q11 := eq_true q11
   refine start_ (n := 10) (S := fun w' => True) (ds := []) #[false, false, false, false, false, false, false, false, false, false] (by kernel_rfl) rfl rfl trivial (fun hHeld => ?_); refine with_tabW words_parts.tab5 words_parts.bits5 (fun HT_ HW_ => ?_)
   generalize wr.drew = w25 at HO_3 HB GG11 hf11_0 hf11_1 hf11_2 hx11_0 hx11_1 hx11_2 hHeld ⊢
   refine pz 0 (some 14) HT_ ?_
   refine pz 1 (some 15) HT_ ?_
   refine pz 3 (some 17) HT_ ?_
   refine pz 4 (some 18) HT_ ?_
   refine pz 5 (some 19) HT_ ?_
   refine pz 6 (some 20) HT_ ?_
   refine pz 7 (some 21) HT_ ?_
   refine tk 2 (some 16) HT_ HW_ hHeld ?_
   refine pz 8 (some 5) HT_ ?_
   refine pz 9 (some 6) HT_ ?_
   refine done_ (done_of HT_.out (by kernel_rfl)) ?_
   try go_wp2
   replace HO_3 := Aside0.mk (Kd.R_drew HO_3.out)
   replace HB := Aside0.mk (below_drew1 HB.out)
   have p121 : 0 ≤ ((ji8) : Int) := dA
   have q121 : (ji8) < (x3_1.length : Int) := dA
   obtain ⟨ad121, e121, hx121_0, hx121_1, hx121_2⟩ := at_T93 (Kd.R_reads' HO_3.out).2.2 (ji8) p121 q121
   obtain rfl : (⟨go11, 0, none⟩ : Addr) = ad121 := (by injection e121)
   (first | simp only [add_plain] at hx121_0 | simp only [add_at] at hx121_0 | simp only [Addr.add, Nat.zero_add] at hx121_0 | skip)
   (first | simp only [add_plain] at hx121_1 | simp only [add_at] at hx121_1 | simp only [Addr.add, Nat.zero_add] at hx121_1 | skip)
   (first | simp only [add_plain] at hx121_2 | simp only [add_at] at hx121_2 | simp only [Addr.add, Nat.zero_add] at hx121_2 | skip)
   replace p121 := eq_true p121
   replace q121 := eq_true q121
   refine start_ (n := 16) (S := fun w' => w'.cell? ⟨go11, ((ji8)).toNat * 3, none⟩ = some (.string ((rd_T93 x3_1 (ji8)).f0)) ∧ w'.cell? ⟨go11, ((ji8)).toNat * 3 + 1, none⟩ = some (.bool ((rd_T93 x3_1 (ji8)).f1)) ∧ w'.cell? ⟨go11, ((ji8)).toNat * 3 + 2, none⟩ = some (.bool ((rd_T93 x3_1 (ji8)).f2))) (ds := []) #[false, false, false, false, false, false, false, false, false, false, false, false, false, false, false, false] (by kernel_rfl) rfl rfl ⟨hx121_0, hx121_1, hx121_2⟩ (fun hHeld => ?_); refine with_tabW words_parts.tab8 words_parts.bits8 (fun HT_ HW_ => ?_)
   generalize w25.drew = w27 at HO_3 HB hx121_0 hx121_1 hx121_2 hHeld ⊢
   refine pz 0 (some 36) HT_ ?_
   refine pz 1 (some 37) HT_ ?_
   refine pz 2 (some 38) HT_ ?_
   refine tm 3 (some 39) HT_ HW_ hHeld ?_
   refine pz 4 (some 40) HT_ ?_
   refine pz 5 (some 41) HT_ ?_
   refine pu 6 (some 42) HT_ ?_
   refine pu 7 (some 43) HT_ ?_
   refine pu 8 (some 44) HT_ ?_
   refine pu 9 (some 45) HT_ ?_
   refine pu 10 (some 46) HT_ ?_
   refine pu 11 (some 47) HT_ ?_
   refine pu 12 (some 48) HT_ ?_
   refine pu 13 (some 49) HT_ ?_
   refine pz 14 (some 50) HT_ ?_
   refine pz 15 (some 35) HT_ ?_
   refine done_ (done_of HT_.out (by kernel_rfl)) ?_
   try go_wp2
   replace HO_3 := Aside0.mk (Kd.R_drew HO_3.out)
   replace HB := Aside0.mk (below_drew1 HB.out)
   have p122 : 0 ≤ ((ji8) : Int) := dA
   have q122 : (ji8) < (x3_1.length : Int) := dA
   obtain ⟨ad122, e122, hx122_0, hx122_1, hx122_2⟩ := at_T93 (Kd.R_reads' HO_3.out).2.2 (ji8) p122 q122
   obtain rfl : (⟨go11, 0, none⟩ : Addr) = ad122 := (by injection e122)
   (first | simp only [add_plain] at hx122_0 | simp only [add_at] at hx122_0 | simp only [Addr.add, Nat.zero_add] at hx122_0 | skip)
   (first | simp only [add_plain] at hx122_1 | simp only [add_at] at hx122_1 | simp only [Addr.add, Nat.zero_add] at hx122_1 | skip)
   (first | simp only [add_plain] at hx122_2 | simp only [add_at] at hx122_2 | simp only [Addr.add, Nat.zero_add] at hx122_2 | skip)
   replace p122 := eq_true p122
   replace q122 := eq_true q122
   refine start_ (n := 11) (S := fun w' => w'.cell? ⟨go11, ((ji8)).toNat * 3, none⟩ = some (.string ((rd_T93 x3_1 (ji8)).f0)) ∧ w'.cell? ⟨go11, ((ji8)).toNat * 3 + 1, none⟩ = some (.bool ((rd_T93 x3_1 (ji8)).f1)) ∧ w'.cell? ⟨go11, ((ji8)).toNat * 3 + 2, none⟩ = some (.bool ((rd_T93 x3_1 (ji8)).f2))) (ds := [10]) #[false, false, false, false, false, false, false, false, false, false, false] (by kernel_rfl) rfl rfl ⟨hx122_0, hx122_1, hx122_2⟩ (fun hHeld => ?_); refine with_tabW words_parts.tab12 words_parts.bits12 (fun HT_ HW_ => ?_)
   generalize w27.drew = w28 at HO_3 HB hx122_0 hx122_1 hx122_2 hHeld ⊢
   refine pz 0 (some 65) HT_ ?_
   refine pz 1 (some 66) HT_ ?_
   refine pz 2 (some 67) HT_ ?_
   refine pz 4 (some 69) HT_ ?_
   refine tm 3 (some 68) HT_ HW_ hHeld ?_
   refine on 5 (some 70) HT_ (fun K hK => ?_)
   refine Kd.R_lit_step (Kd.int .u8) _ 5 ?hg (N := 70) ?hd (xs := ([bt a0 x11_1] : List Int)) (inner := [.int .u8 (bt a0 x11_1)]) (ok := fun _ => True) (okp := fun _ => True) ?hr ?hp (fun _ hk => hk) trivial (Below.refl _ _) (Nat.le_refl _) (by simp) ?_; (case hd => rfl); (case hg => rfl); (case hr => first | (go_simp; done) | (go_simp; rfl)); (case hp => exact (Reps.one (show Kd.M (Kd.int .u8) _ _ _ (bt a0 x11_1) [.int .u8 (bt a0 x11_1)] from rfl) (Reps.none _ _)))
   intro v124 w29 ho30 hb hg_ hnew_
   have HS0_ := (hb.cell (World.block_lt_of_cell? _ _ (hHeld.1))).trans (hHeld.1)
   have HS1_ := (hb.cell (World.block_lt_of_cell? _ _ (hHeld.2.1))).trans (hHeld.2.1)
   have HS2_ := (hb.cell (World.block_lt_of_cell? _ _ (hHeld.2.2))).trans (hHeld.2.2)
   clear hg_ hnew_
   (first | rw [← Ny123.out] at ho30 | (simp only [Int.reduceToNat] at ho30; rw [← Ny123.out] at ho30))
   replace HO_3 := rB HO_3 hb
   have HO125 := Aside0.mk (Kd.R_lower ho30 (below_size bE))
   replace HB := sB hb
   clear hb ho30
   have p24 : 0 ≤ ((ji8) : Int) := dA
   have q24 : ((ji8) : Int) < ((x3_1.length : Int) : Int) := dA
   obtain ⟨ce24, hcl24, hM24, hcc24, hfr24⟩ := Kd.R_elem HO_3.out z93 ((ji8) : Int) p24 q24
   obtain rfl := k93_openM hM24
   have hx24_0 : World.cell? _ ⟨go11, ((ji8) : Int).toNat * 3, none⟩ = some (.string ((rd_T93 x3_1 (ji8)).f0)) := hcc24 0 _ rfl
   have hx24_1 : World.cell? _ ⟨go11, ((ji8) : Int).toNat * 3 + 1, none⟩ = some (.bool ((rd_T93 x3_1 (ji8)).f1)) := hcc24 1 _ rfl
   have hx24_2 : World.cell? _ ⟨go11, ((ji8) : Int).toNat * 3 + 2, none⟩ = some (.bool ((rd_T93 x3_1 (ji8)).f2)) := hcc24 2 _ rfl
   have hf24_0 : World.frozen? _ ⟨go11, ((ji8) : Int).toNat * 3, none⟩ = false := hfr24 0
   have hf24_1 : World.frozen? _ ⟨go11, ((ji8) : Int).toNat * 3 + 1, none⟩ = false := hfr24 1
   have hf24_2 : World.frozen? _ ⟨go11, ((ji8) : Int).toNat * 3 + 2, none⟩ = false := hfr24 2
   clear hcl24 hcc24 hfr24 hM24
   replace p24 := eq_true p24
   replace q24 := eq_true q24
   obtain ⟨ce32, hcl32, hM32, hcc32, hfr32⟩ := Kd.R_elem HO_3.out z93 ((ji8) : Int) (dA) (by have h_ : ((ji8) : Int) < ((x3_1.length : Int) : Int) := dA; first | exact h_ | (have e_ := (Kd.R_reads' HO_3.out).1; omega) | simpa using h_)
   obtain rfl := k93_openM hM32
   have HP32 := (Kd.R_seg HO_3.out ((ji8) : Int) (dA) (by have h_ : ((ji8) : Int) < ((x3_1.length : Int) : Int) := dA; first | exact h_ | (have e_ := (Kd.R_reads' HO_3.out).1; omega) | simpa using h_) (seg := [.string (((rd_T93 x3_1 (ji8)).f0) ++ (strOfNums y123))]) (j := 0) hcl32 hcc32 (show 1 ≤ 3 from by decide) (x' := (⟨((rd_T93 x3_1 (ji8)).f0) ++ (strOfNums y123), (rd_T93 x3_1 (ji8)).f1, (rd_T93 x3_1 (ji8)).f2⟩ : S93)) (k93_mkM _ _ _ (⟨((rd_T93 x3_1 (ji8)).f0) ++ (strOfNums y123), (rd_T93 x3_1 (ji8)).f1, (rd_T93 x3_1 (ji8)).f2⟩ : S93) ) (fun _ hk => hk)).1
   rw [← Ny126.out] at HP32
   have HQ32 := Aside0.mk HP32
   clear hcl32 hcc32 hfr32 hM32 HP32
   refine hK.out _ _ ⟨HS0_, HS1_, HS2_⟩ (fun hHeld => ?_)
   clear hK K
   refine nz (some 70) ?_
   refine on 6 (some 71) HT_ (fun K hK => ?_)
   have hcv31 := own_string (P := Tryd.prog) Tryd.underlying30 Tryd.underlying5 Tryd.underlying9 (Kd.own_of_R HO125.out)
   refine value_ (w1 := ?_) (v := ?_) (by rfl) rfl ?_ ?_
   rotate_left 2
   ·go_simp
    constructor
    ·rfl
    ·rfl
   clear hcv31
   refine hK.out _ _ ⟨hHeld.1, hHeld.2.1, hHeld.2.2⟩ (fun hHeld => ?_)
   clear hK K
   refine nz (some 71) ?_
   refine pz 7 (some 72) HT_ ?_
   refine pz 8 (some 73) HT_ ?_
   refine pz 9 (some 74) HT_ ?_
   refine last_ (i := 10) (N := none) #[true, true, true, true, true, true, true, true, true, true, true] rfl rfl (one_of HT_.out (by kernel_rfl)) (by decide) (fun K hK => ?_)
   refine skip_ (w1 := ?_) (by rfl) rfl ?_ ?_
   rotate_left
   ·go_simp
    rfl
   refine hK.out _ _ ?_
   clear hK K
   refine done_ (done_of HT_.out (by kernel_rfl)) ?_
   try go_wp2
   go_roundg k1
   case measure => have := HK1.out; omega
   case rel => exact ⟨(y126), (wrap64 (x11_1 + 1)), cA, H', ⟨by have := HK1.out; omega⟩, ⟨by (with_reducible repeat (first | apply Kd.R_alloc | apply Kd.R_drewN | apply Kd.R_drew)); exact HQ32.out⟩, ⟨by repeat (first | (with_reducible first | exact HB.out | apply below_alloc | apply pw_below_drewN | apply below_drew1 | refine below_set ?_ GB11.out) | exact HB.out)⟩⟩
  rw [if_neg c22] at H
  obtain ⟨c22b0, c22b1⟩ := eqF c22
  (try (have c22b2 : (((rd_T93 x3_1 (ji8)).f0).toList).isEmpty = false := by simpa using c22))
  replace H := bi H
  obtain ⟨t127, A330, H⟩ := H
  try dsimp only at H
  have A33 := Aside0.mk A330
  clear A330
  obtain ⟨ji34, hji34⟩ : ∃ j_ : Int, (wrap64 (x11_1 - 1)) = j_ := ⟨_, rfl⟩
  rw [hji34] at H
  (try rw [hji34] at A33)
  have hji34w : (IntKind.i64.wrap (x11_1 - 1)) = ji34 := (i64_w _).trans hji34
  by_cases c35 : 0 ≤ (ji34)
  rotate_left
  ·rw [if_neg c35] at H
   exact absurd H (by simp)
  rw [if_pos c35] at H
  have c35b0 := dT c35
  clear c35
  by_cases c36 : (ji34) < (a0.size : Int)
  rotate_left
  ·rw [if_neg c36] at H
   exact absurd H (by simp)
  rw [if_pos c36] at H
  have c36b0 := dT c36
  clear c36
  replace H := bi H
  obtain ⟨t128, A380, H⟩ := H
  try dsimp only at H
  have A38 := Aside0.mk A380
  clear A380
  by_cases c39 : (t127 != t128) = true
  rotate_left
  ·rw [if_neg c39] at H
   have c39b0 : (t127 != t128) = false := by simpa using c39
   (try (have c39b1 : decide (t127 = t128) = true := by simpa using c39))
   (try (have c39b2 : (t127 == t128) = true := by simpa using c39))
   clear c39
   obtain ⟨y140, hy140⟩ : ∃ y_ : List Int, y_ = (([bt a0 x11_1] : List Int)) := ⟨_, rfl⟩
   replace H : (if ((rd_T93 x3_1 (ji8)).f0).size + (strOfNums y140).size ≤ 9223372036854775807 then (words_parts.l0 k1 a0 (x3_1.set ((ji8) : Int).toNat (⟨((rd_T93 x3_1 (ji8)).f0) ++ (strOfNums y140), (rd_T93 x3_1 (ji8)).f1, (rd_T93 x3_1 (ji8)).f2⟩ : S93)) (a0.size : Int) (wrap64 (x11_1 + 1))) else (none)) = some r := by first | (rw [hy140]; with_reducible exact H) | (have H2_ := (Option.bind_some _ _).symm.trans H; rw [hy140]; with_reducible exact H2_) | (have H2_ := (Option.bind_some _ _).symm.trans H; with_reducible exact H2_) | with_reducible exact H | (rw [hy140]; exact H) | exact H
   have Ny140 := Aside0.mk hy140
   clear hy140
   by_cases c61 : ((rd_T93 x3_1 (ji8)).f0).size + (strOfNums y140).size ≤ 9223372036854775807
   rotate_left
   ·rw [if_neg c61] at H
    exact absurd H (by simp)
   rw [if_pos c61] at H
   have c61b0 := eq_true c61
   have c61b1 := dT c61
   try have c61b2 : (9223372036854775807 < ((rd_T93 x3_1 (ji8)).f0).size + (strOfNums y140).size) = False := eq_false (Nat.not_lt.2 c61)
   obtain ⟨y143, hy143⟩ : ∃ y_ : List (S93), y_ = (x3_1.set ((ji8) : Int).toNat (⟨((rd_T93 x3_1 (ji8)).f0) ++ (strOfNums y140), (rd_T93 x3_1 (ji8)).f1, (rd_T93 x3_1 (ji8)).f2⟩ : S93)) := ⟨_, rfl⟩
   replace H : (words_parts.l0 k1 a0 y143 (a0.size : Int) (wrap64 (x11_1 + 1))) = some r := by first | (rw [hy143]; with_reducible exact H) | (have H2_ := (Option.bind_some _ _).symm.trans H; rw [hy143]; with_reducible exact H2_) | (have H2_ := (Option.bind_some _ _).symm.trans H; with_reducible exact H2_) | with_reducible exact H | (rw [hy143]; exact H) | exact H
   have Ny143 := Aside0.mk hy143
   clear hy143
   have H' := Aside0.mk H
   clear H
   try go_wp2
   replace HO_3 := Aside0.mk (Kd.R_drew HO_3.out)
   replace HB := Aside0.mk (below_drew1 HB.out)
   have p7 : 0 ≤ (x11_1 : Int) := dA
   have q7 : x11_1 < (a0.size : Int) := dA
   have hx7 := bt_at a0 x11_1
   replace p7 := eq_true p7
   replace q7 := eq_true q7
   obtain ⟨Ao64, co64, eo64⟩ := Kd.R_slice HO_3.out
   (first | subst eo64 | (injection eo64 with f1_ f2_ f3_; have f4_ := f1_.symm; have f5_ := f3_.symm; clear f1_ f2_ f3_; subst f4_; subst f5_))
   have p11 : 0 ≤ ((ji8) : Int) := dA
   have q11 : ((ji8) : Int) < ((x3_1.length : Int) : Int) := dA
   obtain ⟨go11, co11, eo11, gb11, gl11, cl11, HG11⟩ := Kd.R_form HO_3.out (by omega)
   (first | cases eo11 | (injection eo11 with ea_ en_ ec_; (first | subst ea_ | (injection ea_ with ea_; subst ea_)); subst ec_; clear en_))
   have GB11 := Aside0.mk gb11
   have GG11 := Aside0.mk HG11
   clear gb11 gl11 HG11
   obtain ⟨ce11, hcl11, hM11, hcc11, hfr11⟩ := Kd.R_elem HO_3.out z93 ((ji8) : Int) p11 q11
   obtain rfl := k93_openM hM11
   have hx11_0 : World.cell? _ ⟨go11, ((ji8) : Int).toNat * 3, none⟩ = some (.string ((rd_T93 x3_1 (ji8)).f0)) := hcc11 0 _ rfl
   have hx11_1 : World.cell? _ ⟨go11, ((ji8) : Int).toNat * 3 + 1, none⟩ = some (.bool ((rd_T93 x3_1 (ji8)).f1)) := hcc11 1 _ rfl
   have hx11_2 : World.cell? _ ⟨go11, ((ji8) : Int).toNat * 3 + 2, none⟩ = some (.bool ((rd_T93 x3_1 (ji8)).f2)) := hcc11 2 _ rfl
   have hf11_0 : World.frozen? _ ⟨go11, ((ji8) : Int).toNat * 3, none⟩ = false := hfr11 0
   have hf11_1 : World.frozen? _ ⟨go11, ((ji8) : Int).toNat * 3 + 1, none⟩ = false := hfr11 1
   have hf11_2 : World.frozen? _ ⟨go11, ((ji8) : Int).toNat * 3 + 2, none⟩ = false := hfr11 2
   clear hcl11 hcc11 hfr11 hM11
   replace p11 := eq_true p11
   replace q11 := eq_true q11
   refine start_ (n := 10) (S := fun w' => True) (ds := []) #[false, false, false, false, false, false, false, false, false, false] (by kernel_rfl) rfl rfl trivial (fun hHeld => ?_); refine with_tabW words_parts.tab5 words_parts.bits5 (fun HT_ HW_ => ?_)
   generalize wr.drew = w63 at HO_3 HB GG11 hf11_0 hf11_1 hf11_2 hx11_0 hx11_1 hx11_2 hHeld ⊢
   refine pz 0 (some 14) HT_ ?_
   refine pz 1 (some 15) HT_ ?_
   refine pz 3 (some 17) HT_ ?_
   refine pz 4 (some 18) HT_ ?_
   refine pz 5 (some 19) HT_ ?_
   refine pz 6 (some 20) HT_ ?_
   refine pz 7 (some 21) HT_ ?_
   refine tk 2 (some 16) HT_ HW_ hHeld ?_
   refine pz 8 (some 5) HT_ ?_
   refine pz 9 (some 6) HT_ ?_
   refine done_ (done_of HT_.out (by kernel_rfl)) ?_
   try go_wp2
   replace HO_3 := Aside0.mk (Kd.R_drew HO_3.out)
   replace HB := Aside0.mk (below_drew1 HB.out)
   have p121 : 0 ≤ ((ji8) : Int) := dA
   have q121 : (ji8) < (x3_1.length : Int) := dA
   obtain ⟨ad121, e121, hx121_0, hx121_1, hx121_2⟩ := at_T93 (Kd.R_reads' HO_3.out).2.2 (ji8) p121 q121
   obtain rfl : (⟨go11, 0, none⟩ : Addr) = ad121 := (by injection e121)
   (first | simp only [add_plain] at hx121_0 | simp only [add_at] at hx121_0 | simp only [Addr.add, Nat.zero_add] at hx121_0 | skip)
   (first | simp only [add_plain] at hx121_1 | simp only [add_at] at hx121_1 | simp only [Addr.add, Nat.zero_add] at hx121_1 | skip)
   (first | simp only [add_plain] at hx121_2 | simp only [add_at] at hx121_2 | simp only [Addr.add, Nat.zero_add] at hx121_2 | skip)
   replace p121 := eq_true p121
   replace q121 := eq_true q121
   have p37 : 0 ≤ ((ji34) : Int) := dA
   have q37 : (ji34) < (a0.size : Int) := dA
   have hx37 := bt_at a0 (ji34)
   replace p37 := eq_true p37
   replace q37 := eq_true q37
   refine start_ (n := 16) (S := fun w' => w'.cell? ⟨go11, ((ji8)).toNat * 3, none⟩ = some (.string ((rd_T93 x3_1 (ji8)).f0)) ∧ w'.cell? ⟨go11, ((ji8)).toNat * 3 + 1, none⟩ = some (.bool ((rd_T93 x3_1 (ji8)).f1)) ∧ w'.cell? ⟨go11, ((ji8)).toNat * 3 + 2, none⟩ = some (.bool ((rd_T93 x3_1 (ji8)).f2))) (ds := []) #[false, false, false, false, false, false, false, false, false, false, false, false, false, false, false, false] (by kernel_rfl) rfl rfl ⟨hx121_0, hx121_1, hx121_2⟩ (fun hHeld => ?_); refine with_tabW words_parts.tab8 words_parts.bits8 (fun HT_ HW_ => ?_)
   generalize w63.drew = w65 at HO_3 HB hx121_0 hx121_1 hx121_2 hHeld ⊢
   refine pz 0 (some 36) HT_ ?_
   refine pz 1 (some 37) HT_ ?_
   refine pz 2 (some 38) HT_ ?_
   refine tm 3 (some 39) HT_ HW_ hHeld ?_
   refine pz 4 (some 40) HT_ ?_
   refine pz 5 (some 41) HT_ ?_
   refine pz 6 (some 42) HT_ ?_
   refine pz 8 (some 44) HT_ ?_
   refine pz 9 (some 45) HT_ ?_
   refine pz 10 (some 46) HT_ ?_
   refine tm 11 (some 47) HT_ HW_ hHeld ?_
   refine on 7 (some 43) HT_ (fun K hK => ?_)
   refine goes_ Tryd.func106 (by kernel_rfl) rfl #[.int .u8 (bt a0 x11_1)] (by rfl) rfl rfl mA ?_
   with_reducible refine (chars_Digit.calls (bt a0 x11_1) t127 _ (gS HG) A33.out).mono ?_
   rintro e w' ⟨rfl, ⟨nd, rfl⟩⟩
   refine ⟨_, rfl, ?_⟩
   refine hK.out _ _ ⟨hHeld.1, hHeld.2.1, hHeld.2.2⟩ (fun hHeld => ?_)
   clear hK K
   refine nz (some 43) ?_
   refine on 12 (some 48) HT_ (fun K hK => ?_)
   refine goes_ Tryd.func106 (by kernel_rfl) rfl #[.int .u8 (bt a0 (ji34))] (by rfl) rfl rfl (by (try simp only [List.map_toArray, List.map_cons, List.map_nil]); first | done | (simp only [hji34]; rfl) | rfl | (simp only [List.length_drop, List.length_take]; rfl)) ?_
   with_reducible refine (chars_Digit.calls (bt a0 (ji34)) t128 _ (gS HG) A38.out).mono ?_
   rintro e w' ⟨rfl, ⟨nd, rfl⟩⟩
   refine ⟨_, rfl, ?_⟩
   refine hK.out _ _ ⟨hHeld.1, hHeld.2.1, hHeld.2.2⟩ (fun hHeld => ?_)
   clear hK K
   refine nz (some 48) ?_
   refine pz 13 (some 49) HT_ ?_
   refine pz 14 (some 50) HT_ ?_
   refine pz 15 (some 35) HT_ ?_
   refine done_ (done_of HT_.out (by kernel_rfl)) ?_
   try go_wp2
   (try ((try simp only [World.drewN_drewN]); (first | generalize hq_ : World.drewN w65 _ = w65 | (rw [drewN_self w65]; generalize hq_ : World.drewN w65 _ = w65)); have n0_ : Aside0 (Kd.R k93 93 w65 w.heap.size (fun _ => True) (.slice (some ⟨go11, 0, none⟩) x3_1.length co64) x3_1) := ⟨by rw [← hq_]; exact (kR HO_3)⟩; have n1_ : Aside0 (Below w.heap.size w w65) := ⟨by rw [← hq_]; exact bE⟩; clear HO_3 HB hq_; have HO_3 := n0_; have HB := n1_; clear n0_ n1_))
   replace HO_3 := Aside0.mk (Kd.R_drew HO_3.out)
   replace HB := Aside0.mk (below_drew1 HB.out)
   have p139 : 0 ≤ ((ji8) : Int) := dA
   have q139 : (ji8) < (x3_1.length : Int) := dA
   obtain ⟨ad139, e139, hx139_0, hx139_1, hx139_2⟩ := at_T93 (Kd.R_reads' HO_3.out).2.2 (ji8) p139 q139
   obtain rfl : (⟨go11, 0, none⟩ : Addr) = ad139 := (by injection e139)
   (first | simp only [add_plain] at hx139_0 | simp only [add_at] at hx139_0 | simp only [Addr.add, Nat.zero_add] at hx139_0 | skip)
   (first | simp only [add_plain] at hx139_1 | simp only [add_at] at hx139_1 | simp only [Addr.add, Nat.zero_add] at hx139_1 | skip)
   (first | simp only [add_plain] at hx139_2 | simp only [add_at] at hx139_2 | simp only [Addr.add, Nat.zero_add] at hx139_2 | skip)
   replace p139 := eq_true p139
   replace q139 := eq_true q139
   refine start_ (n := 11) (S := fun w' => w'.cell? ⟨go11, ((ji8)).toNat * 3, none⟩ = some (.string ((rd_T93 x3_1 (ji8)).f0)) ∧ w'.cell? ⟨go11, ((ji8)).toNat * 3 + 1, none⟩ = some (.bool ((rd_T93 x3_1 (ji8)).f1)) ∧ w'.cell? ⟨go11, ((ji8)).toNat * 3 + 2, none⟩ = some (.bool ((rd_T93 x3_1 (ji8)).f2))) (ds := [10]) #[false, false, false, false, false, false, false, false, false, false, false] (by kernel_rfl) rfl rfl ⟨hx139_0, hx139_1, hx139_2⟩ (fun hHeld => ?_); refine with_tabW words_parts.tab12 words_parts.bits12 (fun HT_ HW_ => ?_)
   generalize w65.drew = w66 at HO_3 HB hx139_0 hx139_1 hx139_2 hHeld ⊢
   refine pz 0 (some 65) HT_ ?_
   refine pz 1 (some 66) HT_ ?_
   refine pz 2 (some 67) HT_ ?_
   refine pz 4 (some 69) HT_ ?_
   refine tm 3 (some 68) HT_ HW_ hHeld ?_
   refine on 5 (some 70) HT_ (fun K hK => ?_)
   refine Kd.R_lit_step (Kd.int .u8) _ 5 ?hg (N := 70) ?hd (xs := ([bt a0 x11_1] : List Int)) (inner := [.int .u8 (bt a0 x11_1)]) (ok := fun _ => True) (okp := fun _ => True) ?hr ?hp (fun _ hk => hk) trivial (Below.refl _ _) (Nat.le_refl _) (by simp) ?_; (case hd => rfl); (case hg => rfl); (case hr => first | (go_simp; done) | (go_simp; rfl)); (case hp => exact (Reps.one (show Kd.M (Kd.int .u8) _ _ _ (bt a0 x11_1) [.int .u8 (bt a0 x11_1)] from rfl) (Reps.none _ _)))
   intro v141 w67 ho68 hb hg_ hnew_
   have HS0_ := (hb.cell (World.block_lt_of_cell? _ _ (hHeld.1))).trans (hHeld.1)
   have HS1_ := (hb.cell (World.block_lt_of_cell? _ _ (hHeld.2.1))).trans (hHeld.2.1)
   have HS2_ := (hb.cell (World.block_lt_of_cell? _ _ (hHeld.2.2))).trans (hHeld.2.2)
   clear hg_ hnew_
   (first | rw [← Ny140.out] at ho68 | (simp only [Int.reduceToNat] at ho68; rw [← Ny140.out] at ho68))
   replace HO_3 := rB HO_3 hb
   have HO142 := Aside0.mk (Kd.R_lower ho68 (below_size bE))
   replace HB := sB hb
   clear hb ho68
   have p62 : 0 ≤ ((ji8) : Int) := dA
   have q62 : ((ji8) : Int) < ((x3_1.length : Int) : Int) := dA
   obtain ⟨ce62, hcl62, hM62, hcc62, hfr62⟩ := Kd.R_elem HO_3.out z93 ((ji8) : Int) p62 q62
   obtain rfl := k93_openM hM62
   have hx62_0 : World.cell? _ ⟨go11, ((ji8) : Int).toNat * 3, none⟩ = some (.string ((rd_T93 x3_1 (ji8)).f0)) := hcc62 0 _ rfl
   have hx62_1 : World.cell? _ ⟨go11, ((ji8) : Int).toNat * 3 + 1, none⟩ = some (.bool ((rd_T93 x3_1 (ji8)).f1)) := hcc62 1 _ rfl
   have hx62_2 : World.cell? _ ⟨go11, ((ji8) : Int).toNat * 3 + 2, none⟩ = some (.bool ((rd_T93 x3_1 (ji8)).f2)) := hcc62 2 _ rfl
   have hf62_0 : World.frozen? _ ⟨go11, ((ji8) : Int).toNat * 3, none⟩ = false := hfr62 0
   have hf62_1 : World.frozen? _ ⟨go11, ((ji8) : Int).toNat * 3 + 1, none⟩ = false := hfr62 1
   have hf62_2 : World.frozen? _ ⟨go11, ((ji8) : Int).toNat * 3 + 2, none⟩ = false := hfr62 2
   clear hcl62 hcc62 hfr62 hM62
   replace p62 := eq_true p62
   replace q62 := eq_true q62
   obtain ⟨ce70, hcl70, hM70, hcc70, hfr70⟩ := Kd.R_elem HO_3.out z93 ((ji8) : Int) (dA) (by have h_ : ((ji8) : Int) < ((x3_1.length : Int) : Int) := dA; first | exact h_ | (have e_ := (Kd.R_reads' HO_3.out).1; omega) | simpa using h_)
   obtain rfl := k93_openM hM70
   have HP70 := (Kd.R_seg HO_3.out ((ji8) : Int) (dA) (by have h_ : ((ji8) : Int) < ((x3_1.length : Int) : Int) := dA; first | exact h_ | (have e_ := (Kd.R_reads' HO_3.out).1; omega) | simpa using h_) (seg := [.string (((rd_T93 x3_1 (ji8)).f0) ++ (strOfNums y140))]) (j := 0) hcl70 hcc70 (show 1 ≤ 3 from by decide) (x' := (⟨((rd_T93 x3_1 (ji8)).f0) ++ (strOfNums y140), (rd_T93 x3_1 (ji8)).f1, (rd_T93 x3_1 (ji8)).f2⟩ : S93)) (k93_mkM _ _ _ (⟨((rd_T93 x3_1 (ji8)).f0) ++ (strOfNums y140), (rd_T93 x3_1 (ji8)).f1, (rd_T93 x3_1 (ji8)).f2⟩ : S93) ) (fun _ hk => hk)).1
   rw [← Ny143.out] at HP70
   have HQ70 := Aside0.mk HP70
   clear hcl70 hcc70 hfr70 hM70 HP70
   refine hK.out _ _ ⟨HS0_, HS1_, HS2_⟩ (fun hHeld => ?_)
   clear hK K
   refine nz (some 70) ?_
   refine on 6 (some 71) HT_ (fun K hK => ?_)
   have hcv69 := own_string (P := Tryd.prog) Tryd.underlying30 Tryd.underlying5 Tryd.underlying9 (Kd.own_of_R HO142.out)
   refine value_ (w1 := ?_) (v := ?_) (by rfl) rfl ?_ ?_
   rotate_left 2
   ·go_simp
    constructor
    ·rfl
    ·rfl
   clear hcv69
   refine hK.out _ _ ⟨hHeld.1, hHeld.2.1, hHeld.2.2⟩ (fun hHeld => ?_)
   clear hK K
   refine nz (some 71) ?_
   refine pz 7 (some 72) HT_ ?_
   refine pz 8 (some 73) HT_ ?_
   refine pz 9 (some 74) HT_ ?_
   refine last_ (i := 10) (N := none) #[true, true, true, true, true, true, true, true, true, true, true] rfl rfl (one_of HT_.out (by kernel_rfl)) (by decide) (fun K hK => ?_)
   refine skip_ (w1 := ?_) (by rfl) rfl ?_ ?_
   rotate_left
   ·go_simp
    rfl
   refine hK.out _ _ ?_
   clear hK K
   refine done_ (done_of HT_.out (by kernel_rfl)) ?_
   try go_wp2
   go_roundg k1
   case measure => have := HK1.out; omega
   case rel => exact ⟨(y143), (wrap64 (x11_1 + 1)), cA, H', ⟨by have := HK1.out; omega⟩, ⟨by (with_reducible repeat (first | apply Kd.R_alloc | apply Kd.R_drewN | apply Kd.R_drew)); exact HQ70.out⟩, ⟨by repeat (first | (with_reducible first | exact HB.out | apply below_alloc | apply pw_below_drewN | apply below_drew1 | refine below_set ?_ GB11.out) | exact HB.out)⟩⟩
  rw [if_pos c39] at H
  have c39b0 : (t127 != t128) = true := c39
  (try (have c39b1 : decide (t127 = t128) = false := by simpa using c39))
  (try (have c39b2 : (t127 == t128) = false := by simpa using c39))
  (try (have c39b3 : ¬ (t127 = t128) := by simpa using c39))
  clear c39
  replace H := bi H
  obtain ⟨t129, A400, H⟩ := H
  try dsimp only at H
  have A40 := Aside0.mk A400
  clear A400
  obtain ⟨y130, hy130⟩ : ∃ y_ : List (S93), y_ = (x3_1.set ((ji8) : Int).toNat (⟨(rd_T93 x3_1 (ji8)).f0, (rd_T93 x3_1 (ji8)).f1, t129⟩ : S93)) := ⟨_, rfl⟩
  replace H : (if y130.length < 5864062014805 then ((some (y130 ++ [(⟨(⟨#[]⟩ : ByteArray), true, false⟩ : S93)] : List (S93))).bind fun y131 => (if 0 ≤ (wrap64 ((y131.length : Int) - 1)) then (if (wrap64 ((y131.length : Int) - 1)) < (y131.length : Int) then ((some (([bt a0 x11_1] : List Int) : List Int)).bind fun y135 => (if ((rd_T93 y131 (wrap64 ((y131.length : Int) - 1))).f0).size + (strOfNums y135).size ≤ 9223372036854775807 then (words_parts.l0 k1 a0 (y131.set ((wrap64 ((y131.length : Int) - 1)) : Int).toNat (⟨((rd_T93 y131 (wrap64 ((y131.length : Int) - 1))).f0) ++ (strOfNums y135), (rd_T93 y131 (wrap64 ((y131.length : Int) - 1))).f1, (rd_T93 y131 (wrap64 ((y131.length : Int) - 1))).f2⟩ : S93)) (a0.size : Int) (wrap64 (x11_1 + 1))) else (none))) else (none)) else (none))) else (none)) = some r := by first | (rw [hy130]; with_reducible exact H) | (have H2_ := (Option.bind_some _ _).symm.trans H; rw [hy130]; with_reducible exact H2_) | (have H2_ := (Option.bind_some _ _).symm.trans H; with_reducible exact H2_) | with_reducible exact H | (rw [hy130]; exact H) | exact H
  have Ny130 := Aside0.mk hy130
  clear hy130
  by_cases c42 : y130.length < 5864062014805
  rotate_left
  ·rw [if_neg c42] at H
   exact absurd H (by simp)
  rw [if_pos c42] at H
  have LMc42 := Aside0.mk c42
  clear c42
  obtain ⟨y131, hy131⟩ : ∃ y_ : List (S93), y_ = (y130 ++ [(⟨(⟨#[]⟩ : ByteArray), true, false⟩ : S93)]) := ⟨_, rfl⟩
  replace H : (if 0 ≤ (wrap64 ((y131.length : Int) - 1)) then (if (wrap64 ((y131.length : Int) - 1)) < (y131.length : Int) then ((some (([bt a0 x11_1] : List Int) : List Int)).bind fun y135 => (if ((rd_T93 y131 (wrap64 ((y131.length : Int) - 1))).f0).size + (strOfNums y135).size ≤ 9223372036854775807 then (words_parts.l0 k1 a0 (y131.set ((wrap64 ((y131.length : Int) - 1)) : Int).toNat (⟨((rd_T93 y131 (wrap64 ((y131.length : Int) - 1))).f0) ++ (strOfNums y135), (rd_T93 y131 (wrap64 ((y131.length : Int) - 1))).f1, (rd_T93 y131 (wrap64 ((y131.length : Int) - 1))).f2⟩ : S93)) (a0.size : Int) (wrap64 (x11_1 + 1))) else (none))) else (none)) else (none)) = some r := by first | (rw [hy131]; with_reducible exact H) | (have H2_ := (Option.bind_some _ _).symm.trans H; rw [hy131]; with_reducible exact H2_) | (have H2_ := (Option.bind_some _ _).symm.trans H; with_reducible exact H2_) | with_reducible exact H | (rw [hy131]; exact H) | exact H
  have Ny131 := Aside0.mk hy131
  clear hy131
  obtain ⟨ji43, hji43⟩ : ∃ j_ : Int, (wrap64 ((y131.length : Int) - 1)) = j_ := ⟨_, rfl⟩
  rw [hji43] at H
  (try rw [hji43] at A33)
  (try rw [hji43] at A38)
  (try rw [hji43] at A40)
  have hji43w : (IntKind.i64.wrap ((y131.length : Int) - 1)) = ji43 := (i64_w _).trans hji43
  by_cases c44 : 0 ≤ (ji43)
  rotate_left
  ·rw [if_neg c44] at H
   exact absurd H (by simp)
  rw [if_pos c44] at H
  have c44b0 := dT c44
  clear c44
  by_cases c45 : (ji43) < (y131.length : Int)
  rotate_left
  ·rw [if_neg c45] at H
   exact absurd H (by simp)
  rw [if_pos c45] at H
  have c45b0 := dT c45
  clear c45
  obtain ⟨y135, hy135⟩ : ∃ y_ : List Int, y_ = (([bt a0 x11_1] : List Int)) := ⟨_, rfl⟩
  replace H : (if ((rd_T93 y131 (ji43)).f0).size + (strOfNums y135).size ≤ 9223372036854775807 then (words_parts.l0 k1 a0 (y131.set ((ji43) : Int).toNat (⟨((rd_T93 y131 (ji43)).f0) ++ (strOfNums y135), (rd_T93 y131 (ji43)).f1, (rd_T93 y131 (ji43)).f2⟩ : S93)) (a0.size : Int) (wrap64 (x11_1 + 1))) else (none)) = some r := by first | (rw [hy135]; with_reducible exact H) | (have H2_ := (Option.bind_some _ _).symm.trans H; rw [hy135]; with_reducible exact H2_) | (have H2_ := (Option.bind_some _ _).symm.trans H; with_reducible exact H2_) | with_reducible exact H | (rw [hy135]; exact H) | exact H
  have Ny135 := Aside0.mk hy135
  clear hy135
  by_cases c47 : ((rd_T93 y131 (ji43)).f0).size + (strOfNums y135).size ≤ 9223372036854775807
  rotate_left
  ·rw [if_neg c47] at H
   exact absurd H (by simp)
  rw [if_pos c47] at H
  have c47b0 := eq_true c47
  have c47b1 := dT c47
  try have c47b2 : (9223372036854775807 < ((rd_T93 y131 (ji43)).f0).size + (strOfNums y135).size) = False := eq_false (Nat.not_lt.2 c47)
  obtain ⟨y138, hy138⟩ : ∃ y_ : List (S93), y_ = (y131.set ((ji43) : Int).toNat (⟨((rd_T93 y131 (ji43)).f0) ++ (strOfNums y135), (rd_T93 y131 (ji43)).f1, (rd_T93 y131 (ji43)).f2⟩ : S93)) := ⟨_, rfl⟩
  replace H : (words_parts.l0 k1 a0 y138 (a0.size : Int) (wrap64 (x11_1 + 1))) = some r := by first | (rw [hy138]; with_reducible exact H) | (have H2_ := (Option.bind_some _ _).symm.trans H; rw [hy138]; with_reducible exact H2_) | (have H2_ := (Option.bind_some _ _).symm.trans H; with_reducible exact H2_) | with_reducible exact H | (rw [hy138]; exact H) | exact H
  have Ny138 := Aside0.mk hy138
  clear hy138
  have H' := Aside0.mk H
  clear H
  try go_wp2
  replace HO_3 := Aside0.mk (Kd.R_drew HO_3.out)
  replace HB := Aside0.mk (below_drew1 HB.out)
  have p7 : 0 ≤ (x11_1 : Int) := dA
  have q7 : x11_1 < (a0.size : Int) := dA
  have hx7 := bt_at a0 x11_1
  replace p7 := eq_true p7
  replace q7 := eq_true q7
  obtain ⟨Ao50, co50, eo50⟩ := Kd.R_slice HO_3.out
  (first | subst eo50 | (injection eo50 with f1_ f2_ f3_; have f4_ := f1_.symm; have f5_ := f3_.symm; clear f1_ f2_ f3_; subst f4_; subst f5_))
  have p11 : 0 ≤ ((ji8) : Int) := dA
  have q11 : ((ji8) : Int) < ((x3_1.length : Int) : Int) := dA
  obtain ⟨go11, co11, eo11, gb11, gl11, cl11, HG11⟩ := Kd.R_form HO_3.out (by omega)
  (first | cases eo11 | (injection eo11 with ea_ en_ ec_; (first | subst ea_ | (injection ea_ with ea_; subst ea_)); subst ec_; clear en_))
  have GB11 := Aside0.mk gb11
  have GG11 := Aside0.mk HG11
  clear gb11 gl11 HG11
  obtain ⟨ce11, hcl11, hM11, hcc11, hfr11⟩ := Kd.R_elem HO_3.out z93 ((ji8) : Int) p11 q11
  obtain rfl := k93_openM hM11
  have hx11_0 : World.cell? _ ⟨go11, ((ji8) : Int).toNat * 3, none⟩ = some (.string ((rd_T93 x3_1 (ji8)).f0)) := hcc11 0 _ rfl
  have hx11_1 : World.cell? _ ⟨go11, ((ji8) : Int).toNat * 3 + 1, none⟩ = some (.bool ((rd_T93 x3_1 (ji8)).f1)) := hcc11 1 _ rfl
  have hx11_2 : World.cell? _ ⟨go11, ((ji8) : Int).toNat * 3 + 2, none⟩ = some (.bool ((rd_T93 x3_1 (ji8)).f2)) := hcc11 2 _ rfl
  have hf11_0 : World.frozen? _ ⟨go11, ((ji8) : Int).toNat * 3, none⟩ = false := hfr11 0
  have hf11_1 : World.frozen? _ ⟨go11, ((ji8) : Int).toNat * 3 + 1, none⟩ = false := hfr11 1
  have hf11_2 : World.frozen? _ ⟨go11, ((ji8) : Int).toNat * 3 + 2, none⟩ = false := hfr11 2
  clear hcl11 hcc11 hfr11 hM11
  replace p11 := eq_true p11
  replace q11 := eq_true q11
  refine start_ (n := 10) (S := fun w' => True) (ds := []) #[false, false, false, false, false, false, false, false, false, false] (by kernel_rfl) rfl rfl trivial (fun hHeld => ?_); refine with_tabW words_parts.tab5 words_parts.bits5 (fun HT_ HW_ => ?_)
  generalize wr.drew = w49 at HO_3 HB GG11 hf11_0 hf11_1 hf11_2 hx11_0 hx11_1 hx11_2 hHeld ⊢
  refine pz 0 (some 14) HT_ ?_
  refine pz 1 (some 15) HT_ ?_
  refine pz 3 (some 17) HT_ ?_
  refine pz 4 (some 18) HT_ ?_
  refine pz 5 (some 19) HT_ ?_
  refine pz 6 (some 20) HT_ ?_
  refine pz 7 (some 21) HT_ ?_
  refine tk 2 (some 16) HT_ HW_ hHeld ?_
  refine pz 8 (some 5) HT_ ?_
  refine pz 9 (some 6) HT_ ?_
  refine done_ (done_of HT_.out (by kernel_rfl)) ?_
  try go_wp2
  replace HO_3 := Aside0.mk (Kd.R_drew HO_3.out)
  replace HB := Aside0.mk (below_drew1 HB.out)
  have p121 : 0 ≤ ((ji8) : Int) := dA
  have q121 : (ji8) < (x3_1.length : Int) := dA
  obtain ⟨ad121, e121, hx121_0, hx121_1, hx121_2⟩ := at_T93 (Kd.R_reads' HO_3.out).2.2 (ji8) p121 q121
  obtain rfl : (⟨go11, 0, none⟩ : Addr) = ad121 := (by injection e121)
  (first | simp only [add_plain] at hx121_0 | simp only [add_at] at hx121_0 | simp only [Addr.add, Nat.zero_add] at hx121_0 | skip)
  (first | simp only [add_plain] at hx121_1 | simp only [add_at] at hx121_1 | simp only [Addr.add, Nat.zero_add] at hx121_1 | skip)
  (first | simp only [add_plain] at hx121_2 | simp only [add_at] at hx121_2 | simp only [Addr.add, Nat.zero_add] at hx121_2 | skip)
  replace p121 := eq_true p121
  replace q121 := eq_true q121
  have p37 : 0 ≤ ((ji34) : Int) := dA
  have q37 : (ji34) < (a0.size : Int) := dA
  have hx37 := bt_at a0 (ji34)
  replace p37 := eq_true p37
  replace q37 := eq_true q37
  refine start_ (n := 16) (S := fun w' => w'.cell? ⟨go11, ((ji8)).toNat * 3, none⟩ = some (.string ((rd_T93 x3_1 (ji8)).f0)) ∧ w'.cell? ⟨go11, ((ji8)).toNat * 3 + 1, none⟩ = some (.bool ((rd_T93 x3_1 (ji8)).f1)) ∧ w'.cell? ⟨go11, ((ji8)).toNat * 3 + 2, none⟩ = some (.bool ((rd_T93 x3_1 (ji8)).f2))) (ds := []) #[false, false, false, false, false, false, false, false, false, false, false, false, false, false, false, false] (by kernel_rfl) rfl rfl ⟨hx121_0, hx121_1, hx121_2⟩ (fun hHeld => ?_); refine with_tabW words_parts.tab8 words_parts.bits8 (fun HT_ HW_ => ?_)
  generalize w49.drew = w51 at HO_3 HB hx121_0 hx121_1 hx121_2 hHeld ⊢
  refine pz 0 (some 36) HT_ ?_
  refine pz 1 (some 37) HT_ ?_
  refine pz 2 (some 38) HT_ ?_
  refine tm 3 (some 39) HT_ HW_ hHeld ?_
  refine pz 4 (some 40) HT_ ?_
  refine pz 5 (some 41) HT_ ?_
  refine pz 6 (some 42) HT_ ?_
  refine pz 8 (some 44) HT_ ?_
  refine pz 9 (some 45) HT_ ?_
  refine pz 10 (some 46) HT_ ?_
  refine tm 11 (some 47) HT_ HW_ hHeld ?_
  refine on 7 (some 43) HT_ (fun K hK => ?_)
  refine goes_ Tryd.func106 (by kernel_rfl) rfl #[.int .u8 (bt a0 x11_1)] (by rfl) rfl rfl mA ?_
  with_reducible refine (chars_Digit.calls (bt a0 x11_1) t127 _ (gS HG) A33.out).mono ?_
  rintro e w' ⟨rfl, ⟨nd, rfl⟩⟩
  refine ⟨_, rfl, ?_⟩
  refine hK.out _ _ ⟨hHeld.1, hHeld.2.1, hHeld.2.2⟩ (fun hHeld => ?_)
  clear hK K
  refine nz (some 43) ?_
  refine on 12 (some 48) HT_ (fun K hK => ?_)
  refine goes_ Tryd.func106 (by kernel_rfl) rfl #[.int .u8 (bt a0 (ji34))] (by rfl) rfl rfl (by (try simp only [List.map_toArray, List.map_cons, List.map_nil]); first | done | (simp only [hji34]; rfl) | rfl | (simp only [List.length_drop, List.length_take]; rfl)) ?_
  with_reducible refine (chars_Digit.calls (bt a0 (ji34)) t128 _ (gS HG) A38.out).mono ?_
  rintro e w' ⟨rfl, ⟨nd, rfl⟩⟩
  refine ⟨_, rfl, ?_⟩
  refine hK.out _ _ ⟨hHeld.1, hHeld.2.1, hHeld.2.2⟩ (fun hHeld => ?_)
  clear hK K
  refine nz (some 48) ?_
  refine pz 13 (some 49) HT_ ?_
  refine pz 14 (some 50) HT_ ?_
  refine pz 15 (some 35) HT_ ?_
  refine done_ (done_of HT_.out (by kernel_rfl)) ?_
  try go_wp2_with (first | (refine gl (some 53) Tryd.func106 #[.int .u8 (bt a0 x11_1)] ?_; (with_reducible refine (chars_Digit.calls (bt a0 x11_1) t129 _ (gS HG) A40.out).mono ?_); rintro e w' ⟨rfl, ⟨nd, rfl⟩⟩; refine ⟨_, rfl, ?_⟩; (try ((try simp only [World.drewN_drewN]); (first | generalize hq_ : World.drewN w51 _ = w51 | (rw [drewN_self w51]; generalize hq_ : World.drewN w51 _ = w51)); have n0_ : Aside0 (Kd.R k93 93 w51 w.heap.size (fun _ => True) (.slice (some ⟨go11, 0, none⟩) x3_1.length co50) x3_1) := ⟨by rw [← hq_]; exact (kR HO_3)⟩; have n1_ : Aside0 (Below w.heap.size w w51) := ⟨by rw [← hq_]; exact bE⟩; clear HO_3 HB hq_; have HO_3 := n0_; have HB := n1_; clear n0_ n1_)); have p41 : 0 ≤ ((ji8) : Int) := dA; have q41 : ((ji8) : Int) < ((x3_1.length : Int) : Int) := dA; obtain ⟨ce41, hcl41, hM41, hcc41, hfr41⟩ := Kd.R_elem HO_3.out z93 ((ji8) : Int) p41 q41; obtain rfl := k93_openM hM41; have hx41_0 : w51.cell? ⟨go11, ((ji8) : Int).toNat * 3, none⟩ = some (.string ((rd_T93 x3_1 (ji8)).f0)) := hcc41 0 _ rfl; have hx41_1 : w51.cell? ⟨go11, ((ji8) : Int).toNat * 3 + 1, none⟩ = some (.bool ((rd_T93 x3_1 (ji8)).f1)) := hcc41 1 _ rfl; have hx41_2 : w51.cell? ⟨go11, ((ji8) : Int).toNat * 3 + 2, none⟩ = some (.bool ((rd_T93 x3_1 (ji8)).f2)) := hcc41 2 _ rfl; have hf41_0 : w51.frozen? ⟨go11, ((ji8) : Int).toNat * 3, none⟩ = false := hfr41 0; have hf41_1 : w51.frozen? ⟨go11, ((ji8) : Int).toNat * 3 + 1, none⟩ = false := hfr41 1; have hf41_2 : w51.frozen? ⟨go11, ((ji8) : Int).toNat * 3 + 2, none⟩ = false := hfr41 2; clear hcl41 hcc41 hfr41 hM41; replace p41 := eq_true p41; replace q41 := eq_true q41; have HX52 := Aside0.mk (show Kd.R k93 93 w51 w.heap.size (fun _ => True) (.slice (some ⟨go11, 0, none⟩) x3_1.length co50) x3_1 from (kR HO_3)); obtain ⟨ce52, hcl52, hM52, hcc52, hfr52⟩ := Kd.R_elem HX52.out z93 ((ji8) : Int) (dA) (by have h_ : ((ji8) : Int) < ((x3_1.length : Int) : Int) := dA; first | exact h_ | (have e_ := (Kd.R_reads' HO_3.out).1; omega) | simpa using h_); obtain rfl := k93_openM hM52; have HP52 := Kd.R_seg HX52.out ((ji8) : Int) (dA) (by have h_ : ((ji8) : Int) < ((x3_1.length : Int) : Int) := dA; first | exact h_ | (have e_ := (Kd.R_reads' HO_3.out).1; omega) | simpa using h_) (seg := [.bool t129]) (j := 2) hcl52 hcc52 (show 3 ≤ 3 from by decide) (x' := (⟨(rd_T93 x3_1 (ji8)).f0, (rd_T93 x3_1 (ji8)).f1, t129⟩ : S93)) (k93_mkM _ _ _ (⟨(rd_T93 x3_1 (ji8)).f0, (rd_T93 x3_1 (ji8)).f1, t129⟩ : S93) ) (fun _ hk => hk); have hx52_2 := hcc52 2 _ rfl; (try simp only [show (k93).sz = 3 from rfl, Nat.mul_one, Nat.add_zero] at hx52_2); have hf52_2 := hfr52 2; (try simp only [show (k93).sz = 3 from rfl, Nat.mul_one, Nat.add_zero] at hf52_2); clear hcl52 hcc52 hfr52 hM52) | ((with_reducible refine gate_store (t := 4) (p := 55) rfl ?_); refine store_event (t := 4) (p := 55) (v := ?vo_w53) (w1 := (w51.setCell ⟨go11, ((ji8) : Int).toNat * 3 + 2, none⟩ (.bool t129))) ?hg ?ho ?hn ?hr ?_; (case ho => rfl); (case hg => rfl); (case hn => rfl); (case hr => first | (go_simp; done) | (go_simp; rfl)); intro w53 hw; have hg : w51.grownBy w53 (some go11) := (by rw [hw]; exact HP52.2); have hp_ : Kd.R k93 93 w53 w.heap.size (fun _ => True) (.slice (some ⟨go11, 0, none⟩) x3_1.length co50) y130 := (by rw [hw, Ny130.out]; exact HP52.1); clear HP52; replace HO_3 := Aside0.mk (hp_); replace HB := Aside0.mk ((by rw [hw]; exact below_set (HB.out) GB11.out : Below w.heap.size w w53)); clear hg hw hp_) | ((with_reducible refine gate_builtin (b := .append) (xs := #[.tmp 56, .tmp 58]) rfl ?_); at_builtin; refine Kd.R_append k93 (w0 := w) w.heap.size rfl (.tmp 56) (.tmp 58) 87 93 (.agg #[(.string ⟨#[]⟩), (.bool false), (.bool false)]) 24 rfl Tryd.underlying87 info93 rfl (by decide) (by omega) (.slice (some ⟨go11, 0, none⟩) x3_1.length co50) y130 (⟨(⟨#[]⟩ : ByteArray), true, false⟩ : S93) [.string (⟨#[]⟩ : ByteArray), .bool true, .bool false] (fun _ => True) (fun _ => False) rfl rfl ?aP (fun _ hk => hk.elim) ?aF ?aO ?aB ?aS ?aL ?_; (case aP => exact k93_mkM _ _ _ (⟨(⟨#[]⟩ : ByteArray), true, false⟩ : S93)); (case aB => exact bE); (case aF => exact (fun _ _ => trivial)); (case aO => exact (kR HO_3)); (case aS => exact (below_size bE)); (case aL => have := LMc42.out; omega); intro v132 w54 ho hb hg hat; rw [← Ny131.out] at ho; replace HB := Aside0.mk (hb); have HO133 := Aside0.mk (ho); clear HO_3; clear ho hb hg hat; obtain ⟨Ao55, co55, eo55⟩ := Kd.R_slice HO133.out; subst eo55; have p46 : 0 ≤ ((ji43) : Int) := dA; have q46 : ((ji43) : Int) < ((y131.length : Int) : Int) := dA; obtain ⟨go46, co46, eo46, gb46, gl46, cl46, HG46⟩ := Kd.R_form HO133.out (by omega); (first | cases eo46 | (injection eo46 with ea_ en_ ec_; (first | subst ea_ | (injection ea_ with ea_; subst ea_)); subst ec_; clear en_)); have GB46 := Aside0.mk gb46; have GG46 := Aside0.mk HG46; clear gb46 gl46 HG46; obtain ⟨ce46, hcl46, hM46, hcc46, hfr46⟩ := Kd.R_elem HO133.out z93 ((ji43) : Int) p46 q46; obtain rfl := k93_openM hM46; have hx46_0 : w54.cell? ⟨go46, ((ji43) : Int).toNat * 3, none⟩ = some (.string ((rd_T93 y131 (ji43)).f0)) := hcc46 0 _ rfl; have hx46_1 : w54.cell? ⟨go46, ((ji43) : Int).toNat * 3 + 1, none⟩ = some (.bool ((rd_T93 y131 (ji43)).f1)) := hcc46 1 _ rfl; have hx46_2 : w54.cell? ⟨go46, ((ji43) : Int).toNat * 3 + 2, none⟩ = some (.bool ((rd_T93 y131 (ji43)).f2)) := hcc46 2 _ rfl; have hf46_0 : w54.frozen? ⟨go46, ((ji43) : Int).toNat * 3, none⟩ = false := hfr46 0; have hf46_1 : w54.frozen? ⟨go46, ((ji43) : Int).toNat * 3 + 1, none⟩ = false := hfr46 1; have hf46_2 : w54.frozen? ⟨go46, ((ji43) : Int).toNat * 3 + 2, none⟩ = false := hfr46 2; clear hcl46 hcc46 hfr46 hM46; replace p46 := eq_true p46; replace q46 := eq_true q46))
  replace HO133 := Aside0.mk (Kd.R_drew HO133.out)
  replace HB := Aside0.mk (below_drew1 HB.out)
  have p134 : 0 ≤ ((ji43) : Int) := dA
  have q134 : (ji43) < (y131.length : Int) := dA
  obtain ⟨ad134, e134, hx134_0, hx134_1, hx134_2⟩ := at_T93 (Kd.R_reads' HO133.out).2.2 (ji43) p134 q134
  obtain rfl : (⟨go46, 0, none⟩ : Addr) = ad134 := (by injection e134)
  (first | simp only [add_plain] at hx134_0 | simp only [add_at] at hx134_0 | simp only [Addr.add, Nat.zero_add] at hx134_0 | skip)
  (first | simp only [add_plain] at hx134_1 | simp only [add_at] at hx134_1 | simp only [Addr.add, Nat.zero_add] at hx134_1 | skip)
  (first | simp only [add_plain] at hx134_2 | simp only [add_at] at hx134_2 | simp only [Addr.add, Nat.zero_add] at hx134_2 | skip)
  replace p134 := eq_true p134
  replace q134 := eq_true q134
  refine start_ (n := 11) (S := fun w' => w'.cell? ⟨go46, ((ji43)).toNat * 3, none⟩ = some (.string ((rd_T93 y131 (ji43)).f0)) ∧ w'.cell? ⟨go46, ((ji43)).toNat * 3 + 1, none⟩ = some (.bool ((rd_T93 y131 (ji43)).f1)) ∧ w'.cell? ⟨go46, ((ji43)).toNat * 3 + 2, none⟩ = some (.bool ((rd_T93 y131 (ji43)).f2))) (ds := [10]) #[false, false, false, false, false, false, false, false, false, false, false] (by kernel_rfl) rfl rfl ⟨hx134_0, hx134_1, hx134_2⟩ (fun hHeld => ?_); refine with_tabW words_parts.tab12 words_parts.bits12 (fun HT_ HW_ => ?_)
  generalize w54.drew = w56 at HO133 HB hx134_0 hx134_1 hx134_2 hHeld ⊢
  refine pz 0 (some 65) HT_ ?_
  refine pz 1 (some 66) HT_ ?_
  refine pz 2 (some 67) HT_ ?_
  refine pz 4 (some 69) HT_ ?_
  refine tm 3 (some 68) HT_ HW_ hHeld ?_
  refine on 5 (some 70) HT_ (fun K hK => ?_)
  refine Kd.R_lit_step (Kd.int .u8) _ 5 ?hg (N := 70) ?hd (xs := ([bt a0 x11_1] : List Int)) (inner := [.int .u8 (bt a0 x11_1)]) (ok := fun _ => True) (okp := fun _ => True) ?hr ?hp (fun _ hk => hk) trivial (Below.refl _ _) (Nat.le_refl _) (by simp) ?_; (case hd => rfl); (case hg => rfl); (case hr => first | (go_simp; done) | (go_simp; rfl)); (case hp => exact (Reps.one (show Kd.M (Kd.int .u8) _ _ _ (bt a0 x11_1) [.int .u8 (bt a0 x11_1)] from rfl) (Reps.none _ _)))
  intro v136 w57 ho58 hb hg_ hnew_
  have HS0_ := (hb.cell (World.block_lt_of_cell? _ _ (hHeld.1))).trans (hHeld.1)
  have HS1_ := (hb.cell (World.block_lt_of_cell? _ _ (hHeld.2.1))).trans (hHeld.2.1)
  have HS2_ := (hb.cell (World.block_lt_of_cell? _ _ (hHeld.2.2))).trans (hHeld.2.2)
  clear hg_ hnew_
  (first | rw [← Ny135.out] at ho58 | (simp only [Int.reduceToNat] at ho58; rw [← Ny135.out] at ho58))
  replace HO133 := rB HO133 hb
  have HO137 := Aside0.mk (Kd.R_lower ho58 (below_size bE))
  replace HB := sB hb
  clear hb ho58
  have p48 : 0 ≤ ((ji43) : Int) := dA
  have q48 : ((ji43) : Int) < ((y131.length : Int) : Int) := dA
  obtain ⟨ce48, hcl48, hM48, hcc48, hfr48⟩ := Kd.R_elem HO133.out z93 ((ji43) : Int) p48 q48
  obtain rfl := k93_openM hM48
  have hx48_0 : World.cell? _ ⟨go46, ((ji43) : Int).toNat * 3, none⟩ = some (.string ((rd_T93 y131 (ji43)).f0)) := hcc48 0 _ rfl
  have hx48_1 : World.cell? _ ⟨go46, ((ji43) : Int).toNat * 3 + 1, none⟩ = some (.bool ((rd_T93 y131 (ji43)).f1)) := hcc48 1 _ rfl
  have hx48_2 : World.cell? _ ⟨go46, ((ji43) : Int).toNat * 3 + 2, none⟩ = some (.bool ((rd_T93 y131 (ji43)).f2)) := hcc48 2 _ rfl
  have hf48_0 : World.frozen? _ ⟨go46, ((ji43) : Int).toNat * 3, none⟩ = false := hfr48 0
  have hf48_1 : World.frozen? _ ⟨go46, ((ji43) : Int).toNat * 3 + 1, none⟩ = false := hfr48 1
  have hf48_2 : World.frozen? _ ⟨go46, ((ji43) : Int).toNat * 3 + 2, none⟩ = false := hfr48 2
  clear hcl48 hcc48 hfr48 hM48
  replace p48 := eq_true p48
  replace q48 := eq_true q48
  obtain ⟨ce60, hcl60, hM60, hcc60, hfr60⟩ := Kd.R_elem HO133.out z93 ((ji43) : Int) (dA) (by have h_ : ((ji43) : Int) < ((y131.length : Int) : Int) := dA; first | exact h_ | (have e_ := (Kd.R_reads' HO133.out).1; omega) | simpa using h_)
  obtain rfl := k93_openM hM60
  have HP60 := (Kd.R_seg HO133.out ((ji43) : Int) (dA) (by have h_ : ((ji43) : Int) < ((y131.length : Int) : Int) := dA; first | exact h_ | (have e_ := (Kd.R_reads' HO133.out).1; omega) | simpa using h_) (seg := [.string (((rd_T93 y131 (ji43)).f0) ++ (strOfNums y135))]) (j := 0) hcl60 hcc60 (show 1 ≤ 3 from by decide) (x' := (⟨((rd_T93 y131 (ji43)).f0) ++ (strOfNums y135), (rd_T93 y131 (ji43)).f1, (rd_T93 y131 (ji43)).f2⟩ : S93)) (k93_mkM _ _ _ (⟨((rd_T93 y131 (ji43)).f0) ++ (strOfNums y135), (rd_T93 y131 (ji43)).f1, (rd_T93 y131 (ji43)).f2⟩ : S93) ) (fun _ hk => hk)).1
  rw [← Ny138.out] at HP60
  have HQ60 := Aside0.mk HP60
  clear hcl60 hcc60 hfr60 hM60 HP60
  refine hK.out _ _ ⟨HS0_, HS1_, HS2_⟩ (fun hHeld => ?_)
  clear hK K
  refine nz (some 70) ?_
  refine on 6 (some 71) HT_ (fun K hK => ?_)
  have hcv59 := own_string (P := Tryd.prog) Tryd.underlying30 Tryd.underlying5 Tryd.underlying9 (Kd.own_of_R HO137.out)
  refine value_ (w1 := ?_) (v := ?_) (by rfl) rfl ?_ ?_
  rotate_left 2
  ·go_simp
   constructor
   ·rfl
   ·rfl
  clear hcv59
  refine hK.out _ _ ⟨hHeld.1, hHeld.2.1, hHeld.2.2⟩ (fun hHeld => ?_)
  clear hK K
  refine nz (some 71) ?_
  refine pz 7 (some 72) HT_ ?_
  refine pz 8 (some 73) HT_ ?_
  refine pz 9 (some 74) HT_ ?_
  refine last_ (i := 10) (N := none) #[true, true, true, true, true, true, true, true, true, true, true] rfl rfl (one_of HT_.out (by kernel_rfl)) (by decide) (fun K hK => ?_)
  refine skip_ (w1 := ?_) (by rfl) rfl ?_ ?_
  rotate_left
  ·go_simp
   rfl
  refine hK.out _ _ ?_
  clear hK K
  refine done_ (done_of HT_.out (by kernel_rfl)) ?_
  try go_wp2
  go_roundg k1
  case measure => have := HK1.out; omega
  case rel => exact ⟨(y138), (wrap64 (x11_1 + 1)), cA, H', ⟨by have := HK1.out; omega⟩, ⟨by (with_reducible repeat (first | apply Kd.R_alloc | apply Kd.R_drewN | apply Kd.R_drew)); exact HQ60.out⟩, ⟨by repeat (first | (with_reducible first | exact HB.out | apply below_alloc | apply pw_below_drewN | apply below_drew1 | refine below_set ?_ GB46.out) | exact HB.out)⟩⟩
end Go.Proofs.YtgdjfcmmpjcaaaaDoor.Q
namespace Go.Proofs.YtgdjfcmmpjcaaaaDoor.Q
open Go.RowKit Go.Proofs.YtgdjfcmmpjcaaaaDoorW.PrintWords Go.Proofs.YtgdjfcmmpjcaaaaDoorW.PrintLast Go.Proofs.YtgdjfcmmpjcaaaaDoorW.Own Go.Proofs.YtgdjfcmmpjcaaaaDoorW.PrintMore
attribute [local go_sem] max2_int min2_int max_two min_two max_three min_three max_four min_four   -- for this text's walks alone
set_option linter.unusedVariables false
set_option linter.unusedSimpArgs false
def chars_Lower.low (n : Int) : Int := if 65 ≤ n ∧ n ≤ 90 then n + 32 else n
def chars_Lower.f (a0 : ByteArray) : Option ByteArray := if a0.size ≤ 281474976710656 then some (strOfNums ((bytesOf a0).map chars_Lower.low)) else none
def chars_Lower.val (a0 : ByteArray) (i j : Nat) : Int := if j < i then chars_Lower.low (bt a0 (j : Int)) else bt a0 (j : Int)
structure chars_Lower.Row (w : World) (a0 : ByteArray) (i : Nat) (w' : World) : Prop where
  below : Below w.heap.size w w'
  cell : ∀ j, j < a0.size → w'.cell? ⟨w.heap.size, j, none⟩ = some (.int .u8 (chars_Lower.val a0 i j))
  soft : ∀ j, j < a0.size → w'.frozen? ⟨w.heap.size, j, none⟩ = false
set_option maxHeartbeats 4000000 in
set_option maxRecDepth 100000 in
theorem chars_Lower.calls (a0 : ByteArray) (r : ByteArray) (w : World) (hG : Glob w) (h : chars_Lower.f a0 = some r) :
    Calls Tryd.prog 72 #[.string a0] w fun e w' => e = .returned (.string r) ∧ Below w.heap.size w w' := by
  unfold chars_Lower.f at h
  split at h
  · rename_i hs
    obtain rfl := Option.some.inj h
    clear h
    have kb := fun W => print_bytes (P := Tryd.prog) 9 30 5 Tryd.underlying9 Tryd.underlying30 Tryd.underlying5 a0 W
    go_enter Tryd.func72, Tryd.ntmps72
    go_wp2
    have hR : chars_Lower.Row w a0 0 (Lib.bytesWorld w 5 a0) := by
      refine ⟨bytes_below (Below.refl _ _) (Nat.le_refl _) _ _, ?_, ?_⟩
      · intro j hj
        rw [Lib.bytesWorld_cell w 5 a0 j hj]
        unfold chars_Lower.val bt
        rw [if_neg (Nat.not_lt_zero _)]
        have h' : j < a0.data.toList.length := by rw [data_length]; exact hj
        simp [List.getD_eq_getElem?_getD, hj]
        rfl
      · intro j hj
        have hz : a0.size ≤ (Lib.bytesCells w 5 a0).size := by simp [Lib.bytesCells]
        simp [World.frozen?, Lib.bytesWorld_at_new]
        omega
    generalize hWx : Lib.bytesWorld w 5 a0 = W2 at hR ⊢
    go_loopg [10] a0.size (fun g v10 w' => ∃ i : Nat, i ≤ a0.size ∧ v10 = .int .i64 (i : Int) ∧ g + i = a0.size ∧ chars_Lower.Row w a0 i w')
    case atStart => exact ⟨0, Nat.zero_le _, rfl, rfl, hR⟩
    case round =>
      obtain ⟨i, hi, rfl, hgi, hr⟩ := hrel
      by_cases c : i < a0.size
      · have d : decide ((i : Int) < (a0.size : Int)) = true := decide_eq_true (by omega)
        have hx := hr.cell i c
        have hf := hr.soft i c
        have hv : chars_Lower.val a0 i i = bt a0 (i : Int) := by unfold chars_Lower.val; rw [if_neg (Nat.lt_irrefl _)]
        rw [hv] at hx
        have hb := bt_range a0 (i : Int)
        have hw1 : wrap64 ((i : Int) + 1) = ((i + 1 : Nat) : Int) := by unfold wrap64; omega
        by_cases c1 : 65 ≤ bt a0 (i : Int) ∧ bt a0 (i : Int) ≤ 90
        · have d1 : decide (65 ≤ bt a0 (i : Int)) = true := decide_eq_true c1.1
          have d2 : decide (bt a0 (i : Int) ≤ 90) = true := decide_eq_true c1.2
          go_wp2
          go_roundg (a0.size - (i + 1))
          case measure => omega
          case rel =>
            refine ⟨i + 1, by omega, by simp, by omega, ⟨hr.below.setCell (Nat.le_refl _) _, fun j hj => ?_, fun j hj => (World.frozen?_setCell _ _ _ _).trans (hr.soft j hj)⟩⟩
            by_cases e : j = i
            · subst e
              rw [World.cell?_setCell_same _ _ _ (hr.cell j hj)]
              unfold chars_Lower.val chars_Lower.low
              rw [if_pos (Nat.lt_succ_self _), if_pos c1]
              have : bt a0 (j : Int) - 65 + 97 = bt a0 (j : Int) + 32 := by omega
              rw [this]
            · rw [World.cell?_setCell_other _ _ _ _ (show (⟨w.heap.size, i, none⟩ : Addr) ≠ ⟨w.heap.size, j, none⟩ from by intro h; injection h with _ h2 _; exact e h2.symm), hr.cell j hj]
              unfold chars_Lower.val
              by_cases l : j < i
              · rw [if_pos l, if_pos (by omega)]
              · rw [if_neg l, if_neg (by omega)]
        · have d12 : decide (65 ≤ bt a0 (i : Int)) = true → decide (bt a0 (i : Int) ≤ 90) = false := fun h => decide_eq_false (fun h2 => c1 ⟨of_decide_eq_true h, h2⟩)
          have same : ∀ W, chars_Lower.Row w a0 i W → chars_Lower.Row w a0 (i + 1) W := fun W hr => by
            refine ⟨hr.below, fun j hj => ?_, hr.soft⟩
            rw [hr.cell j hj]
            by_cases e : j = i
            · subst e
              rw [hv]
              unfold chars_Lower.val chars_Lower.low
              rw [if_pos (Nat.lt_succ_self _), if_neg c1]
            · unfold chars_Lower.val
              by_cases l : j < i
              · rw [if_pos l, if_pos (by omega)]
              · rw [if_neg l, if_neg (by omega)]
          by_cases c2 : 65 ≤ bt a0 (i : Int)
          · have d1 : decide (65 ≤ bt a0 (i : Int)) = true := decide_eq_true c2
            have d2 := d12 d1
            go_wp2
            go_roundg (a0.size - (i + 1))
            case measure => omega
            case rel => exact ⟨i + 1, by omega, by simp, by omega, same _ hr⟩
          · have d1 : decide (65 ≤ bt a0 (i : Int)) = false := decide_eq_false c2
            go_wp2
            go_roundg (a0.size - (i + 1))
            case measure => omega
            case rel => exact ⟨i + 1, by omega, by simp, by omega, same _ hr⟩
      · have d : decide ((i : Int) < (a0.size : Int)) = false := decide_eq_false (by omega)
        have hi' : i = a0.size := by omega
        have hc : ∀ W, chars_Lower.Row w a0 i W → Kd.C (Kd.int .u8) W (some ⟨w.heap.size, 0, none⟩) a0.size ((bytesOf a0).map chars_Lower.low) := fun W hr => by
          refine Kd.C_of_reads (enc := Value.int .u8) (d := (0 : Int)) (h1 := fun _ => rfl) ⟨by rw [List.length_map, bytesOf_length], by omega, fun _ => ⟨_, rfl, fun j hj => ?_⟩⟩
          rw [add_plain, hr.cell j hj]
          unfold chars_Lower.val
          rw [if_pos (by omega)]
          have h' : j < (bytesOf a0).length := by rw [bytesOf_length]; exact hj
          have e : (bytesOf a0)[j]'h' = bt a0 (j : Int) := by
            rw [← rd_bytesOf]
            unfold rd
            simp [List.getD_eq_getElem?_getD, List.getElem?_eq_getElem h']
          simp [List.getD_eq_getElem?_getD, List.getElem?_eq_getElem h', e]
        have hcv := Kd.C_string (P := Tryd.prog) (A := some ⟨w.heap.size, 0, none⟩) (c := grownCap w a0.size 0 5) Tryd.underlying30 Tryd.underlying5 Tryd.underlying9 (hc _ hr)
        go_wp2
        go_ret
        exact ⟨rfl, hr.below⟩
  · exact absurd h (by simp)
end Go.Proofs.YtgdjfcmmpjcaaaaDoor.Q
namespace Go.Proofs.YtgdjfcmmpjcaaaaDoor.Q
open Go.RowKit Go.Proofs.YtgdjfcmmpjcaaaaDoorW.PrintWords Go.Proofs.YtgdjfcmmpjcaaaaDoorW.PrintLast Go.Proofs.YtgdjfcmmpjcaaaaDoorW.Own Go.Proofs.YtgdjfcmmpjcaaaaDoorW.PrintMore
attribute [local go_sem] max2_int min2_int max_two min_two max_three min_three max_four min_four   -- for this text's walks alone
set_option linter.unusedVariables false
set_option linter.unusedSimpArgs false
set_option maxHeartbeats 8000000
set_option maxRecDepth 100000
def api_Word_73.l0 : Nat → List (S38) → Int → Int → Option ((List (S38)))
 | 0, _, _, _ => none
 | k + 1, x0, x2, x3 => if x2 < x3 then (if 0 ≤ x3 then (if x3 < (x0.length : Int) then (if 0 ≤ x2 then (if x2 < (x0.length : Int) then (api_Word_73.l0 k ((x0.set (x2 : Int).toNat (⟨(rd_T38 x0 x3).f0, (rd_T38 x0 x3).f1⟩ : S38)).set (x3 : Int).toNat (⟨(rd_T38 x0 x2).f0, (rd_T38 x0 x2).f1⟩ : S38)) (wrap64 (x2 + 1)) (wrap64 (x3 - 1))) else (none)) else (none)) else (none)) else (none)) else (some x0)
def api_Word_73.f (k : Nat) (l0 : List (S38)) : Option ((List (S38))) := api_Word_73.l0 k l0 0 (wrap64 ((l0.length : Int) - 1))
theorem api_Word_73.mono_l : ∀ k, (∀ y0 y1 y2, LeO (api_Word_73.l0 k y0 y1 y2) (api_Word_73.l0 (k + 1) y0 y1 y2))
 | 0 => fun _ _ _ r h => by simp [api_Word_73.l0] at h
 | k + 1 => by
  have ih0 := api_Word_73.mono_l k
  ·intro y0 y1 y2
   unfold api_Word_73.l0
   exact mo
theorem api_Word_73.mono : ∀ a0 k, LeO (api_Word_73.f k a0) (api_Word_73.f (k + 1) a0) := by
 intro a0 k
 have ih0 := api_Word_73.mono_l k
 unfold api_Word_73.f
 exact mo
def api_Word_73.T3 : Bool × List (List Nat × List Nat) := (true, [([], []), ([], []), ([], []), ([], []), ([], []), ([], []), ([4, 5], [4, 5]), ([6], [6]), ([], []), ([], []), ([8, 9], [8, 9]), ([10], [10]), ([0, 1, 0, 1, 4, 5, 6, 7, 11], [0, 1]), ([12, 7, 0, 1, 4, 5, 6, 7, 11], [7, 12]), ([2, 3, 0, 1, 2, 3, 4, 5, 6, 7, 8, 9, 10, 11, 12, 13], [2, 3]), ([14, 11, 13, 0, 1, 2, 3, 4, 5, 6, 7, 8, 9, 10, 11, 12, 13], [11, 14])])
def api_Word_73.B3 : List Nat := [0, 0, 0, 0, 0, 0, 48, 112, 0, 0, 768, 1792, 4083, 8179, 16383, 32767]
theorem api_Word_73.tab3 : rtab .any (opsOf Tryd.f73 3) = api_Word_73.T3 := by kernel_rfl
theorem api_Word_73.bits3 : waitsOk api_Word_73.T3.2 api_Word_73.B3 = true := by kernel_rfl
theorem api_Word_73.calls (k : Nat) (P0_ : Nat → Prop) (u9000_ : Value) (l0 : List (S38)) (r : List (S38)) (w0 w : World) (hB : Below w0.heap.size w0 w) (ho0 : Kd.R k38 38 w w0.heap.size P0_ u9000_ l0) (hG : Glob w0) (h : api_Word_73.f k l0 = some r) :
 Calls Tryd.prog 73 #[u9000_] w fun e w' => e = .returned (.tuple #[]) ∧ Kd.R k38 38 w' w0.heap.size (fun k_ => (P0_ k_ ∨ w.heap.size ≤ k_)) u9000_ r ∧ Below w0.heap.size w0 w' ∧ Kept w w' (fun k_ => P0_ k_) := by
 have hu38 := Tryd.underlying38
 have HG := Aside0.mk hG
 clear hG
 have HO0 := Aside0.mk (show Kd.R k38 38 w w0.heap.size (fun k_ => (P0_ k_ ∨ w.heap.size ≤ k_)) u9000_ l0 from Kd.R_mono ho0 (fun k_ hk => (.inl hk)))
 have HK := Aside0.mk (Kept.refl w (fun k_ => P0_ k_))
 have HW0 := Aside0.mk hB.size
 have HB := Aside0.mk hB
 clear hB
 have H : (api_Word_73.l0 k l0 0 (wrap64 ((l0.length : Int) - 1))) = some r := h
 clear h
 have H' := Aside0.mk H
 clear H
 obtain ⟨Ao2, co2, eo2⟩ := Kd.R_slice HO0.out
 subst eo2
 go_enter Tryd.func73, Tryd.ntmps73
 go_wp2
 go_loopg [2, 3] k (fun kq v2 v3 w' => ∃ (x0_1 : List (S38)) (x2_1 : Int) (x3_1 : Int), v2 = .int .i64 x2_1 ∧ v3 = .int .i64 x3_1 ∧ Aside0 (api_Word_73.l0 kq x0_1 x2_1 x3_1 = some r) ∧ Aside0 (kq ≤ k) ∧ Aside0 (Kd.R k38 38 w' w0.heap.size (fun k_ => (P0_ k_ ∨ w.heap.size ≤ k_)) (.slice Ao2 l0.length co2) x0_1) ∧ Aside0 (Kept w w' (fun k_ => P0_ k_)) ∧ Aside0 (Below w0.heap.size w0 w'))
 case atStart => exact ⟨(l0), (0), (wrap64 ((l0.length : Int) - 1)), cA, cA, H', ⟨Nat.le_refl _⟩, ⟨kR HO0⟩, ⟨by repeat (first | (with_reducible first | exact HK.out | apply Kept.alloc | apply Kept.drewN | apply Kept.drew) | exact HK.out)⟩, ⟨bE⟩⟩
 clear H'
 try clear p2
 obtain ⟨x0_1, x2_1, x3_1, rfl, rfl, HA, HK1, HO_0, HK, HB⟩ := hrel
 have hl0_1 := (Kd.R_reads' HO_0.out).1
 rw [hl0_1] at HO_0
 (try simp only [hl0_1])
 cases gk with
 | zero => exact absurd HA.out (by simp [api_Word_73.l0])
 | succ k1 =>
  have H := HA.out
  clear HA
  simp only [api_Word_73.l0] at H
  by_cases c3 : x2_1 < x3_1
  rotate_left
  ·rw [if_neg c3] at H
   have c3b0 := dF c3
   clear c3
   obtain rfl := Option.some.inj H
   go_wp2
   first | go_end0 | ((try simp only [Exit.inBlock, Exit.then]); refine bodyPost_ret (results_none rfl _ _ _) rfl ?_)
   exact ⟨eA, (by first | exact (kR HO_0) | (simp only [hl0_1]; exact (kR HO_0))), bE, by repeat (first | (with_reducible first | exact HK.out | apply Kept.alloc | apply Kept.drewN | apply Kept.drew) | exact HK.out)⟩
  rw [if_pos c3] at H
  have c3b0 := dT c3
  clear c3
  by_cases c4 : 0 ≤ x3_1
  rotate_left
  ·rw [if_neg c4] at H
   exact absurd H (by simp)
  rw [if_pos c4] at H
  have c4b0 := dT c4
  clear c4
  by_cases c5 : x3_1 < (x0_1.length : Int)
  rotate_left
  ·rw [if_neg c5] at H
   exact absurd H (by simp)
  rw [if_pos c5] at H
  have c5b0 := dT c5
  clear c5
  by_cases c6 : 0 ≤ x2_1
  rotate_left
  ·rw [if_neg c6] at H
   exact absurd H (by simp)
  rw [if_pos c6] at H
  have c6b0 := dT c6
  clear c6
  by_cases c7 : x2_1 < (x0_1.length : Int)
  rotate_left
  ·rw [if_neg c7] at H
   exact absurd H (by simp)
  rw [if_pos c7] at H
  have c7b0 := dT c7
  clear c7
  obtain ⟨y146, hy146⟩ : ∃ y_ : List (S38), y_ = (x0_1.set (x2_1 : Int).toNat (⟨(rd_T38 x0_1 x3_1).f0, (rd_T38 x0_1 x3_1).f1⟩ : S38)) := ⟨_, rfl⟩
  replace H : (api_Word_73.l0 k1 (y146.set (x3_1 : Int).toNat (⟨(rd_T38 x0_1 x2_1).f0, (rd_T38 x0_1 x2_1).f1⟩ : S38)) (wrap64 (x2_1 + 1)) (wrap64 (x3_1 - 1))) = some r := by first | (rw [hy146]; with_reducible exact H) | (have H2_ := (Option.bind_some _ _).symm.trans H; rw [hy146]; with_reducible exact H2_) | (have H2_ := (Option.bind_some _ _).symm.trans H; with_reducible exact H2_) | with_reducible exact H | (rw [hy146]; exact H) | exact H
  have Ny146 := Aside0.mk hy146
  clear hy146
  obtain ⟨y147, hy147⟩ : ∃ y_ : List (S38), y_ = (y146.set (x3_1 : Int).toNat (⟨(rd_T38 x0_1 x2_1).f0, (rd_T38 x0_1 x2_1).f1⟩ : S38)) := ⟨_, rfl⟩
  replace H : (api_Word_73.l0 k1 y147 (wrap64 (x2_1 + 1)) (wrap64 (x3_1 - 1))) = some r := by first | (rw [hy147]; with_reducible exact H) | (have H2_ := (Option.bind_some _ _).symm.trans H; rw [hy147]; with_reducible exact H2_) | (have H2_ := (Option.bind_some _ _).symm.trans H; with_reducible exact H2_) | with_reducible exact H | (rw [hy147]; exact H) | exact H
  have Ny147 := Aside0.mk hy147
  clear hy147
  have H' := Aside0.mk H
  clear H
  try go_wp2
  replace HO_0 := Aside0.mk (Kd.R_drew HO_0.out)
  replace HK := Aside0.mk (Kept.drew HK.out)
  replace HB := Aside0.mk (below_drew1 HB.out)
  have p144 : 0 ≤ (x3_1 : Int) := dA
  have q144 : x3_1 < (x0_1.length : Int) := dA
  obtain ⟨ad144, e144, hx144_0, hx144_1⟩ := at_T38 (Kd.R_reads' HO_0.out).2.2 x3_1 p144 q144
  cases e144
  replace p144 := eq_true p144
  replace q144 := eq_true q144
  have p145 : 0 ≤ (x2_1 : Int) := dA
  have q145 : x2_1 < (x0_1.length : Int) := dA
  obtain ⟨ad145, e145, hx145_0, hx145_1⟩ := at_T38 (Kd.R_reads' HO_0.out).2.2 x2_1 p145 q145
  obtain rfl : ad144 = ad145 := (by injection e145)
  replace p145 := eq_true p145
  replace q145 := eq_true q145
  have p8 : 0 ≤ (x2_1 : Int) := dA
  have q8 : (x2_1 : Int) < ((x0_1.length : Int) : Int) := dA
  obtain ⟨go8, co8, eo8, gb8, gl8, cl8, HG8⟩ := Kd.R_form HO_0.out (by omega)
  (first | cases eo8 | (injection eo8 with ea_ en_ ec_; (first | subst ea_ | (injection ea_ with ea_; subst ea_)); subst ec_; clear en_))
  have GB8 := Aside0.mk gb8
  have hlt_sw_ : x2_1 < x3_1 := of_decide_eq_true c3b0
  have h0_sw_ : 0 ≤ x2_1 := of_decide_eq_true c6b0
  have far_sw_0 : ∀ (W : World) (v : Value), (W.setCell ⟨go8, (x2_1 : Int).toNat * 2, none⟩ v).cell? ⟨go8, (x3_1 : Int).toNat * 2, none⟩ = W.cell? ⟨go8, (x3_1 : Int).toNat * 2, none⟩ := fun W v => World.cell?_setCell_other _ _ _ _ (show (⟨go8, (x2_1 : Int).toNat * 2, none⟩ : Addr) ≠ ⟨go8, (x3_1 : Int).toNat * 2, none⟩ from by intro h; injection h with _ h2 _; omega)
  have far_sw_1 : ∀ (W : World) (v : Value), (W.setCell ⟨go8, (x2_1 : Int).toNat * 2, none⟩ v).cell? ⟨go8, (x3_1 : Int).toNat * 2 + 1, none⟩ = W.cell? ⟨go8, (x3_1 : Int).toNat * 2 + 1, none⟩ := fun W v => World.cell?_setCell_other _ _ _ _ (show (⟨go8, (x2_1 : Int).toNat * 2, none⟩ : Addr) ≠ ⟨go8, (x3_1 : Int).toNat * 2 + 1, none⟩ from by intro h; injection h with _ h2 _; omega)
  have far_sw_2 : ∀ (W : World) (v : Value), (W.setCell ⟨go8, (x2_1 : Int).toNat * 2 + 1, none⟩ v).cell? ⟨go8, (x3_1 : Int).toNat * 2, none⟩ = W.cell? ⟨go8, (x3_1 : Int).toNat * 2, none⟩ := fun W v => World.cell?_setCell_other _ _ _ _ (show (⟨go8, (x2_1 : Int).toNat * 2 + 1, none⟩ : Addr) ≠ ⟨go8, (x3_1 : Int).toNat * 2, none⟩ from by intro h; injection h with _ h2 _; omega)
  have far_sw_3 : ∀ (W : World) (v : Value), (W.setCell ⟨go8, (x2_1 : Int).toNat * 2 + 1, none⟩ v).cell? ⟨go8, (x3_1 : Int).toNat * 2 + 1, none⟩ = W.cell? ⟨go8, (x3_1 : Int).toNat * 2 + 1, none⟩ := fun W v => World.cell?_setCell_other _ _ _ _ (show (⟨go8, (x2_1 : Int).toNat * 2 + 1, none⟩ : Addr) ≠ ⟨go8, (x3_1 : Int).toNat * 2 + 1, none⟩ from by intro h; injection h with _ h2 _; omega)
  have far_sw_4 : ∀ (W : World) (v : Value), (W.setCell ⟨go8, (x3_1 : Int).toNat * 2, none⟩ v).cell? ⟨go8, (x2_1 : Int).toNat * 2, none⟩ = W.cell? ⟨go8, (x2_1 : Int).toNat * 2, none⟩ := fun W v => World.cell?_setCell_other _ _ _ _ (show (⟨go8, (x3_1 : Int).toNat * 2, none⟩ : Addr) ≠ ⟨go8, (x2_1 : Int).toNat * 2, none⟩ from by intro h; injection h with _ h2 _; omega)
  have far_sw_5 : ∀ (W : World) (v : Value), (W.setCell ⟨go8, (x3_1 : Int).toNat * 2, none⟩ v).cell? ⟨go8, (x2_1 : Int).toNat * 2 + 1, none⟩ = W.cell? ⟨go8, (x2_1 : Int).toNat * 2 + 1, none⟩ := fun W v => World.cell?_setCell_other _ _ _ _ (show (⟨go8, (x3_1 : Int).toNat * 2, none⟩ : Addr) ≠ ⟨go8, (x2_1 : Int).toNat * 2 + 1, none⟩ from by intro h; injection h with _ h2 _; omega)
  have far_sw_6 : ∀ (W : World) (v : Value), (W.setCell ⟨go8, (x3_1 : Int).toNat * 2 + 1, none⟩ v).cell? ⟨go8, (x2_1 : Int).toNat * 2, none⟩ = W.cell? ⟨go8, (x2_1 : Int).toNat * 2, none⟩ := fun W v => World.cell?_setCell_other _ _ _ _ (show (⟨go8, (x3_1 : Int).toNat * 2 + 1, none⟩ : Addr) ≠ ⟨go8, (x2_1 : Int).toNat * 2, none⟩ from by intro h; injection h with _ h2 _; omega)
  have far_sw_7 : ∀ (W : World) (v : Value), (W.setCell ⟨go8, (x3_1 : Int).toNat * 2 + 1, none⟩ v).cell? ⟨go8, (x2_1 : Int).toNat * 2 + 1, none⟩ = W.cell? ⟨go8, (x2_1 : Int).toNat * 2 + 1, none⟩ := fun W v => World.cell?_setCell_other _ _ _ _ (show (⟨go8, (x3_1 : Int).toNat * 2 + 1, none⟩ : Addr) ≠ ⟨go8, (x2_1 : Int).toNat * 2 + 1, none⟩ from by intro h; injection h with _ h2 _; omega)
  have far_sw_8 : ∀ (W : World) (v : Value), (W.setCell ⟨go8, (x2_1 : Int).toNat * 2, none⟩ v).cell? ⟨go8, (x2_1 : Int).toNat * 2 + 1, none⟩ = W.cell? ⟨go8, (x2_1 : Int).toNat * 2 + 1, none⟩ := fun W v => World.cell?_setCell_other _ _ _ _ (show (⟨go8, (x2_1 : Int).toNat * 2, none⟩ : Addr) ≠ ⟨go8, (x2_1 : Int).toNat * 2 + 1, none⟩ from by intro h; injection h with _ h2 _; omega)
  have far_sw_9 : ∀ (W : World) (v : Value), (W.setCell ⟨go8, (x2_1 : Int).toNat * 2 + 1, none⟩ v).cell? ⟨go8, (x2_1 : Int).toNat * 2, none⟩ = W.cell? ⟨go8, (x2_1 : Int).toNat * 2, none⟩ := fun W v => World.cell?_setCell_other _ _ _ _ (show (⟨go8, (x2_1 : Int).toNat * 2 + 1, none⟩ : Addr) ≠ ⟨go8, (x2_1 : Int).toNat * 2, none⟩ from by intro h; injection h with _ h2 _; omega)
  have far_sw_10 : ∀ (W : World) (v : Value), (W.setCell ⟨go8, (x3_1 : Int).toNat * 2, none⟩ v).cell? ⟨go8, (x3_1 : Int).toNat * 2 + 1, none⟩ = W.cell? ⟨go8, (x3_1 : Int).toNat * 2 + 1, none⟩ := fun W v => World.cell?_setCell_other _ _ _ _ (show (⟨go8, (x3_1 : Int).toNat * 2, none⟩ : Addr) ≠ ⟨go8, (x3_1 : Int).toNat * 2 + 1, none⟩ from by intro h; injection h with _ h2 _; omega)
  have far_sw_11 : ∀ (W : World) (v : Value), (W.setCell ⟨go8, (x3_1 : Int).toNat * 2 + 1, none⟩ v).cell? ⟨go8, (x3_1 : Int).toNat * 2, none⟩ = W.cell? ⟨go8, (x3_1 : Int).toNat * 2, none⟩ := fun W v => World.cell?_setCell_other _ _ _ _ (show (⟨go8, (x3_1 : Int).toNat * 2 + 1, none⟩ : Addr) ≠ ⟨go8, (x3_1 : Int).toNat * 2, none⟩ from by intro h; injection h with _ h2 _; omega)
  have GG8 := Aside0.mk HG8
  clear gb8 gl8 HG8
  have HMgo8 := Aside0.mk (show (P0_ go8 ∨ w.heap.size ≤ go8) from (HO_0.out.1 _ rfl))
  (first | simp only [add_plain] at hx144_0 | skip)
  (first | simp only [add_plain] at hx144_1 | skip)
  (first | simp only [add_plain] at hx145_0 | skip)
  (first | simp only [add_plain] at hx145_1 | skip)
  obtain ⟨ce8, hcl8, hM8, hcc8, hfr8⟩ := Kd.R_elem HO_0.out z38 (x2_1 : Int) p8 q8
  obtain rfl := k38_openM hM8
  have hx8_0 : World.cell? _ ⟨go8, (x2_1 : Int).toNat * 2, none⟩ = some (.int .i64 ((rd_T38 x0_1 x2_1).f0)) := hcc8 0 _ rfl
  have hx8_1 : World.cell? _ ⟨go8, (x2_1 : Int).toNat * 2 + 1, none⟩ = some (.string ((rd_T38 x0_1 x2_1).f1)) := hcc8 1 _ rfl
  have hf8_0 : World.frozen? _ ⟨go8, (x2_1 : Int).toNat * 2, none⟩ = false := hfr8 0
  have hf8_1 : World.frozen? _ ⟨go8, (x2_1 : Int).toNat * 2 + 1, none⟩ = false := hfr8 1
  clear hcl8 hcc8 hfr8 hM8
  replace p8 := eq_true p8
  replace q8 := eq_true q8
  obtain ⟨ce11, hcl11, hM11, hcc11, hfr11⟩ := Kd.R_elem HO_0.out z38 (x2_1 : Int) (dA) (by have h_ : (x2_1 : Int) < ((x0_1.length : Int) : Int) := dA; first | exact h_ | (have e_ := (Kd.R_reads' HO_0.out).1; omega) | simpa using h_)
  obtain rfl := k38_openM hM11
  have HP11 := (Kd.R_seg HO_0.out (x2_1 : Int) (dA) (by have h_ : (x2_1 : Int) < ((x0_1.length : Int) : Int) := dA; first | exact h_ | (have e_ := (Kd.R_reads' HO_0.out).1; omega) | simpa using h_) (seg := [.int .i64 ((rd_T38 x0_1 x3_1).f0), .string ((rd_T38 x0_1 x3_1).f1)]) (j := 0) hcl11 hcc11 (show 2 ≤ 2 from by decide) (x' := (⟨(rd_T38 x0_1 x3_1).f0, (rd_T38 x0_1 x3_1).f1⟩ : S38)) (k38_mkM _ _ _ (⟨(rd_T38 x0_1 x3_1).f0, (rd_T38 x0_1 x3_1).f1⟩ : S38) ) (fun _ hk => hk)).1
  rw [← Ny146.out] at HP11
  have HQ11 := Aside0.mk HP11
  clear hcl11 hcc11 hfr11 hM11 HP11
  have p9 : 0 ≤ (x3_1 : Int) := dA
  have q9 : (x3_1 : Int) < ((x0_1.length : Int) : Int) := dA
  obtain ⟨ce9, hcl9, hM9, hcc9, hfr9⟩ := Kd.R_elem HQ11.out z38 (x3_1 : Int) p9 q9
  obtain rfl := k38_openM hM9
  have hx9_0 : World.cell? _ ⟨go8, (x3_1 : Int).toNat * 2, none⟩ = some (.int .i64 ((rd_T38 y146 x3_1).f0)) := hcc9 0 _ rfl
  have hx9_1 : World.cell? _ ⟨go8, (x3_1 : Int).toNat * 2 + 1, none⟩ = some (.string ((rd_T38 y146 x3_1).f1)) := hcc9 1 _ rfl
  have hf9_0 : World.frozen? _ ⟨go8, (x3_1 : Int).toNat * 2, none⟩ = false := hfr9 0
  have hf9_1 : World.frozen? _ ⟨go8, (x3_1 : Int).toNat * 2 + 1, none⟩ = false := hfr9 1
  (try simp only [World.frozen?_setCells] at hf9_0 hf9_1)
  clear hcl9 hcc9 hfr9 hM9
  replace p9 := eq_true p9
  replace q9 := eq_true q9
  obtain ⟨ce12, hcl12, hM12, hcc12, hfr12⟩ := Kd.R_elem HQ11.out z38 (x3_1 : Int) (dA) (by have h_ : (x3_1 : Int) < ((x0_1.length : Int) : Int) := dA; first | exact h_ | (have e_ := (Kd.R_reads' HO_0.out).1; omega) | simpa using h_)
  obtain rfl := k38_openM hM12
  have HP12 := (Kd.R_seg HQ11.out (x3_1 : Int) (dA) (by have h_ : (x3_1 : Int) < ((x0_1.length : Int) : Int) := dA; first | exact h_ | (have e_ := (Kd.R_reads' HO_0.out).1; omega) | simpa using h_) (seg := [.int .i64 ((rd_T38 x0_1 x2_1).f0), .string ((rd_T38 x0_1 x2_1).f1)]) (j := 0) hcl12 hcc12 (show 2 ≤ 2 from by decide) (x' := (⟨(rd_T38 x0_1 x2_1).f0, (rd_T38 x0_1 x2_1).f1⟩ : S38)) (k38_mkM _ _ _ (⟨(rd_T38 x0_1 x2_1).f0, (rd_T38 x0_1 x2_1).f1⟩ : S38) ) (fun _ hk => hk)).1
  rw [← Ny147.out] at HP12
  have HQ12 := Aside0.mk HP12
  clear hcl12 hcc12 hfr12 hM12 HP12
  refine start_ (n := 16) (S := fun w' => w'.cell? ⟨go8, ((x3_1).toNat * 2), none⟩ = some (.int .i64 ((rd_T38 x0_1 x3_1).f0)) ∧ w'.cell? ⟨go8, ((x3_1).toNat * 2) + 1, none⟩ = some (.string ((rd_T38 x0_1 x3_1).f1)) ∧ w'.cell? ⟨go8, ((x2_1).toNat * 2), none⟩ = some (.int .i64 ((rd_T38 x0_1 x2_1).f0)) ∧ w'.cell? ⟨go8, ((x2_1).toNat * 2) + 1, none⟩ = some (.string ((rd_T38 x0_1 x2_1).f1))) (ds := [13, 15]) #[false, false, false, false, false, false, false, false, false, false, false, false, false, false, false, false] (by kernel_rfl) rfl rfl ⟨hx144_0, hx144_1, hx145_0, hx145_1⟩ (fun hHeld => ?_); refine with_tabW api_Word_73.tab3 api_Word_73.bits3 (fun HT_ HW_ => ?_)
  generalize wr.drew = w10 at HO_0 HK HB GG8 HQ11 HQ12 hf8_0 hf8_1 hf9_0 hf9_1 hx144_0 hx144_1 hx145_0 hx145_1 hx8_0 hx8_1 hx9_0 hx9_1 hHeld ⊢
  refine pz 0 (some 14) HT_ ?_
  refine pz 1 (some 15) HT_ ?_
  refine pz 2 (some 16) HT_ ?_
  refine pz 3 (some 17) HT_ ?_
  refine pz 4 (some 18) HT_ ?_
  refine pz 5 (some 19) HT_ ?_
  refine pz 6 (some 20) HT_ ?_
  refine pz 8 (some 22) HT_ ?_
  refine pz 9 (some 23) HT_ ?_
  refine pz 10 (some 24) HT_ ?_
  refine tm 7 (some 21) HT_ HW_ hHeld ?_
  refine tm 11 (some 25) HT_ HW_ hHeld ?_
  refine pz 12 (some 26) HT_ ?_
  refine last_ (i := 13) (N := none) #[true, true, true, true, true, true, true, true, true, true, true, true, true, true, false, false] rfl rfl (one_of HT_.out (by kernel_rfl)) (by decide) (fun K hK => ?_)
  refine skip_ (w1 := ?_) (by rfl) rfl ?_ ?_
  rotate_left
  ·go_simp
   rfl
  refine hK.out _ _ ?_
  clear hK K
  refine pz 14 (some 27) HT_ ?_
  refine last_ (i := 15) (N := none) #[true, true, true, true, true, true, true, true, true, true, true, true, true, true, true, true] rfl rfl (one_of HT_.out (by kernel_rfl)) (by decide) (fun K hK => ?_)
  refine skip_ (w1 := ?_) (by rfl) rfl ?_ ?_
  rotate_left
  ·go_simp
   rfl
  refine hK.out _ _ ?_
  clear hK K
  refine done_ (done_of HT_.out (by kernel_rfl)) ?_
  try go_wp2
  (try simp only [← hl0_1])
  go_roundg k1
  case measure => have := HK1.out; omega
  case rel => exact ⟨(y147), (wrap64 (x2_1 + 1)), (wrap64 (x3_1 - 1)), cA, cA, H', ⟨by have := HK1.out; omega⟩, ⟨by (try simp only [hl0_1]); (with_reducible repeat (first | apply Kd.R_alloc | apply Kd.R_drewN | apply Kd.R_drew)); exact HQ12.out⟩, ⟨by repeat (first | (with_reducible first | exact HK.out | apply Kept.alloc | apply Kept.drewN | apply Kept.drew | refine Kept.setCell ?_ HMgo8.out _ | refine Kept.setCell ?_ HMgo8.out _ | refine Kept.setCell ?_ HMgo8.out _ | refine Kept.setCell ?_ HMgo8.out _) | exact HK.out)⟩, ⟨by repeat (first | (with_reducible first | exact HB.out | apply below_alloc | apply pw_below_drewN | apply below_drew1 | refine below_set ?_ GB8.out | refine below_set ?_ GB8.out | refine below_set ?_ GB8.out | refine below_set ?_ GB8.out) | exact HB.out)⟩⟩
mutual
def words_letters.j0 : Nat → ByteArray → ByteArray → Bool → Bool → Option (Int × ByteArray)
 | 0, _, _, _, _ => none
 | k + 1, x3, x149000, x149001, x149002 => if x3.toList = ([97, 108, 112, 104, 97] : List UInt8) then (some (1, (⟨#[]⟩ : ByteArray))) else (if x3.toList = ([98, 101, 116, 97] : List UInt8) then (some (2, (⟨#[]⟩ : ByteArray))) else (if x3.toList = ([109, 105, 108, 101, 115, 116, 111, 110, 101] : List UInt8) then (some (3, (⟨#[]⟩ : ByteArray))) else (if x3.toList = ([114, 99] : List UInt8) then (words_letters.j1 k x3 (x3.toList == ([114, 99] : List UInt8)) x149000 x149001 x149002) else (words_letters.j1 k x3 (x3.toList == ([99, 114] : List UInt8)) x149000 x149001 x149002))))
def words_letters.j1 : Nat → ByteArray → Bool → ByteArray → Bool → Bool → Option (Int × ByteArray)
 | 0, _, _, _, _, _ => none
 | k + 1, x16, x26, x149000, x149001, x149002 => if x26 = true then (some (4, (⟨#[]⟩ : ByteArray))) else (if x16.toList = ([115, 110, 97, 112, 115, 104, 111, 116] : List UInt8) then (some (5, (⟨#[]⟩ : ByteArray))) else (if x16.toList = ([103, 97] : List UInt8) then (words_letters.j2 k x16 (x16.toList == ([103, 97] : List UInt8)) x149000 x149001 x149002) else (if x16.toList = ([102, 105, 110, 97, 108] : List UInt8) then (words_letters.j2 k x16 (x16.toList == ([102, 105, 110, 97, 108] : List UInt8)) x149000 x149001 x149002) else (words_letters.j2 k x16 (x16.toList == ([114, 101, 108, 101, 97, 115, 101] : List UInt8)) x149000 x149001 x149002))))
def words_letters.j2 : Nat → ByteArray → Bool → ByteArray → Bool → Bool → Option (Int × ByteArray)
 | 0, _, _, _, _, _ => none
 | k + 1, x16, x31, x149000, x149001, x149002 => if x31 = true then (some (6, (⟨#[]⟩ : ByteArray))) else (if x16.toList = ([115, 112] : List UInt8) then (some (7, (⟨#[]⟩ : ByteArray))) else (some (8, x149000)))
end
def words_letters.f (k : Nat) (a0_0 : ByteArray) (a0_1 : Bool) (a0_2 : Bool) : Option (Int × ByteArray) := if a0_2 = true then (if a0_0.toList = ([97] : List UInt8) then (words_letters.j0 k (⟨#[97, 108, 112, 104, 97]⟩ : ByteArray) a0_0 a0_1 a0_2) else (if a0_0.toList = ([98] : List UInt8) then (words_letters.j0 k (⟨#[98, 101, 116, 97]⟩ : ByteArray) a0_0 a0_1 a0_2) else (if a0_0.toList = ([109] : List UInt8) then (words_letters.j0 k (⟨#[109, 105, 108, 101, 115, 116, 111, 110, 101]⟩ : ByteArray) a0_0 a0_1 a0_2) else (words_letters.j0 k a0_0 a0_0 a0_1 a0_2)))) else (words_letters.j0 k a0_0 a0_0 a0_1 a0_2)
theorem words_letters.mono_l : ∀ k, (∀ y0 y1 y2 y3, LeO (words_letters.j0 k y0 y1 y2 y3) (words_letters.j0 (k + 1) y0 y1 y2 y3)) ∧ (∀ y0 y1 y2 y3 y4, LeO (words_letters.j1 k y0 y1 y2 y3 y4) (words_letters.j1 (k + 1) y0 y1 y2 y3 y4)) ∧ (∀ y0 y1 y2 y3 y4, LeO (words_letters.j2 k y0 y1 y2 y3 y4) (words_letters.j2 (k + 1) y0 y1 y2 y3 y4))
 | 0 => ⟨fun _ _ _ _ r h => by simp [words_letters.j0] at h, fun _ _ _ _ _ r h => by simp [words_letters.j1] at h, fun _ _ _ _ _ r h => by simp [words_letters.j2] at h⟩
 | k + 1 => by
  obtain ⟨ih0, ih1, ih2⟩ := words_letters.mono_l k
  refine ⟨?_, ?_, ?_⟩
  ·intro y0 y1 y2 y3
   unfold words_letters.j0
   exact mo
  ·intro y0 y1 y2 y3 y4
   unfold words_letters.j1
   exact mo
  ·intro y0 y1 y2 y3 y4
   unfold words_letters.j2
   exact mo
theorem words_letters.mono : ∀ a0 a1 a2 k, LeO (words_letters.f k a0 a1 a2) (words_letters.f (k + 1) a0 a1 a2) := by
 intro a0 a1 a2 k
 obtain ⟨ih0, ih1, ih2⟩ := words_letters.mono_l k
 unfold words_letters.f
 exact mo
theorem words_letters.calls (k : Nat) (a0_0 : ByteArray) (a0_1 : Bool) (a0_2 : Bool) (r1 : Int) (r2 : ByteArray) (w : World) (hG : Glob w) (h : words_letters.f k a0_0 a0_1 a0_2 = some (r1, r2)) :
 Calls Tryd.prog 107 #[.agg #[.string a0_0, .bool a0_1, .bool a0_2]] w fun e w' => e = .returned (.agg #[.int .i64 r1, .string r2]) ∧ Below w.heap.size w w' := by
 have hu93 := Tryd.underlying93
 have hu38 := Tryd.underlying38
 have HG := Aside0.mk hG
 clear hG
 have HB := Aside0.mk (Below.refl w.heap.size w)
 have H : (if a0_2 = true then (if a0_0.toList = ([97] : List UInt8) then (words_letters.j0 k (⟨#[97, 108, 112, 104, 97]⟩ : ByteArray) a0_0 a0_1 a0_2) else (if a0_0.toList = ([98] : List UInt8) then (words_letters.j0 k (⟨#[98, 101, 116, 97]⟩ : ByteArray) a0_0 a0_1 a0_2) else (if a0_0.toList = ([109] : List UInt8) then (words_letters.j0 k (⟨#[109, 105, 108, 101, 115, 116, 111, 110, 101]⟩ : ByteArray) a0_0 a0_1 a0_2) else (words_letters.j0 k a0_0 a0_0 a0_1 a0_2)))) else (words_letters.j0 k a0_0 a0_0 a0_1 a0_2)) = some (r1, r2) := h
 clear h
 have HC2 := Aside0.mk H
 clear H
 go_enter Tryd.func107, Tryd.ntmps107
 go_upto_if 8 with (first | (refine be 1 #[.string a0_0, .bool a0_1, .bool a0_2] 93 ?_; intro gb148 hg w3 hbox hb; have BK148 := Aside0.mk (hbox); have GW148 := gW hg; have GE148 := gW hg; replace HB := sB hb; clear hb hbox hg) | (refine be 2 #[.int .i64 0, .string (⟨#[]⟩ : ByteArray)] 38 ?_; intro gb149 hg w4 hbox hb; have BK149 := Aside0.mk (hbox); have GW149 := gW hg; have GE149 := gW hg; replace HB := sB hb; have NB148_149 := nL BK148 hg; have NB149_148 := nG BK148 hg; replace BK148 := kB BK148 hb; clear hb hbox hg; have hnb5 := NB148_149.out; have hnc5 := NB149_148.out; have hcz6_0 : w4.cell? ⟨gb148, 0, none⟩ = some (.string a0_0) := (blk_cell BK148.out 0).trans rfl; have hcz6_1 : w4.cell? ⟨gb148, 1, none⟩ = some (.bool a0_1) := (blk_cell BK148.out 1).trans rfl; have hcz6_2 : w4.cell? ⟨gb148, 2, none⟩ = some (.bool a0_2) := (blk_cell BK148.out 2).trans rfl; have hfz6_0 := blk_frozen BK148.out 0; have hfz6_1 := blk_frozen BK148.out 1; have hfz6_2 := blk_frozen BK148.out 2))
 (try simp only [Act.put, List.setIfInBounds_toArray, List.set_cons_zero, List.set_cons_succ])
 go_cut [3] (fun v3 wc => ∃ (kq : Nat) (x3_1 : ByteArray), v3 = .string x3_1 ∧ Aside0 (words_letters.j0 kq x3_1 a0_0 a0_1 a0_2 = some (r1, r2)) ∧ Aside0 (kq ≤ k) ∧ Aside0 (wc.heap[gb148]? = some (.cells #[.string a0_0, .bool a0_1, .bool a0_2] 93 (0, 0))) ∧ Aside0 (wc.heap[gb149]? = some (.cells #[.int .i64 0, .string (⟨#[]⟩ : ByteArray)] 38 (0, 0))) ∧ Aside0 (Below w.heap.size w wc))
 case first =>
  have H := HC2.out
  clear HC2
  by_cases c7 : a0_2 = true
  rotate_left
  ·replace c7 := Bool.eq_false_iff.mpr c7
   subst c7
   have H1 : (words_letters.j0 k a0_0 a0_0 a0_1 false) = some (r1, r2) := by rw [if_neg (show ¬ (false = true) by decide)] at H; exact H
   clear H
   have H := H1
   clear H1
   have H' := Aside0.mk H
   clear H
   go_wp2
   go_meet
   case rel => exact ⟨_, (a0_0), cA, H', ⟨by first | omega | exact Nat.le_refl _⟩, ⟨bK BK148⟩, ⟨bK BK149⟩, ⟨bG⟩⟩
  subst c7
  have H1 : (if a0_0.toList = ([97] : List UInt8) then (words_letters.j0 k (⟨#[97, 108, 112, 104, 97]⟩ : ByteArray) a0_0 a0_1 true) else (if a0_0.toList = ([98] : List UInt8) then (words_letters.j0 k (⟨#[98, 101, 116, 97]⟩ : ByteArray) a0_0 a0_1 true) else (if a0_0.toList = ([109] : List UInt8) then (words_letters.j0 k (⟨#[109, 105, 108, 101, 115, 116, 111, 110, 101]⟩ : ByteArray) a0_0 a0_1 true) else (words_letters.j0 k a0_0 a0_0 a0_1 true)))) = some (r1, r2) := by rw [if_pos rfl] at H; exact H
  clear H
  have H := H1
  clear H1
  by_cases c8 : a0_0.toList = ([97] : List UInt8)
  ·rw [if_pos c8] at H
   obtain ⟨c8b0, c8b1⟩ := eqT c8
   clear c8
   (first | rw [c8b0] | (simp only [i64_w, i32_w]; rw [c8b0]) | skip)
   have H' := Aside0.mk H
   clear H
   go_wp2
   go_meet
   case rel => exact ⟨_, ((⟨#[97, 108, 112, 104, 97]⟩ : ByteArray)), cA, H', ⟨by first | omega | exact Nat.le_refl _⟩, ⟨bK BK148⟩, ⟨bK BK149⟩, ⟨bG⟩⟩
  rw [if_neg c8] at H
  obtain ⟨c8b0, c8b1⟩ := eqF c8
  (first | rw [c8b0] | (simp only [i64_w, i32_w]; rw [c8b0]) | skip)
  by_cases c9 : a0_0.toList = ([98] : List UInt8)
  ·rw [if_pos c9] at H
   obtain ⟨c9b0, c9b1⟩ := eqT c9
   clear c9
   have H' := Aside0.mk H
   clear H
   go_wp2
   go_meet
   case rel => exact ⟨_, ((⟨#[98, 101, 116, 97]⟩ : ByteArray)), cA, H', ⟨by first | omega | exact Nat.le_refl _⟩, ⟨bK BK148⟩, ⟨bK BK149⟩, ⟨bG⟩⟩
  rw [if_neg c9] at H
  obtain ⟨c9b0, c9b1⟩ := eqF c9
  by_cases c10 : a0_0.toList = ([109] : List UInt8)
  rotate_left
  ·rw [if_neg c10] at H
   obtain ⟨c10b0, c10b1⟩ := eqF c10
   have H' := Aside0.mk H
   clear H
   go_wp2
   go_meet
   case rel => exact ⟨_, (a0_0), cA, H', ⟨by first | omega | exact Nat.le_refl _⟩, ⟨bK BK148⟩, ⟨bK BK149⟩, ⟨bG⟩⟩
  rw [if_pos c10] at H
  obtain ⟨c10b0, c10b1⟩ := eqT c10
  clear c10
  have H' := Aside0.mk H
  clear H
  go_wp2
  go_meet
  case rel => exact ⟨_, ((⟨#[109, 105, 108, 101, 115, 116, 111, 110, 101]⟩ : ByteArray)), cA, H', ⟨by first | omega | exact Nat.le_refl _⟩, ⟨bK BK148⟩, ⟨bK BK149⟩, ⟨bG⟩⟩
 clear HC2
 try clear c1
 try clear p2
 try clear c5
 try clear c7
 try clear c8
 try clear c8b0
 try clear c8b1
 try clear c9
 try clear c9b0
 try clear c9b1
 try clear c10
 try clear c10b0
 try clear c10b1
 try clear hcz6_0
 try clear hcz6_1
 try clear hcz6_2
 try clear hfz6_0
 try clear hfz6_1
 try clear hfz6_2
 obtain ⟨kq, x3_1, rfl, HA, HJ1, BK148, BK149, HB⟩ := hcut
 cases kq with
 | zero => exact absurd HA.out (by simp [words_letters.j0])
 | succ kj1 =>
  have H := HA.out
  clear HA
  simp only [words_letters.j0] at H
  (try simp only [toList_lit] at H)
  by_cases c11 : x3_1.toList = ([97, 108, 112, 104, 97] : List UInt8)
  ·rw [if_pos c11] at H
   obtain ⟨c11b0, c11b1⟩ := eqT c11
   clear c11
   simp only [Option.some.injEq, Prod.mk.injEq] at H
   obtain ⟨rfl, rfl⟩ := H
   have hnb12 := NB149_148.out
   have hnc12 := NB148_149.out
   obtain ⟨hcz13_0, hcz13_1, hfz13_0, hfz13_1⟩ := cells2 BK149
   go_wp2
   refine bodyPost_ret (results_cell_row rfl _ _ gb149 38 #[.int .i64 1, .string (⟨#[]⟩ : ByteArray)] (0, 0) _ rfl (bP BK149) Tryd.underlying38 rfl (by kernel_rfl)) rfl ?_
   exact ⟨eA, bG⟩
  rw [if_neg c11] at H
  obtain ⟨c11b0, c11b1⟩ := eqF c11
  by_cases c14 : x3_1.toList = ([98, 101, 116, 97] : List UInt8)
  ·rw [if_pos c14] at H
   obtain ⟨c14b0, c14b1⟩ := eqT c14
   clear c14
   simp only [Option.some.injEq, Prod.mk.injEq] at H
   obtain ⟨rfl, rfl⟩ := H
   have hnb15 := NB149_148.out
   have hnc15 := NB148_149.out
   obtain ⟨hcz16_0, hcz16_1, hfz16_0, hfz16_1⟩ := cells2 BK149
   go_wp2
   refine bodyPost_ret (results_cell_row rfl _ _ gb149 38 #[.int .i64 2, .string (⟨#[]⟩ : ByteArray)] (0, 0) _ rfl (bP BK149) Tryd.underlying38 rfl (by kernel_rfl)) rfl ?_
   exact ⟨eA, bG⟩
  rw [if_neg c14] at H
  obtain ⟨c14b0, c14b1⟩ := eqF c14
  by_cases c17 : x3_1.toList = ([109, 105, 108, 101, 115, 116, 111, 110, 101] : List UInt8)
  ·rw [if_pos c17] at H
   obtain ⟨c17b0, c17b1⟩ := eqT c17
   clear c17
   simp only [Option.some.injEq, Prod.mk.injEq] at H
   obtain ⟨rfl, rfl⟩ := H
   have hnb18 := NB149_148.out
   have hnc18 := NB148_149.out
   obtain ⟨hcz19_0, hcz19_1, hfz19_0, hfz19_1⟩ := cells2 BK149
   go_wp2
   refine bodyPost_ret (results_cell_row rfl _ _ gb149 38 #[.int .i64 3, .string (⟨#[]⟩ : ByteArray)] (0, 0) _ rfl (bP BK149) Tryd.underlying38 rfl (by kernel_rfl)) rfl ?_
   exact ⟨eA, bG⟩
  rw [if_neg c17] at H
  obtain ⟨c17b0, c17b1⟩ := eqF c17
  have HC20 := Aside0.mk H
  clear H
  go_upto_if 26 with (fail)
  go_cut [26] (fun v26 wc => ∃ (kq : Nat) (x26_19 : Bool), v26 = .bool x26_19 ∧ Aside0 (words_letters.j1 kq x3_1 x26_19 a0_0 a0_1 a0_2 = some (r1, r2)) ∧ Aside0 (kq ≤ kj1) ∧ Aside0 (wc.heap[gb148]? = some (.cells #[.string a0_0, .bool a0_1, .bool a0_2] 93 (0, 0))) ∧ Aside0 (wc.heap[gb149]? = some (.cells #[.int .i64 0, .string (⟨#[]⟩ : ByteArray)] 38 (0, 0))) ∧ Aside0 (Below w.heap.size w wc))
  case first =>
   have H := HC20.out
   clear HC20
   by_cases c21 : x3_1.toList = ([114, 99] : List UInt8)
   rotate_left
   ·rw [if_neg c21] at H
    obtain ⟨c21b0, c21b1⟩ := eqF c21
    (first | rw [c21b0] | (simp only [i64_w, i32_w]; rw [c21b0]) | skip)
    have H' := Aside0.mk H
    clear H
    go_wp2
    go_meet
    case rel => exact ⟨_, ((x3_1.toList == ([99, 114] : List UInt8))), cA, H', ⟨by have := HJ1.out; first | omega | exact Nat.le_refl _⟩, ⟨bK BK148⟩, ⟨bK BK149⟩, ⟨bG⟩⟩
   rw [if_pos c21] at H
   obtain ⟨c21b0, c21b1⟩ := eqT c21
   clear c21
   (first | rw [c21b0] | (simp only [i64_w, i32_w]; rw [c21b0]) | skip)
   have H' := Aside0.mk H
   clear H
   go_wp2
   go_meet
   case rel => exact ⟨_, ((x3_1.toList == ([114, 99] : List UInt8))), cA, H', ⟨by have := HJ1.out; first | omega | exact Nat.le_refl _⟩, ⟨bK BK148⟩, ⟨bK BK149⟩, ⟨bG⟩⟩
  clear HC20
  try clear c1
  try clear c2
  try clear p2
  try clear c5
  try clear c7
  try clear c8
  try clear c8b0
  try clear c8b1
  try clear c9
  try clear c9b0
  try clear c9b1
  try clear c10
  try clear c10b0
  try clear c10b1
  try clear c11
  try clear c11b0
  try clear c11b1
  try clear c12
  try clear c14
  try clear c14b0
  try clear c14b1
  try clear c15
  try clear c17
  try clear c17b0
  try clear c17b1
  try clear c18
  try clear c21
  try clear c21b0
  try clear c21b1
  try clear hcz13_0
  try clear hcz13_1
  try clear hcz16_0
  try clear hcz16_1
  try clear hcz19_0
  try clear hcz19_1
  try clear hcz6_0
  try clear hcz6_1
  try clear hcz6_2
  try clear hfz13_0
  try clear hfz13_1
  try clear hfz16_0
  try clear hfz16_1
  try clear hfz19_0
  try clear hfz19_1
  try clear hfz6_0
  try clear hfz6_1
  try clear hfz6_2
  try clear p2
  obtain ⟨kq, x26_19, rfl, HA, HJ19, BK148, BK149, HB⟩ := hcut
  cases kq with
  | zero => exact absurd HA.out (by simp [words_letters.j1])
  | succ kj19 =>
   have H := HA.out
   clear HA
   simp only [words_letters.j1] at H
   (try simp only [toList_lit] at H)
   by_cases c22 : x26_19 = true
   ·subst c22
    have H1 : (some (4, (⟨#[]⟩ : ByteArray))) = some (r1, r2) := by rw [if_pos rfl] at H; exact H
    clear H
    have H := H1
    clear H1
    simp only [Option.some.injEq, Prod.mk.injEq] at H
    obtain ⟨rfl, rfl⟩ := H
    have hnb23 := NB149_148.out
    have hnc23 := NB148_149.out
    obtain ⟨hcz24_0, hcz24_1, hfz24_0, hfz24_1⟩ := cells2 BK149
    go_wp2
    refine bodyPost_ret (results_cell_row rfl _ _ gb149 38 #[.int .i64 4, .string (⟨#[]⟩ : ByteArray)] (0, 0) _ rfl (bP BK149) Tryd.underlying38 rfl (by kernel_rfl)) rfl ?_
    exact ⟨eA, bG⟩
   replace c22 := Bool.eq_false_iff.mpr c22
   subst c22
   have H1 : (if x3_1.toList = ([115, 110, 97, 112, 115, 104, 111, 116] : List UInt8) then (some (5, (⟨#[]⟩ : ByteArray))) else (if x3_1.toList = ([103, 97] : List UInt8) then (words_letters.j2 kj19 x3_1 (x3_1.toList == ([103, 97] : List UInt8)) a0_0 a0_1 a0_2) else (if x3_1.toList = ([102, 105, 110, 97, 108] : List UInt8) then (words_letters.j2 kj19 x3_1 (x3_1.toList == ([102, 105, 110, 97, 108] : List UInt8)) a0_0 a0_1 a0_2) else (words_letters.j2 kj19 x3_1 (x3_1.toList == ([114, 101, 108, 101, 97, 115, 101] : List UInt8)) a0_0 a0_1 a0_2)))) = some (r1, r2) := by rw [if_neg (show ¬ (false = true) by decide)] at H; exact H
   clear H
   have H := H1
   clear H1
   by_cases c25 : x3_1.toList = ([115, 110, 97, 112, 115, 104, 111, 116] : List UInt8)
   ·rw [if_pos c25] at H
    obtain ⟨c25b0, c25b1⟩ := eqT c25
    clear c25
    simp only [Option.some.injEq, Prod.mk.injEq] at H
    obtain ⟨rfl, rfl⟩ := H
    have hnb26 := NB149_148.out
    have hnc26 := NB148_149.out
    obtain ⟨hcz27_0, hcz27_1, hfz27_0, hfz27_1⟩ := cells2 BK149
    go_wp2
    refine bodyPost_ret (results_cell_row rfl _ _ gb149 38 #[.int .i64 5, .string (⟨#[]⟩ : ByteArray)] (0, 0) _ rfl (bP BK149) Tryd.underlying38 rfl (by kernel_rfl)) rfl ?_
    exact ⟨eA, bG⟩
   rw [if_neg c25] at H
   obtain ⟨c25b0, c25b1⟩ := eqF c25
   have HC28 := Aside0.mk H
   clear H
   go_upto_if 31 with (fail)
   go_cut [31] (fun v31 wc => ∃ (kq : Nat) (x31_27 : Bool), v31 = .bool x31_27 ∧ Aside0 (words_letters.j2 kq x3_1 x31_27 a0_0 a0_1 a0_2 = some (r1, r2)) ∧ Aside0 (kq ≤ kj19) ∧ Aside0 (wc.heap[gb148]? = some (.cells #[.string a0_0, .bool a0_1, .bool a0_2] 93 (0, 0))) ∧ Aside0 (wc.heap[gb149]? = some (.cells #[.int .i64 0, .string (⟨#[]⟩ : ByteArray)] 38 (0, 0))) ∧ Aside0 (Below w.heap.size w wc))
   case first =>
    have H := HC28.out
    clear HC28
    by_cases c29 : x3_1.toList = ([103, 97] : List UInt8)
    ·rw [if_pos c29] at H
     obtain ⟨c29b0, c29b1⟩ := eqT c29
     clear c29
     (first | rw [c29b0] | (simp only [i64_w, i32_w]; rw [c29b0]) | skip)
     have H' := Aside0.mk H
     clear H
     go_wp2
     go_meet
     case rel => exact ⟨_, ((x3_1.toList == ([103, 97] : List UInt8))), cA, H', ⟨by have := HJ1.out; have := HJ19.out; first | omega | exact Nat.le_refl _⟩, ⟨bK BK148⟩, ⟨bK BK149⟩, ⟨bG⟩⟩
    rw [if_neg c29] at H
    obtain ⟨c29b0, c29b1⟩ := eqF c29
    (first | rw [c29b0] | (simp only [i64_w, i32_w]; rw [c29b0]) | skip)
    by_cases c30 : x3_1.toList = ([102, 105, 110, 97, 108] : List UInt8)
    rotate_left
    ·rw [if_neg c30] at H
     obtain ⟨c30b0, c30b1⟩ := eqF c30
     have H' := Aside0.mk H
     clear H
     go_wp2
     go_meet
     case rel => exact ⟨_, ((x3_1.toList == ([114, 101, 108, 101, 97, 115, 101] : List UInt8))), cA, H', ⟨by have := HJ1.out; have := HJ19.out; first | omega | exact Nat.le_refl _⟩, ⟨bK BK148⟩, ⟨bK BK149⟩, ⟨bG⟩⟩
    rw [if_pos c30] at H
    obtain ⟨c30b0, c30b1⟩ := eqT c30
    clear c30
    have H' := Aside0.mk H
    clear H
    go_wp2
    go_meet
    case rel => exact ⟨_, ((x3_1.toList == ([102, 105, 110, 97, 108] : List UInt8))), cA, H', ⟨by have := HJ1.out; have := HJ19.out; first | omega | exact Nat.le_refl _⟩, ⟨bK BK148⟩, ⟨bK BK149⟩, ⟨bG⟩⟩
   clear HC28
   try clear c1
   try clear c2
   try clear p2
   try clear c3
   try clear c5
   try clear c7
   try clear c8
   try clear c8b0
   try clear c8b1
   try clear c9
   try clear c9b0
   try clear c9b1
   try clear c10
   try clear c10b0
   try clear c10b1
   try clear c11
   try clear c11b0
   try clear c11b1
   try clear c12
   try clear c14
   try clear c14b0
   try clear c14b1
   try clear c15
   try clear c17
   try clear c17b0
   try clear c17b1
   try clear c18
   try clear c21
   try clear c21b0
   try clear c21b1
   try clear c22
   try clear c23
   try clear c25
   try clear c25b0
   try clear c25b1
   try clear c26
   try clear c29
   try clear c29b0
   try clear c29b1
   try clear c30
   try clear c30b0
   try clear c30b1
   try clear hcz13_0
   try clear hcz13_1
   try clear hcz16_0
   try clear hcz16_1
   try clear hcz19_0
   try clear hcz19_1
   try clear hcz24_0
   try clear hcz24_1
   try clear hcz27_0
   try clear hcz27_1
   try clear hcz6_0
   try clear hcz6_1
   try clear hcz6_2
   try clear hfz13_0
   try clear hfz13_1
   try clear hfz16_0
   try clear hfz16_1
   try clear hfz19_0
   try clear hfz19_1
   try clear hfz24_0
   try clear hfz24_1
   try clear hfz27_0
   try clear hfz27_1
   try clear hfz6_0
   try clear hfz6_1
   try clear hfz6_2
   try clear p2
   obtain ⟨kq, x31_27, rfl, HA, HJ27, BK148, BK149, HB⟩ := hcut
   cases kq with
   | zero => exact absurd HA.out (by simp [words_letters.j2])
   | succ kj27 =>
    have H := HA.out
    clear HA
    simp only [words_letters.j2] at H
    (try simp only [toList_lit] at H)
    by_cases c31 : x31_27 = true
    ·subst c31
     have H1 : (some (6, (⟨#[]⟩ : ByteArray))) = some (r1, r2) := by rw [if_pos rfl] at H; exact H
     clear H
     have H := H1
     clear H1
     simp only [Option.some.injEq, Prod.mk.injEq] at H
     obtain ⟨rfl, rfl⟩ := H
     have hnb32 := NB149_148.out
     have hnc32 := NB148_149.out
     obtain ⟨hcz33_0, hcz33_1, hfz33_0, hfz33_1⟩ := cells2 BK149
     go_wp2
     refine bodyPost_ret (results_cell_row rfl _ _ gb149 38 #[.int .i64 6, .string (⟨#[]⟩ : ByteArray)] (0, 0) _ rfl (bP BK149) Tryd.underlying38 rfl (by kernel_rfl)) rfl ?_
     exact ⟨eA, bG⟩
    replace c31 := Bool.eq_false_iff.mpr c31
    subst c31
    have H1 : (if x3_1.toList = ([115, 112] : List UInt8) then (some (7, (⟨#[]⟩ : ByteArray))) else (some (8, a0_0))) = some (r1, r2) := by rw [if_neg (show ¬ (false = true) by decide)] at H; exact H
    clear H
    have H := H1
    clear H1
    by_cases c34 : x3_1.toList = ([115, 112] : List UInt8)
    rotate_left
    ·rw [if_neg c34] at H
     obtain ⟨c34b0, c34b1⟩ := eqF c34
     simp only [Option.some.injEq, Prod.mk.injEq] at H
     obtain ⟨rfl, rfl⟩ := H
     have hnb37 := NB148_149.out
     have hnc37 := NB149_148.out
     obtain ⟨hcz38_0, hcz38_1, hcz38_2, hfz38_0, hfz38_1, hfz38_2⟩ := cells3 BK148
     obtain ⟨hcz39_0, hcz39_1, hfz39_0, hfz39_1⟩ := cells2 BK149
     go_wp2
     refine bodyPost_ret (results_cell_row rfl _ _ gb149 38 #[.int .i64 8, .string a0_0] (0, 0) _ rfl (bP BK149) Tryd.underlying38 rfl (by kernel_rfl)) rfl ?_
     exact ⟨eA, bG⟩
    rw [if_pos c34] at H
    obtain ⟨c34b0, c34b1⟩ := eqT c34
    clear c34
    simp only [Option.some.injEq, Prod.mk.injEq] at H
    obtain ⟨rfl, rfl⟩ := H
    have hnb35 := NB149_148.out
    have hnc35 := NB148_149.out
    obtain ⟨hcz36_0, hcz36_1, hfz36_0, hfz36_1⟩ := cells2 BK149
    go_wp2
    refine bodyPost_ret (results_cell_row rfl _ _ gb149 38 #[.int .i64 7, .string (⟨#[]⟩ : ByteArray)] (0, 0) _ rfl (bP BK149) Tryd.underlying38 rfl (by kernel_rfl)) rfl ?_
    exact ⟨eA, bG⟩
def strings_TrimLeft.f (a0 a1 : ByteArray) : Option ByteArray := if a1.size = 1 ∧ (a1.data.toList.getD 0 0).toNat < 128 then some ⟨(Lib.trimLeftB a0.data.toList (a1.data.toList.getD 0 0)).toArray⟩ else none
theorem strings_TrimLeft.calls (a0 a1 : ByteArray) (r : ByteArray) (w : World) (hG : Glob w) (h : strings_TrimLeft.f a0 a1 = some r) :
 Calls Tryd.prog 108 #[.string a0, .string a1] w fun e w' => e = .returned (.string r) ∧ Drawn0 w w' := by
 unfold strings_TrimLeft.f at h
 split at h
 ·rename_i hs
  obtain rfl := Option.some.inj h
  obtain ⟨c, rfl⟩ : ∃ c : UInt8, a1 = ⟨#[c]⟩ := by
   rcases a1 with ⟨⟨l⟩⟩
   match l, hs.1 with
   | [c], _ => exact ⟨c, rfl⟩
  exact (Tryd.strings_TrimLeft_one a0 c hs.2 w).mono fun e w' hh => ⟨hh.1, ⟨⟨0, hh.2⟩⟩⟩
 ·exact absurd h (by simp)
def words_word.j0 : Nat → Bool → ByteArray → Bool → Bool → Option (Int × ByteArray)
 | 0, _, _, _, _ => none
 | k + 1, x13, x151000, x151001, x151002 => if x13 = true then ((words_letters.f k x151000 x151001 x151002).bind fun bt153 => (some (bt153.1, bt153.2))) else ((strings_TrimLeft.f x151000 (⟨#[48]⟩ : ByteArray)).bind fun t155 => (if t155.toList = ([] : List UInt8) then (some (6, (⟨#[]⟩ : ByteArray))) else (if x151001 = true then (some (9, t155)) else (some (10, t155)))))
def words_word.f (k : Nat) (a0_0 : ByteArray) (a0_1 : Bool) (a0_2 : Bool) : Option (Int × ByteArray) := if a0_0.toList = ([] : List UInt8) then (words_word.j0 k false a0_0 a0_1 a0_2) else (if 0 < (a0_0.size : Int) then ((chars_Digit.f (bt a0_0 0)).bind fun t152 => (words_word.j0 k (!t152) a0_0 a0_1 a0_2)) else (none))
theorem words_word.mono_l : ∀ k, (∀ y0 y1 y2 y3, LeO (words_word.j0 k y0 y1 y2 y3) (words_word.j0 (k + 1) y0 y1 y2 y3))
 | 0 => fun _ _ _ _ r h => by simp [words_word.j0] at h
 | k + 1 => by
  have ih0 := words_word.mono_l k
  ·intro y0 y1 y2 y3
   unfold words_word.j0
   have m0 := @words_letters.mono
   exact mo
theorem words_word.mono : ∀ a0 a1 a2 k, LeO (words_word.f k a0 a1 a2) (words_word.f (k + 1) a0 a1 a2) := by
 intro a0 a1 a2 k
 have ih0 := words_word.mono_l k
 unfold words_word.f
 have m0 := @words_letters.mono
 exact mo
theorem words_word.calls (k : Nat) (a0_0 : ByteArray) (a0_1 : Bool) (a0_2 : Bool) (r1 : Int) (r2 : ByteArray) (w : World) (hG : Glob w) (h : words_word.f k a0_0 a0_1 a0_2 = some (r1, r2)) :
 Calls Tryd.prog 74 #[.agg #[.string a0_0, .bool a0_1, .bool a0_2]] w fun e w' => e = .returned (.agg #[.int .i64 r1, .string r2]) ∧ Below w.heap.size w w' := by
 have hu93 := Tryd.underlying93
 have hu38 := Tryd.underlying38
 have HG := Aside0.mk hG
 clear hG
 have HB := Aside0.mk (Below.refl w.heap.size w)
 have H : (if a0_0.toList = ([] : List UInt8) then (words_word.j0 k false a0_0 a0_1 a0_2) else (if 0 < (a0_0.size : Int) then ((chars_Digit.f (bt a0_0 0)).bind fun t152 => (words_word.j0 k (!t152) a0_0 a0_1 a0_2)) else (none))) = some (r1, r2) := h
 clear h
 have HC2 := Aside0.mk H
 clear H
 go_enter Tryd.func74, Tryd.ntmps74
 go_upto_region 1 with (first | (refine be 1 #[.string a0_0, .bool a0_1, .bool a0_2] 93 ?_; intro gb150 hg w3 hbox hb; have BK150 := Aside0.mk (hbox); have GW150 := gW hg; have GE150 := gW hg; replace HB := sB hb; clear hb hbox hg) | (refine be 2 #[.int .i64 0, .string (⟨#[]⟩ : ByteArray)] 38 ?_; intro gb151 hg w4 hbox hb; have BK151 := Aside0.mk (hbox); have GW151 := gW hg; have GE151 := gW hg; replace HB := sB hb; have NB150_151 := nL BK150 hg; have NB151_150 := nG BK150 hg; replace BK150 := kB BK150 hb; clear hb hbox hg))
 (try simp only [Act.put, List.setIfInBounds_toArray, List.set_cons_zero, List.set_cons_succ])
 go_cut [13] (fun v13 wc => ∃ (kq : Nat) (x13_1 : Bool), v13 = .bool x13_1 ∧ Aside0 (words_word.j0 kq x13_1 a0_0 a0_1 a0_2 = some (r1, r2)) ∧ Aside0 (kq ≤ k) ∧ Aside0 (wc.heap[gb150]? = some (.cells #[.string a0_0, .bool a0_1, .bool a0_2] 93 (0, 0))) ∧ Aside0 (wc.heap[gb151]? = some (.cells #[.int .i64 0, .string (⟨#[]⟩ : ByteArray)] 38 (0, 0))) ∧ Aside0 (Below w.heap.size w wc))
 case first =>
  have H := HC2.out
  clear HC2
  by_cases c5 : a0_0.toList = ([] : List UInt8)
  ·rw [if_pos c5] at H
   obtain ⟨c5b0, c5b1⟩ := eqT c5
   (try (have c5b2 : a0_0.toList.isEmpty = true := by simpa using c5))
   clear c5
   (first | rw [c5b0] | rw [c5b2] | (simp only [i64_w, i32_w]; rw [c5b0]) | skip)
   have H' := Aside0.mk H
   clear H
   have hnb6 := NB150_151.out
   have hnc6 := NB151_150.out
   obtain ⟨hcz7_0, hcz7_1, hcz7_2, hfz7_0, hfz7_1, hfz7_2⟩ := cells3 BK150
   go_wp2
   go_meet
   case rel => exact ⟨_, (false), cA, H', ⟨by first | omega | exact Nat.le_refl _⟩, ⟨bK BK150⟩, ⟨bK BK151⟩, ⟨bG⟩⟩
  rw [if_neg c5] at H
  obtain ⟨c5b0, c5b1⟩ := eqF c5
  (try (have c5b2 : a0_0.toList.isEmpty = false := by simpa using c5))
  (first | rw [c5b0] | rw [c5b2] | (simp only [i64_w, i32_w]; rw [c5b0]) | skip)
  by_cases c8 : 0 < (a0_0.size : Int)
  rotate_left
  ·rw [if_neg c8] at H
   exact absurd H (by simp)
  rw [if_pos c8] at H
  have c8b0 := dT c8
  have c8b1 : decide (0 < a0_0.size) = true := decide_eq_true (by omega)
  clear c8
  replace H := bi H
  obtain ⟨t152, A100, H⟩ := H
  try dsimp only at H
  have A10 := Aside0.mk A100
  clear A100
  have H' := Aside0.mk H
  clear H
  have hnb11 := NB150_151.out
  have hnc11 := NB151_150.out
  obtain ⟨hcz12_0, hcz12_1, hcz12_2, hfz12_0, hfz12_1, hfz12_2⟩ := cells3 BK150
  have p9 : 0 ≤ (0 : Int) := (by omega)
  have q9 : 0 < a0_0.size := (by have : (0 : Int) < (a0_0.size : Int) := dA; omega)
  have hx9 : ∀ h : 0 < a0_0.size, ((a0_0[0]'h).toNat : Int) = bt a0_0 0 := bt_at a0_0 0
  clear p9
  have qi9 : (0 < (a0_0.size : Int)) = True := eq_true (dA)
  replace q9 := eq_true q9
  go_wp2_with (first | (go_at_call 106; (with_reducible refine (chars_Digit.calls (bt a0_0 0) t152 _ (gS HG) A10.out).mono ?_); rintro e w' ⟨rfl, ⟨nd, rfl⟩⟩))
  go_meet
  case rel => exact ⟨_, (!t152), cA, H', ⟨by first | omega | exact Nat.le_refl _⟩, ⟨bK BK150⟩, ⟨bK BK151⟩, ⟨bG⟩⟩
 clear HC2
 try clear c1
 try clear p2
 try clear c5
 try clear c5b0
 try clear c5b1
 try clear c5b2
 try clear c6
 try clear c7
 try clear c8
 try clear c8b0
 try clear c8b1
 try clear p9
 try clear q9
 try clear hx9
 try clear qi9
 try clear c11
 try clear hcz12_0
 try clear hcz12_1
 try clear hcz12_2
 try clear hcz7_0
 try clear hcz7_1
 try clear hcz7_2
 try clear hfz12_0
 try clear hfz12_1
 try clear hfz12_2
 try clear hfz7_0
 try clear hfz7_1
 try clear hfz7_2
 try clear p9
 try clear q9
 obtain ⟨kq, x13_1, rfl, HA, HJ1, BK150, BK151, HB⟩ := hcut
 cases kq with
 | zero => exact absurd HA.out (by simp [words_word.j0])
 | succ kj1 =>
  have H := HA.out
  clear HA
  simp only [words_word.j0] at H
  (try simp only [toList_lit] at H)
  by_cases c13 : x13_1 = true
  ·subst c13
   have H1 : ((words_letters.f kj1 a0_0 a0_1 a0_2).bind fun bt153 => (some (bt153.1, bt153.2))) = some (r1, r2) := by rw [if_pos rfl] at H; exact H
   clear H
   have H := H1
   clear H1
   replace H := bi H
   obtain ⟨⟨t153, t154⟩, A140, H⟩ := H
   try dsimp only at H
   have A14 := Aside0.mk A140
   clear A140
   simp only [Option.some.injEq, Prod.mk.injEq] at H
   obtain ⟨rfl, rfl⟩ := H
   have hnb15 := NB150_151.out
   have hnc15 := NB151_150.out
   obtain ⟨hcz16_0, hcz16_1, hcz16_2, hfz16_0, hfz16_1, hfz16_2⟩ := cells3 BK150
   go_wp2_with (first | (refine gl (some 15) Tryd.func107 #[.agg #[.string a0_0, .bool a0_1, .bool a0_2]] ?_; (with_reducible refine (words_letters.calls kj1 a0_0 a0_1 a0_2 t153 t154 _ (gS HG) A14.out).mono ?_); rintro e w17 ⟨rfl, hb⟩; refine ⟨_, rfl, ?_⟩; replace BK150 := kB BK150 hb; replace BK151 := kB BK151 hb; replace HB := sB hb; (try clear hb); have hcz18_0 : w17.cell? ⟨gb151, 0, none⟩ = some (.int .i64 0) := (blk_cell BK151.out 0).trans rfl; have hcz18_1 : w17.cell? ⟨gb151, 1, none⟩ = some (.string (⟨#[]⟩ : ByteArray)) := (blk_cell BK151.out 1).trans rfl; have hfz18_0 := blk_frozen BK151.out 0; have hfz18_1 := blk_frozen BK151.out 1))
   refine bodyPost_ret (results_cell_row rfl _ _ gb151 38 #[.int .i64 t153, .string t154] (0, 0) _ rfl (bP BK151) Tryd.underlying38 rfl (by kernel_rfl)) rfl ?_
   exact ⟨eA, bG⟩
  replace c13 := Bool.eq_false_iff.mpr c13
  subst c13
  have H1 : ((strings_TrimLeft.f a0_0 (⟨#[48]⟩ : ByteArray)).bind fun t155 => (if t155.toList = ([] : List UInt8) then (some (6, (⟨#[]⟩ : ByteArray))) else (if a0_1 = true then (some (9, t155)) else (some (10, t155))))) = some (r1, r2) := by rw [if_neg (show ¬ (false = true) by decide)] at H; exact H
  clear H
  have H := H1
  clear H1
  replace H := bi H
  obtain ⟨t155, A190, H⟩ := H
  try dsimp only at H
  have A19 := Aside0.mk A190
  clear A190
  by_cases c20 : t155.toList = ([] : List UInt8)
  ·rw [if_pos c20] at H
   obtain ⟨c20b0, c20b1⟩ := eqT c20
   (try (have c20b2 : t155.toList.isEmpty = true := by simpa using c20))
   clear c20
   simp only [Option.some.injEq, Prod.mk.injEq] at H
   obtain ⟨rfl, rfl⟩ := H
   have hnb21 := NB150_151.out
   have hnc21 := NB151_150.out
   obtain ⟨hcz22_0, hcz22_1, hcz22_2, hfz22_0, hfz22_1, hfz22_2⟩ := cells3 BK150
   go_wp2_with (first | (refine gl (some 18) Tryd.func108 #[.string a0_0, .string (⟨#[48]⟩ : ByteArray)] ?_; (with_reducible refine (strings_TrimLeft.calls a0_0 (⟨#[48]⟩ : ByteArray) t155 _ (gS HG) A19.out).mono ?_); rintro e w' ⟨rfl, ⟨nd, rfl⟩⟩; refine ⟨_, rfl, ?_⟩; (try (rw [drewN_self wc]; generalize hq_ : World.drewN wc _ = wc; have n0_ : Aside0 (wc.heap[gb150]? = some (.cells #[.string a0_0, .bool a0_1, .bool a0_2] 93 (0, 0))) := ⟨by rw [← hq_]; exact (bK BK150)⟩; have n1_ : Aside0 (wc.heap[gb151]? = some (.cells #[.int .i64 0, .string (⟨#[]⟩ : ByteArray)] 38 (0, 0))) := ⟨by rw [← hq_]; exact (bK BK151)⟩; have n2_ : Aside0 (Below w.heap.size w wc) := ⟨by rw [← hq_]; exact bG⟩; clear BK150 BK151 HB hq_; have BK150 := n0_; have BK151 := n1_; have HB := n2_; clear n0_ n1_ n2_; have hcz22_0 : wc.cell? ⟨gb150, 0, none⟩ = some (.string a0_0) := (blk_cell BK150.out 0).trans rfl; have hcz22_1 : wc.cell? ⟨gb150, 1, none⟩ = some (.bool a0_1) := (blk_cell BK150.out 1).trans rfl; have hcz22_2 : wc.cell? ⟨gb150, 2, none⟩ = some (.bool a0_2) := (blk_cell BK150.out 2).trans rfl; have hfz22_0 := blk_frozen BK150.out 0; have hfz22_1 := blk_frozen BK150.out 1; have hfz22_2 := blk_frozen BK150.out 2)); have hcz23_0 : wc.cell? ⟨gb151, 0, none⟩ = some (.int .i64 0) := (blk_cell BK151.out 0).trans rfl; have hcz23_1 : wc.cell? ⟨gb151, 1, none⟩ = some (.string (⟨#[]⟩ : ByteArray)) := (blk_cell BK151.out 1).trans rfl; have hfz23_0 := blk_frozen BK151.out 0; have hfz23_1 := blk_frozen BK151.out 1))
   refine bodyPost_ret (results_cell_row rfl _ _ gb151 38 #[.int .i64 6, .string (⟨#[]⟩ : ByteArray)] (0, 0) _ rfl (bP BK151) Tryd.underlying38 rfl (by kernel_rfl)) rfl ?_
   exact ⟨eA, bG⟩
  rw [if_neg c20] at H
  obtain ⟨c20b0, c20b1⟩ := eqF c20
  (try (have c20b2 : t155.toList.isEmpty = false := by simpa using c20))
  by_cases c24 : a0_1 = true
  ·subst c24
   have H1 : (some (9, t155)) = some (r1, r2) := by rw [if_pos rfl] at H; exact H
   clear H
   have H := H1
   clear H1
   simp only [Option.some.injEq, Prod.mk.injEq] at H
   obtain ⟨rfl, rfl⟩ := H
   have hnb25 := NB150_151.out
   have hnc25 := NB151_150.out
   obtain ⟨hcz26_0, hcz26_1, hcz26_2, hfz26_0, hfz26_1, hfz26_2⟩ := cells3 BK150
   go_wp2_with (first | (refine gl (some 18) Tryd.func108 #[.string a0_0, .string (⟨#[48]⟩ : ByteArray)] ?_; (with_reducible refine (strings_TrimLeft.calls a0_0 (⟨#[48]⟩ : ByteArray) t155 _ (gS HG) A19.out).mono ?_); rintro e w' ⟨rfl, ⟨nd, rfl⟩⟩; refine ⟨_, rfl, ?_⟩; (try (rw [drewN_self wc]; generalize hq_ : World.drewN wc _ = wc; have n0_ : Aside0 (wc.heap[gb150]? = some (.cells #[.string a0_0, .bool true, .bool a0_2] 93 (0, 0))) := ⟨by rw [← hq_]; exact (bK BK150)⟩; have n1_ : Aside0 (wc.heap[gb151]? = some (.cells #[.int .i64 0, .string (⟨#[]⟩ : ByteArray)] 38 (0, 0))) := ⟨by rw [← hq_]; exact (bK BK151)⟩; have n2_ : Aside0 (Below w.heap.size w wc) := ⟨by rw [← hq_]; exact bG⟩; clear BK150 BK151 HB hq_; have BK150 := n0_; have BK151 := n1_; have HB := n2_; clear n0_ n1_ n2_; have hcz26_0 : wc.cell? ⟨gb150, 0, none⟩ = some (.string a0_0) := (blk_cell BK150.out 0).trans rfl; have hcz26_1 : wc.cell? ⟨gb150, 1, none⟩ = some (.bool true) := (blk_cell BK150.out 1).trans rfl; have hcz26_2 : wc.cell? ⟨gb150, 2, none⟩ = some (.bool a0_2) := (blk_cell BK150.out 2).trans rfl; have hfz26_0 := blk_frozen BK150.out 0; have hfz26_1 := blk_frozen BK150.out 1; have hfz26_2 := blk_frozen BK150.out 2)); have hcz27_0 : wc.cell? ⟨gb151, 0, none⟩ = some (.int .i64 0) := (blk_cell BK151.out 0).trans rfl; have hcz27_1 : wc.cell? ⟨gb151, 1, none⟩ = some (.string (⟨#[]⟩ : ByteArray)) := (blk_cell BK151.out 1).trans rfl; have hfz27_0 := blk_frozen BK151.out 0; have hfz27_1 := blk_frozen BK151.out 1))
   refine bodyPost_ret (results_cell_row rfl _ _ gb151 38 #[.int .i64 9, .string t155] (0, 0) _ rfl (bP BK151) Tryd.underlying38 rfl (by kernel_rfl)) rfl ?_
   exact ⟨eA, bG⟩
  replace c24 := Bool.eq_false_iff.mpr c24
  subst c24
  have H1 : (some (10, t155)) = some (r1, r2) := by rw [if_neg (show ¬ (false = true) by decide)] at H; exact H
  clear H
  have H := H1
  clear H1
  simp only [Option.some.injEq, Prod.mk.injEq] at H
  obtain ⟨rfl, rfl⟩ := H
  have hnb28 := NB150_151.out
  have hnc28 := NB151_150.out
  obtain ⟨hcz29_0, hcz29_1, hcz29_2, hfz29_0, hfz29_1, hfz29_2⟩ := cells3 BK150
  go_wp2_with (first | (refine gl (some 18) Tryd.func108 #[.string a0_0, .string (⟨#[48]⟩ : ByteArray)] ?_; (with_reducible refine (strings_TrimLeft.calls a0_0 (⟨#[48]⟩ : ByteArray) t155 _ (gS HG) A19.out).mono ?_); rintro e w' ⟨rfl, ⟨nd, rfl⟩⟩; refine ⟨_, rfl, ?_⟩; (try (rw [drewN_self wc]; generalize hq_ : World.drewN wc _ = wc; have n0_ : Aside0 (wc.heap[gb150]? = some (.cells #[.string a0_0, .bool false, .bool a0_2] 93 (0, 0))) := ⟨by rw [← hq_]; exact (bK BK150)⟩; have n1_ : Aside0 (wc.heap[gb151]? = some (.cells #[.int .i64 0, .string (⟨#[]⟩ : ByteArray)] 38 (0, 0))) := ⟨by rw [← hq_]; exact (bK BK151)⟩; have n2_ : Aside0 (Below w.heap.size w wc) := ⟨by rw [← hq_]; exact bG⟩; clear BK150 BK151 HB hq_; have BK150 := n0_; have BK151 := n1_; have HB := n2_; clear n0_ n1_ n2_; have hcz29_0 : wc.cell? ⟨gb150, 0, none⟩ = some (.string a0_0) := (blk_cell BK150.out 0).trans rfl; have hcz29_1 : wc.cell? ⟨gb150, 1, none⟩ = some (.bool false) := (blk_cell BK150.out 1).trans rfl; have hcz29_2 : wc.cell? ⟨gb150, 2, none⟩ = some (.bool a0_2) := (blk_cell BK150.out 2).trans rfl; have hfz29_0 := blk_frozen BK150.out 0; have hfz29_1 := blk_frozen BK150.out 1; have hfz29_2 := blk_frozen BK150.out 2)); have hcz30_0 : wc.cell? ⟨gb151, 0, none⟩ = some (.int .i64 0) := (blk_cell BK151.out 0).trans rfl; have hcz30_1 : wc.cell? ⟨gb151, 1, none⟩ = some (.string (⟨#[]⟩ : ByteArray)) := (blk_cell BK151.out 1).trans rfl; have hfz30_0 := blk_frozen BK151.out 0; have hfz30_1 := blk_frozen BK151.out 1))
  refine bodyPost_ret (results_cell_row rfl _ _ gb151 38 #[.int .i64 10, .string t155] (0, 0) _ rfl (bP BK151) Tryd.underlying38 rfl (by kernel_rfl)) rfl ?_
  exact ⟨eA, bG⟩
end Go.Proofs.YtgdjfcmmpjcaaaaDoor.Q
