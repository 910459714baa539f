/- Texts put together: what functions of the program compute, and plain words about them. -/
import Derived.Test.YtgdjfcmmpjcaaaaDoorLawCoordTellsM1
import Derived.Test.YtgdjfcmmpjcaaaaDoorLawCoordTellsM2
import Derived.Test.YtgdjfcmmpjcaaaaDoorLawCoordTellsM3
import Derived.Test.YtgdjfcmmpjcaaaaDoorLawCoordTellsM4
import Derived.Test.YtgdjfcmmpjcaaaaDoorProg
import Derived.Test.YtgdjfcmmpjcaaaaDoorRows
import Derived.ChangeArms
import Derived.Deep.DeepHandedRow
import Derived.Shelf.Vars
import Derived.Below
import Derived.Deep.Draws
import Derived.Deep.AppendLies
import Derived.Maps.AppendAt
import Derived.OwnWalk
import Derived.Laws.BytesArg
import Derived.Laws.MakeOwn
import Derived.Laws.OwnMore
import Derived.Deep.OwnRows
import Derived.Tactics
import Derived.Lib.ConvBytes
import Derived.Laws.Slices
import Derived.WalkKit
import Derived.KernelRfl
import Derived.RowKit3
import Derived.Deep.LoopGhost
import Derived.Deep.QuietTactic
import Derived.BigQuiet
import Derived.WideLaws
import Derived.Deep.DeepCutAuto
import Derived.Deep.CutBlock
import Derived.Deep.RegionHeld3
import Derived.Laws.Rows
import Derived.Lib.AppendStr
import Derived.ArgAppend
import Derived.Laws.IdiomCopy
import Derived.OrdersHeld
import Derived.Laws.BitsLemmas
import Derived.RowKit
import Derived.Lib.OthersKept
import Derived.Lib.Hide
import Derived.LoopN
import Derived.Lib.IndexAny
import Derived.Lib.IndexBytes
import Derived.Laws.RangeString
import Derived.Laws.Strings3
import Derived.Laws.Runes
import Derived.Lib.DecodeN
import Derived.Shelf.Strings.IndexAny
import Derived.Lib.IndexMore
import Derived.Lib.CountLaws
namespace Go.Proofs.YtgdjfcmmpjcaaaaDoor.Q
open Go.RowKit Go.Proofs.YtgdjfcmmpjcaaaaDoorW.PrintWords Go.Proofs.YtgdjfcmmpjcaaaaDoorW.PrintLast Go.Proofs.YtgdjfcmmpjcaaaaDoorW.Own Go.Proofs.YtgdjfcmmpjcaaaaDoorW.PrintMore
attribute [local go_sem] max2_int min2_int max_two min_two max_three min_three max_four min_four   -- for this text's walks alone
set_option linter.unusedVariables false
set_option linter.unusedSimpArgs false
set_option maxHeartbeats 20000000
set_option maxRecDepth 100000
section
attribute [local go_sem high] eqA32
def newellaw09_CoordTells.j0 : Nat → ByteArray → Bool → ByteArray → ByteArray → ByteArray → ByteArray → ByteArray → ByteArray → ByteArray → ByteArray → ByteArray → ByteArray → ByteArray → ByteArray → Bool → List (S183) → Option (Bool)
 | 0, _, _, _, _, _, _, _, _, _, _, _, _, _, _, _, _ => none
 | k + 1, x0, x27, x714000, x714001, x714002, x715000, x715001, x715002, x716000, x716001, x716002, x716003, x716004, x716005, x716006, x716007 => if x27 = true then ((newellaw09_awake.f k).bind fun t716 => (some t716)) else ((coord_Parse.f k x0).bind fun bt717 => ((newelref05_CoordParse.f k x0).bind fun bt722 => ((newellaw09_awake.f k).bind fun t727 => (if t727 = true then ((coord_Id.f k x0).bind fun t728 => ((newelref05_Id.f k x0).bind fun t729 => (if (t728 == t729) = true then ((coord_Right.f k x714000 x714001 x714002).bind fun t730 => ((newelref05_Coord.f k x714000 x714001 x714002).bind fun t731 => (if (t730 == t731) = true then ((coord_Text.f x714000 x714001 x714002).bind fun t732 => ((newelref05_CoordText.f x714000 x714001 x714002).bind fun t733 => (if t732.toList = t733.toList then (if (bt717.1.toList == bt722.1.toList && (bt717.2.1.toList == bt722.2.1.toList && (bt717.2.2.1.toList == bt722.2.2.1.toList))) = true then (if (bt717.2.2.2 == bt722.2.2.2) = true then ((coord_Key.f k x716000 x716001 x716002 x716003 x716004 x716005 x716006 x716007).bind fun t734 => ((newelref05_Key.f x716000 x716001 x716002 x716003 x716004 x716005 x716006 x716007).bind fun t735 => (if t734.toList = t735.toList then ((coord_Less.f k x714000 x714001 x714002 x715000 x715001 x715002).bind fun t736 => ((newelref05_CoordLess.f k x714000 x714001 x714002 x715000 x715001 x715002).bind fun t737 => (some (t736 == t737)))) else (some false)))) else (some false)) else (some false)) else (some false)))) else (some false)))) else (some false)))) else (some false)))))
def newellaw09_CoordTells.f (k : Nat) (a0 : ByteArray) (a1_0 : ByteArray) (a1_1 : ByteArray) (a1_2 : ByteArray) (a2_0 : ByteArray) (a2_1 : ByteArray) (a2_2 : ByteArray) (a3_0 : ByteArray) (a3_1 : ByteArray) (a3_2 : ByteArray) (a3_3 : ByteArray) (a3_4 : ByteArray) (a3_5 : ByteArray) (a3_6 : Bool) (l3_7 : List (S183)) : Option (Bool) := if (a0.size : Int) > 1000 then (newellaw09_CoordTells.j0 k a0 true a1_0 a1_1 a1_2 a2_0 a2_1 a2_2 a3_0 a3_1 a3_2 a3_3 a3_4 a3_5 a3_6 l3_7) else (if (a1_2.size : Int) > 200 then (newellaw09_CoordTells.j0 k a0 true a1_0 a1_1 a1_2 a2_0 a2_1 a2_2 a3_0 a3_1 a3_2 a3_3 a3_4 a3_5 a3_6 l3_7) else (newellaw09_CoordTells.j0 k a0 (decide ((a2_2.size : Int) > 200)) a1_0 a1_1 a1_2 a2_0 a2_1 a2_2 a3_0 a3_1 a3_2 a3_3 a3_4 a3_5 a3_6 l3_7))
def newellaw09_CoordTells.T5 : Bool × List (List Nat × List Nat) := (true, [([], []), ([0, 0], [0]), ([1], [1]), ([2, 1, 1], [1, 2]), ([1], [1]), ([4, 3, 1], [1, 4]), ([3, 5, 1], [1, 3, 5]), ([1, 6], [1, 6]), ([7, 5], [7]), ([8], [8]), ([9, 8, 8], [8, 9]), ([8], [8]), ([11, 10, 8], [8, 11]), ([10, 12, 8], [8, 10, 12]), ([8, 13], [8, 13]), ([14, 12], [14]), ([15], [15]), ([16, 15, 15], [15, 16]), ([15], [15]), ([18, 17, 15], [15, 18]), ([17, 19, 15], [15, 17, 19]), ([15, 20], [15, 20]), ([21, 19], [21]), ([22], [22]), ([22], [22]), ([23, 24, 22], [22, 23, 24]), ([22, 25], [22, 25]), ([26, 22], [26]), ([27], [27]), ([27], [27]), ([28, 29, 27], [27, 28, 29]), ([27, 30], [27, 30]), ([31, 27], [31]), ([32], [32]), ([33, 32, 32], [32, 33]), ([32], [32]), ([35, 34, 32], [32, 35]), ([34, 36, 32], [32, 34, 36]), ([32, 37], [32, 37]), ([38, 36], [38]), ([39], [39]), ([39], [39]), ([40, 41, 39, 39], [39, 40, 41]), ([39], [39]), ([39], [39]), ([43, 44, 42, 39], [39, 43, 44]), ([42, 45, 39], [39, 42, 45]), ([39, 46], [39, 46]), ([47, 45, 0, 1, 2, 3, 4, 5, 6, 7, 8, 9, 10, 11, 12, 13, 14, 15, 16, 17, 18, 19, 20, 21, 22, 23, 24, 25, 26, 27, 28, 29, 30, 31, 32, 33, 34, 35, 36, 37, 38, 39, 40, 41, 42, 43, 44, 45, 46, 47], [47])])
def newellaw09_CoordTells.B5 : List Nat := [0, 1, 3, 7, 3, 31, 63, 127, 255, 511, 1023, 511, 4095, 8191, 16383, 32767, 65535, 131071, 65535, 524287, 1048575, 2097151, 4194303, 8388607, 8388607, 33554431, 67108863, 134217727, 268435455, 268435455, 1073741823, 2147483647, 4294967295, 8589934591, 17179869183, 8589934591, 68719476735, 137438953471, 274877906943, 549755813887, 1099511627775, 1099511627775, 4398046511103, 1099511627775, 1099511627775, 35184372088831, 70368744177663, 140737488355327, 281474976710655]
theorem newellaw09_CoordTells.tab5 : rtab .any (opsOf Tryd.f11 5) = newellaw09_CoordTells.T5 := by kernel_rfl
theorem newellaw09_CoordTells.bits5 : waitsOk newellaw09_CoordTells.T5.2 newellaw09_CoordTells.B5 = true := by kernel_rfl
theorem newellaw09_CoordTells.calls (k : Nat) (a0 : ByteArray) (a1_0 : ByteArray) (a1_1 : ByteArray) (a1_2 : ByteArray) (a2_0 : ByteArray) (a2_1 : ByteArray) (a2_2 : ByteArray) (a3_0 : ByteArray) (a3_1 : ByteArray) (a3_2 : ByteArray) (a3_3 : ByteArray) (a3_4 : ByteArray) (a3_5 : ByteArray) (a3_6 : Bool) (A3_7 : Option Addr) (c3_7 : Nat) (l3_7 : List (S183)) (r : Bool) (w : World) (hr3_7 : Kd.C k183 w A3_7 l3_7.length l3_7) (hc3_7 : l3_7.length ≤ c3_7) (hG : Glob w) (h : newellaw09_CoordTells.f k a0 a1_0 a1_1 a1_2 a2_0 a2_1 a2_2 a3_0 a3_1 a3_2 a3_3 a3_4 a3_5 a3_6 l3_7 = some r) (hr_ : r = true) :
 Calls Tryd.prog 11 #[.string a0, .agg #[.string a1_0, .string a1_1, .string a1_2], .agg #[.string a2_0, .string a2_1, .string a2_2], .agg #[.string a3_0, .string a3_1, .string a3_2, .string a3_3, .string a3_4, .string a3_5, .bool a3_6, .slice A3_7 l3_7.length c3_7]] w fun e w' => e = .returned (.bool r) ∧ Below w.heap.size w w' := by
 have hu32 := Tryd.underlying32
 have hu24 := Tryd.underlying24
 have HG := Aside0.mk hG
 clear hG
 have HR3_7 := Aside0.mk hr3_7
 have HC3_7 := Aside0.mk hc3_7
 clear hr3_7 hc3_7
 have HB := Aside0.mk (Below.refl w.heap.size w)
 have H : (if (a0.size : Int) > 1000 then (newellaw09_CoordTells.j0 k a0 true a1_0 a1_1 a1_2 a2_0 a2_1 a2_2 a3_0 a3_1 a3_2 a3_3 a3_4 a3_5 a3_6 l3_7) else (if (a1_2.size : Int) > 200 then (newellaw09_CoordTells.j0 k a0 true a1_0 a1_1 a1_2 a2_0 a2_1 a2_2 a3_0 a3_1 a3_2 a3_3 a3_4 a3_5 a3_6 l3_7) else (newellaw09_CoordTells.j0 k a0 (decide ((a2_2.size : Int) > 200)) a1_0 a1_1 a1_2 a2_0 a2_1 a2_2 a3_0 a3_1 a3_2 a3_3 a3_4 a3_5 a3_6 l3_7))) = some r := h
 clear h
 have HC5 := Aside0.mk H
 clear H
 go_enter Tryd.func11, Tryd.ntmps11
 go_upto_region 1 with (first | ((with_reducible refine gate_dst (N := 5) rfl ?_); (try (refine gate_guard (by rfl) ?_; dsimp only)); refine be 5 #[.string a1_0, .string a1_1, .string a1_2] 32 ?_; intro gb713 hg w6 hbox hb; have BK713 := Aside0.mk (hbox); have GW713 := gW hg; have GE713 := gW hg; replace HB := sB hb; clear hb hbox hg) | ((with_reducible refine gate_dst (N := 6) rfl ?_); (try (refine gate_guard (by rfl) ?_; dsimp only)); refine be 6 #[.string a2_0, .string a2_1, .string a2_2] 32 ?_; intro gb714 hg w7 hbox hb; have BK714 := Aside0.mk (hbox); have GW714 := gW hg; have GE714 := gW hg; replace HB := sB hb; have NB713_714 := nL BK713 hg; have NB714_713 := nG BK713 hg; replace BK713 := kB BK713 hb; clear hb hbox hg) | ((with_reducible refine gate_dst (N := 7) rfl ?_); (try (refine gate_guard (by rfl) ?_; dsimp only)); refine be 7 #[.string a3_0, .string a3_1, .string a3_2, .string a3_3, .string a3_4, .string a3_5, .bool a3_6, .slice A3_7 l3_7.length c3_7] 24 ?_; intro gb715 hg w8 hbox hb; have BK715 := Aside0.mk (hbox); have GW715 := gW hg; have GE715 := gW hg; replace HB := sB hb; have NB713_715 := nL BK713 hg; have NB715_713 := nG BK713 hg; replace BK713 := kB BK713 hb; have NB714_715 := nL BK714 hg; have NB715_714 := nG BK714 hg; replace BK714 := kB BK714 hb; clear hb hbox hg))
 (try simp only [Act.put, List.setIfInBounds_toArray, List.set_cons_zero, List.set_cons_succ])
 go_cut [27] (fun v27 wc => ∃ (kq : Nat) (x27_4 : Bool), v27 = .bool x27_4 ∧ Aside0 (newellaw09_CoordTells.j0 kq a0 x27_4 a1_0 a1_1 a1_2 a2_0 a2_1 a2_2 a3_0 a3_1 a3_2 a3_3 a3_4 a3_5 a3_6 l3_7 = some r) ∧ Aside0 (kq ≤ k) ∧ Aside0 (wc.heap[gb713]? = some (.cells #[.string a1_0, .string a1_1, .string a1_2] 32 (0, 0))) ∧ Aside0 (wc.heap[gb714]? = some (.cells #[.string a2_0, .string a2_1, .string a2_2] 32 (0, 0))) ∧ Aside0 (wc.heap[gb715]? = some (.cells #[.string a3_0, .string a3_1, .string a3_2, .string a3_3, .string a3_4, .string a3_5, .bool a3_6, (.slice A3_7 l3_7.length c3_7)] 24 (0, 0))) ∧ Aside0 (Below w.heap.size w wc))
 case first =>
  have H := HC5.out
  clear HC5
  by_cases c9 : (a0.size : Int) > 1000
  ·rw [if_pos c9] at H
   have c9b0 := dT c9
   have c9b1 : decide (1000 < a0.size) = true := decide_eq_true (by omega)
   clear c9
   (first | rw [c9b0] | (simp only [i64_w, i32_w]; rw [c9b0]) | skip)
   have H' := Aside0.mk H
   clear H
   go_wp2
   go_meet
   case rel => exact ⟨_, (true), cA, H', ⟨by first | omega | exact Nat.le_refl _⟩, ⟨bK BK713⟩, ⟨bK BK714⟩, ⟨bK BK715⟩, ⟨bG⟩⟩
  rw [if_neg c9] at H
  have c9b0 := dF c9
  have c9b1 : decide (1000 < a0.size) = false := decide_eq_false (by omega)
  clear c9
  (first | rw [c9b0] | (simp only [i64_w, i32_w]; rw [c9b0]) | skip)
  by_cases c10 : (a1_2.size : Int) > 200
  ·rw [if_pos c10] at H
   have c10b0 := dT c10
   have c10b1 : decide (200 < a1_2.size) = true := decide_eq_true (by omega)
   clear c10
   have H' := Aside0.mk H
   clear H
   have hnb11 := NB713_714.out
   have hnc11 := NB714_713.out
   have hnb12 := NB713_715.out
   have hnc12 := NB715_713.out
   obtain ⟨hcz13_0, hcz13_1, hcz13_2, hfz13_0, hfz13_1, hfz13_2⟩ := cells3 BK713
   go_wp2
   go_meet
   case rel => exact ⟨_, (true), cA, H', ⟨by first | omega | exact Nat.le_refl _⟩, ⟨bK BK713⟩, ⟨bK BK714⟩, ⟨bK BK715⟩, ⟨bG⟩⟩
  rw [if_neg c10] at H
  have c10b0 := dF c10
  have c10b1 : decide (200 < a1_2.size) = false := decide_eq_false (by omega)
  clear c10
  have H' := Aside0.mk H
  clear H
  have hnb14 := NB713_714.out
  have hnc14 := NB714_713.out
  have hnb15 := NB713_715.out
  have hnc15 := NB715_713.out
  obtain ⟨hcz16_0, hcz16_1, hcz16_2, hfz16_0, hfz16_1, hfz16_2⟩ := cells3 BK713
  have hnb17 := NB714_715.out
  have hnc17 := NB715_714.out
  obtain ⟨hcz18_0, hcz18_1, hcz18_2, hfz18_0, hfz18_1, hfz18_2⟩ := cells3 BK714
  go_wp2
  go_meet
  case rel => exact ⟨_, (decide ((a2_2.size : Int) > 200)), cA, H', ⟨by first | omega | exact Nat.le_refl _⟩, ⟨bK BK713⟩, ⟨bK BK714⟩, ⟨bK BK715⟩, ⟨bG⟩⟩
 clear HC5
 try clear c1
 try clear p2
 try clear c3
 try clear c9
 try clear c9b0
 try clear c9b1
 try clear c10
 try clear c10b0
 try clear c10b1
 try clear c11
 try clear c12
 try clear c14
 try clear c15
 try clear c17
 try clear hcz13_0
 try clear hcz13_1
 try clear hcz13_2
 try clear hcz16_0
 try clear hcz16_1
 try clear hcz16_2
 try clear hcz18_0
 try clear hcz18_1
 try clear hcz18_2
 try clear hfz13_0
 try clear hfz13_1
 try clear hfz13_2
 try clear hfz16_0
 try clear hfz16_1
 try clear hfz16_2
 try clear hfz18_0
 try clear hfz18_1
 try clear hfz18_2
 obtain ⟨kq, x27_4, rfl, HA, HJ4, BK713, BK714, BK715, HB⟩ := hcut
 cases kq with
 | zero => exact absurd HA.out (by simp [newellaw09_CoordTells.j0])
 | succ kj4 =>
  have H := HA.out
  clear HA
  simp only [newellaw09_CoordTells.j0] at H
  by_cases c19 : x27_4 = true
  ·subst c19
   replace H : ((newellaw09_awake.f kj4).bind fun t716 => (some t716)) = some r := by rw [if_pos rfl] at H; exact H
   replace H := bi H
   obtain ⟨t716, A200, H⟩ := H
   try dsimp only at H
   have A20 := Aside0.mk A200
   clear A200
   obtain rfl := Option.some.inj H
   go_wp2_with (first | (refine gl (some 28) Tryd.func24 #[] ?_; (with_reducible refine (newellaw09_awake.calls kj4  t716 _ (gS HG) A20.out).mono ?_); rintro e w21 ⟨rfl, hb⟩; refine ⟨_, rfl, ?_⟩; replace BK713 := kB BK713 hb; replace BK714 := kB BK714 hb; replace BK715 := kB BK715 hb; replace HB := sB hb; (try clear hb)))
   go_ret
   exact ⟨eA, bG⟩
  replace c19 := Bool.eq_false_iff.mpr c19
  subst c19
  replace H : ((coord_Parse.f kj4 a0).bind fun bt717 => ((newelref05_CoordParse.f kj4 a0).bind fun bt722 => ((newellaw09_awake.f kj4).bind fun t727 => (if t727 = true then ((coord_Id.f kj4 a0).bind fun t728 => ((newelref05_Id.f kj4 a0).bind fun t729 => (if (t728 == t729) = true then ((coord_Right.f kj4 a1_0 a1_1 a1_2).bind fun t730 => ((newelref05_Coord.f kj4 a1_0 a1_1 a1_2).bind fun t731 => (if (t730 == t731) = true then ((coord_Text.f a1_0 a1_1 a1_2).bind fun t732 => ((newelref05_CoordText.f a1_0 a1_1 a1_2).bind fun t733 => (if t732.toList = t733.toList then (if (bt717.1.toList == bt722.1.toList && (bt717.2.1.toList == bt722.2.1.toList && (bt717.2.2.1.toList == bt722.2.2.1.toList))) = true then (if (bt717.2.2.2 == bt722.2.2.2) = true then ((coord_Key.f kj4 a3_0 a3_1 a3_2 a3_3 a3_4 a3_5 a3_6 l3_7).bind fun t734 => ((newelref05_Key.f a3_0 a3_1 a3_2 a3_3 a3_4 a3_5 a3_6 l3_7).bind fun t735 => (if t734.toList = t735.toList then ((coord_Less.f kj4 a1_0 a1_1 a1_2 a2_0 a2_1 a2_2).bind fun t736 => ((newelref05_CoordLess.f kj4 a1_0 a1_1 a1_2 a2_0 a2_1 a2_2).bind fun t737 => (some (t736 == t737)))) else (some false)))) else (some false)) else (some false)) else (some false)))) else (some false)))) else (some false)))) else (some false))))) = some r := by rw [if_neg nF] at H; exact H
  replace H := bi H
  obtain ⟨⟨t717, t718, t719, t720⟩, A220, H⟩ := H
  try dsimp only at H
  have A22 := Aside0.mk A220
  clear A220
  replace H := bi H
  obtain ⟨⟨t722, t723, t724, t725⟩, A230, H⟩ := H
  try dsimp only at H
  have A23 := Aside0.mk A230
  clear A230
  replace H := bi H
  obtain ⟨t727, A240, H⟩ := H
  try dsimp only at H
  have A24 := Aside0.mk A240
  clear A240
  by_cases c25 : t727 = true
  rotate_left
  ·replace c25 := Bool.eq_false_iff.mpr c25
   subst c25
   replace H : (some false) = some r := by rw [if_neg nF] at H; exact H
   exfalso
   obtain rfl := Option.some.inj H
   exact absurd hr_ (by decide)
  subst c25
  replace H : ((coord_Id.f kj4 a0).bind fun t728 => ((newelref05_Id.f kj4 a0).bind fun t729 => (if (t728 == t729) = true then ((coord_Right.f kj4 a1_0 a1_1 a1_2).bind fun t730 => ((newelref05_Coord.f kj4 a1_0 a1_1 a1_2).bind fun t731 => (if (t730 == t731) = true then ((coord_Text.f a1_0 a1_1 a1_2).bind fun t732 => ((newelref05_CoordText.f a1_0 a1_1 a1_2).bind fun t733 => (if t732.toList = t733.toList then (if (t717.toList == t722.toList && (t718.toList == t723.toList && (t719.toList == t724.toList))) = true then (if (t720 == t725) = true then ((coord_Key.f kj4 a3_0 a3_1 a3_2 a3_3 a3_4 a3_5 a3_6 l3_7).bind fun t734 => ((newelref05_Key.f a3_0 a3_1 a3_2 a3_3 a3_4 a3_5 a3_6 l3_7).bind fun t735 => (if t734.toList = t735.toList then ((coord_Less.f kj4 a1_0 a1_1 a1_2 a2_0 a2_1 a2_2).bind fun t736 => ((newelref05_CoordLess.f kj4 a1_0 a1_1 a1_2 a2_0 a2_1 a2_2).bind fun t737 => (some (t736 == t737)))) else (some false)))) else (some false)) else (some false)) else (some false)))) else (some false)))) else (some false)))) = some r := by rw [if_pos rfl] at H; exact H
  replace H := bi H
  obtain ⟨t728, A260, H⟩ := H
  try dsimp only at H
  have A26 := Aside0.mk A260
  clear A260
  replace H := bi H
  obtain ⟨t729, A270, H⟩ := H
  try dsimp only at H
  have A27 := Aside0.mk A270
  clear A270
  by_cases c28 : (t728 == t729) = true
  rotate_left
  ·rw [if_neg c28] at H
   have c28b0 : (t728 == t729) = false := by simpa using c28
   (try (have c28b1 : decide (t728 = t729) = false := by simpa using c28))
   (try (have c28b2 : (t728 == t729) = false := by simpa using c28))
   (try (have c28b3 : ¬ (t728 = t729) := by simpa using c28))
   clear c28
   exfalso
   obtain rfl := Option.some.inj H
   exact absurd hr_ (by decide)
  rw [if_pos c28] at H
  have c28b0 : (t728 == t729) = true := c28
  (try (have c28b1 : decide (t728 = t729) = true := by simpa using c28))
  (try (have c28b2 : (t728 == t729) = true := by simpa using c28))
  clear c28
  replace H := bi H
  obtain ⟨t730, A290, H⟩ := H
  try dsimp only at H
  have A29 := Aside0.mk A290
  clear A290
  replace H := bi H
  obtain ⟨t731, A300, H⟩ := H
  try dsimp only at H
  have A30 := Aside0.mk A300
  clear A300
  by_cases c31 : (t730 == t731) = true
  rotate_left
  ·rw [if_neg c31] at H
   have c31b0 : (t730 == t731) = false := by simpa using c31
   (try (have c31b1 : decide (t730 = t731) = false := by simpa using c31))
   (try (have c31b2 : (t730 == t731) = false := by simpa using c31))
   (try (have c31b3 : ¬ (t730 = t731) := by simpa using c31))
   clear c31
   exfalso
   obtain rfl := Option.some.inj H
   exact absurd hr_ (by decide)
  rw [if_pos c31] at H
  have c31b0 : (t730 == t731) = true := c31
  (try (have c31b1 : decide (t730 = t731) = true := by simpa using c31))
  (try (have c31b2 : (t730 == t731) = true := by simpa using c31))
  clear c31
  replace H := bi H
  obtain ⟨t732, A320, H⟩ := H
  try dsimp only at H
  have A32 := Aside0.mk A320
  clear A320
  replace H := bi H
  obtain ⟨t733, A330, H⟩ := H
  try dsimp only at H
  have A33 := Aside0.mk A330
  clear A330
  by_cases c34 : t732.toList = t733.toList
  rotate_left
  ·rw [if_neg c34] at H
   obtain ⟨c34b0, c34b1⟩ := eqF c34
   exfalso
   obtain rfl := Option.some.inj H
   exact absurd hr_ (by decide)
  rw [if_pos c34] at H
  obtain ⟨c34b0, c34b1⟩ := eqT c34
  clear c34
  by_cases c35 : (t717.toList == t722.toList && (t718.toList == t723.toList && (t719.toList == t724.toList))) = true
  rotate_left
  ·rw [if_neg c35] at H
   have c35b0 : (t717.toList == t722.toList && (t718.toList == t723.toList && (t719.toList == t724.toList))) = false := by simpa using c35
   (try (have c35b1 : decide (t717.toList = t722.toList && (t718.toList == t723.toList && (t719.toList == t724.toList))) = false := by simpa using c35))
   (try (have c35b2 : (t717.toList == t722.toList && (t718.toList == t723.toList && (t719.toList == t724.toList))) = false := by simpa using c35))
   (try (have c35b3 : ¬ (t717.toList = t722.toList && (t718.toList == t723.toList && (t719.toList == t724.toList))) := by simpa using c35))
   clear c35
   exfalso
   obtain rfl := Option.some.inj H
   exact absurd hr_ (by decide)
  rw [if_pos c35] at H
  have c35b0 : (t717.toList == t722.toList && (t718.toList == t723.toList && (t719.toList == t724.toList))) = true := c35
  (try (have c35b1 : decide (t717.toList = t722.toList && (t718.toList == t723.toList && (t719.toList == t724.toList))) = true := by simpa using c35))
  (try (have c35b2 : (t717.toList == t722.toList && (t718.toList == t723.toList && (t719.toList == t724.toList))) = true := by simpa using c35))
  clear c35
  by_cases c36 : (t720 == t725) = true
  rotate_left
  ·rw [if_neg c36] at H
   have c36b0 : (t720 == t725) = false := by simpa using c36
   (try (have c36b1 : decide (t720 = t725) = false := by simpa using c36))
   (try (have c36b2 : (t720 == t725) = false := by simpa using c36))
   (try (have c36b3 : ¬ (t720 = t725) := by simpa using c36))
   clear c36
   exfalso
   obtain rfl := Option.some.inj H
   exact absurd hr_ (by decide)
  rw [if_pos c36] at H
  have c36b0 : (t720 == t725) = true := c36
  (try (have c36b1 : decide (t720 = t725) = true := by simpa using c36))
  (try (have c36b2 : (t720 == t725) = true := by simpa using c36))
  clear c36
  replace H := bi H
  obtain ⟨t734, A370, H⟩ := H
  try dsimp only at H
  have A37 := Aside0.mk A370
  clear A370
  replace H := bi H
  obtain ⟨t735, A380, H⟩ := H
  try dsimp only at H
  have A38 := Aside0.mk A380
  clear A380
  by_cases c39 : t734.toList = t735.toList
  rotate_left
  ·rw [if_neg c39] at H
   obtain ⟨c39b0, c39b1⟩ := eqF c39
   exfalso
   obtain rfl := Option.some.inj H
   exact absurd hr_ (by decide)
  rw [if_pos c39] at H
  obtain ⟨c39b0, c39b1⟩ := eqT c39
  clear c39
  replace H := bi H
  obtain ⟨t736, A400, H⟩ := H
  try dsimp only at H
  have A40 := Aside0.mk A400
  clear A400
  replace H := bi H
  obtain ⟨t737, A410, H⟩ := H
  try dsimp only at H
  have A41 := Aside0.mk A410
  clear A410
  obtain rfl := Option.some.inj H
  try go_wp2_with (first | (refine gl (some 31) Tryd.func26 #[.string a0] ?_; (with_reducible refine (coord_Parse.calls kj4 a0 t717 t718 t719 t720 _ (gS HG) A22.out).mono ?_); rintro e w42 ⟨rfl, hb⟩; refine ⟨_, rfl, ?_⟩; replace BK713 := kB BK713 hb; replace BK714 := kB BK714 hb; replace BK715 := kB BK715 hb; replace HB := sB hb; (try clear hb)) | ((with_reducible refine gate_dst (N := 9) rfl ?_); (try (refine gate_guard (by rfl) ?_; dsimp only)); refine be 9 #[.string (⟨#[]⟩ : ByteArray), .string (⟨#[]⟩ : ByteArray), .string (⟨#[]⟩ : ByteArray)] 32 ?_; intro gb721 hg w43 hbox hb; have BK721 := Aside0.mk (hbox); have GW721 := gW hg; have GE721 := gW hg; replace HB := sB hb; have NB713_721 := nL BK713 hg; have NB721_713 := nG BK713 hg; replace BK713 := kB BK713 hb; have NB714_721 := nL BK714 hg; have NB721_714 := nG BK714 hg; replace BK714 := kB BK714 hb; have NB715_721 := nL BK715 hg; have NB721_715 := nG BK715 hg; replace BK715 := kB BK715 hb; clear hb hbox hg; have hnb44 := NB721_713.out; have hnc44 := NB713_721.out; have hnb45 := NB721_714.out; have hnc45 := NB714_721.out; have hnb46 := NB721_715.out; have hnc46 := NB715_721.out; have hcz47_0 : w43.cell? ⟨gb721, 0, none⟩ = some (.string (⟨#[]⟩ : ByteArray)) := (blk_cell BK721.out 0).trans rfl; have hcz47_1 : w43.cell? ⟨gb721, 1, none⟩ = some (.string (⟨#[]⟩ : ByteArray)) := (blk_cell BK721.out 1).trans rfl; have hcz47_2 : w43.cell? ⟨gb721, 2, none⟩ = some (.string (⟨#[]⟩ : ByteArray)) := (blk_cell BK721.out 2).trans rfl; have hfz47_0 := blk_frozen BK721.out 0; have hfz47_1 := blk_frozen BK721.out 1; have hfz47_2 := blk_frozen BK721.out 2) | (refine gl (some 36) Tryd.func34 #[.string a0] ?_; (with_reducible refine (newelref05_CoordParse.calls kj4 a0 t722 t723 t724 t725 _ (gS HG) A23.out).mono ?_); rintro e w48 ⟨rfl, hb⟩; refine ⟨_, rfl, ?_⟩; replace BK713 := Aside0.mk (blk_below (g := gb713) (o := .cells #[.string a1_0, .string a1_1, .string a1_2] 32 (0, 0)) (by (with_reducible repeat (first | refine blk_drewN ?_ _ | refine blk_drew ?_ | refine blk_alloc ?_ _)); refine blk_far ?_ NB713_721.out _; (with_reducible repeat (first | refine blk_drewN ?_ _ | refine blk_drew ?_ | refine blk_alloc ?_ _)); refine blk_far ?_ NB713_721.out _; (with_reducible repeat (first | refine blk_drewN ?_ _ | refine blk_drew ?_ | refine blk_alloc ?_ _)); refine blk_far ?_ NB713_721.out _; (with_reducible repeat (first | refine blk_drewN ?_ _ | refine blk_drew ?_ | refine blk_alloc ?_ _)); exact BK713.out) hb); replace BK714 := Aside0.mk (blk_below (g := gb714) (o := .cells #[.string a2_0, .string a2_1, .string a2_2] 32 (0, 0)) (by (with_reducible repeat (first | refine blk_drewN ?_ _ | refine blk_drew ?_ | refine blk_alloc ?_ _)); refine blk_far ?_ NB714_721.out _; (with_reducible repeat (first | refine blk_drewN ?_ _ | refine blk_drew ?_ | refine blk_alloc ?_ _)); refine blk_far ?_ NB714_721.out _; (with_reducible repeat (first | refine blk_drewN ?_ _ | refine blk_drew ?_ | refine blk_alloc ?_ _)); refine blk_far ?_ NB714_721.out _; (with_reducible repeat (first | refine blk_drewN ?_ _ | refine blk_drew ?_ | refine blk_alloc ?_ _)); exact BK714.out) hb); replace BK715 := Aside0.mk (blk_below (g := gb715) (o := .cells #[.string a3_0, .string a3_1, .string a3_2, .string a3_3, .string a3_4, .string a3_5, .bool a3_6, .slice A3_7 l3_7.length c3_7] 24 (0, 0)) (by (with_reducible repeat (first | refine blk_drewN ?_ _ | refine blk_drew ?_ | refine blk_alloc ?_ _)); refine blk_far ?_ NB715_721.out _; (with_reducible repeat (first | refine blk_drewN ?_ _ | refine blk_drew ?_ | refine blk_alloc ?_ _)); refine blk_far ?_ NB715_721.out _; (with_reducible repeat (first | refine blk_drewN ?_ _ | refine blk_drew ?_ | refine blk_alloc ?_ _)); refine blk_far ?_ NB715_721.out _; (with_reducible repeat (first | refine blk_drewN ?_ _ | refine blk_drew ?_ | refine blk_alloc ?_ _)); exact BK715.out) hb); replace BK721 := Aside0.mk (blk_below (g := gb721) (o := .cells #[.string t717, .string t718, .string t719] 32 (0, 0)) (bP BK721) hb); replace HB := sB hb; (try clear hb)) | ((with_reducible refine gate_dst (N := 11) rfl ?_); (try (refine gate_guard (by rfl) ?_; dsimp only)); refine be 11 #[.string (⟨#[]⟩ : ByteArray), .string (⟨#[]⟩ : ByteArray), .string (⟨#[]⟩ : ByteArray)] 32 ?_; intro gb726 hg w49 hbox hb; have BK726 := Aside0.mk (hbox); have GW726 := gW hg; have GE726 := gW hg; replace HB := sB hb; have NB713_726 := nL BK713 hg; have NB726_713 := nG BK713 hg; replace BK713 := kB BK713 hb; have NB714_726 := nL BK714 hg; have NB726_714 := nG BK714 hg; replace BK714 := kB BK714 hb; have NB715_726 := nL BK715 hg; have NB726_715 := nG BK715 hg; replace BK715 := kB BK715 hb; have NB721_726 := nL BK721 hg; have NB726_721 := nG BK721 hg; replace BK721 := kB BK721 hb; clear hb hbox hg; have hnb50 := NB726_713.out; have hnc50 := NB713_726.out; have hnb51 := NB726_714.out; have hnc51 := NB714_726.out; have hnb52 := NB726_715.out; have hnc52 := NB715_726.out; have hnb53 := NB726_721.out; have hnc53 := NB721_726.out; have hcz54_0 : w49.cell? ⟨gb726, 0, none⟩ = some (.string (⟨#[]⟩ : ByteArray)) := (blk_cell BK726.out 0).trans rfl; have hcz54_1 : w49.cell? ⟨gb726, 1, none⟩ = some (.string (⟨#[]⟩ : ByteArray)) := (blk_cell BK726.out 1).trans rfl; have hcz54_2 : w49.cell? ⟨gb726, 2, none⟩ = some (.string (⟨#[]⟩ : ByteArray)) := (blk_cell BK726.out 2).trans rfl; have hfz54_0 := blk_frozen BK726.out 0; have hfz54_1 := blk_frozen BK726.out 1; have hfz54_2 := blk_frozen BK726.out 2))
  have n0_ : Aside0 ((((w49.setCell ⟨gb726, 0, none⟩ (.string t722)).setCell ⟨gb726, 1, none⟩ (.string t723)).setCell ⟨gb726, 2, none⟩ (.string t724)).heap[gb713]? = some (.cells #[.string a1_0, .string a1_1, .string a1_2] 32 (0, 0))) := ⟨by (with_reducible repeat (first | refine blk_drewN ?_ _ | refine blk_drew ?_ | refine blk_alloc ?_ _)); refine blk_far ?_ NB713_726.out _; (with_reducible repeat (first | refine blk_drewN ?_ _ | refine blk_drew ?_ | refine blk_alloc ?_ _)); refine blk_far ?_ NB713_726.out _; (with_reducible repeat (first | refine blk_drewN ?_ _ | refine blk_drew ?_ | refine blk_alloc ?_ _)); refine blk_far ?_ NB713_726.out _; (with_reducible repeat (first | refine blk_drewN ?_ _ | refine blk_drew ?_ | refine blk_alloc ?_ _)); exact BK713.out⟩
  have n1_ : Aside0 ((((w49.setCell ⟨gb726, 0, none⟩ (.string t722)).setCell ⟨gb726, 1, none⟩ (.string t723)).setCell ⟨gb726, 2, none⟩ (.string t724)).heap[gb714]? = some (.cells #[.string a2_0, .string a2_1, .string a2_2] 32 (0, 0))) := ⟨by (with_reducible repeat (first | refine blk_drewN ?_ _ | refine blk_drew ?_ | refine blk_alloc ?_ _)); refine blk_far ?_ NB714_726.out _; (with_reducible repeat (first | refine blk_drewN ?_ _ | refine blk_drew ?_ | refine blk_alloc ?_ _)); refine blk_far ?_ NB714_726.out _; (with_reducible repeat (first | refine blk_drewN ?_ _ | refine blk_drew ?_ | refine blk_alloc ?_ _)); refine blk_far ?_ NB714_726.out _; (with_reducible repeat (first | refine blk_drewN ?_ _ | refine blk_drew ?_ | refine blk_alloc ?_ _)); exact BK714.out⟩
  have n2_ : Aside0 ((((w49.setCell ⟨gb726, 0, none⟩ (.string t722)).setCell ⟨gb726, 1, none⟩ (.string t723)).setCell ⟨gb726, 2, none⟩ (.string t724)).heap[gb715]? = some (.cells #[.string a3_0, .string a3_1, .string a3_2, .string a3_3, .string a3_4, .string a3_5, .bool a3_6, .slice A3_7 l3_7.length c3_7] 24 (0, 0))) := ⟨by (with_reducible repeat (first | refine blk_drewN ?_ _ | refine blk_drew ?_ | refine blk_alloc ?_ _)); refine blk_far ?_ NB715_726.out _; (with_reducible repeat (first | refine blk_drewN ?_ _ | refine blk_drew ?_ | refine blk_alloc ?_ _)); refine blk_far ?_ NB715_726.out _; (with_reducible repeat (first | refine blk_drewN ?_ _ | refine blk_drew ?_ | refine blk_alloc ?_ _)); refine blk_far ?_ NB715_726.out _; (with_reducible repeat (first | refine blk_drewN ?_ _ | refine blk_drew ?_ | refine blk_alloc ?_ _)); exact BK715.out⟩
  have n3_ : Aside0 ((((w49.setCell ⟨gb726, 0, none⟩ (.string t722)).setCell ⟨gb726, 1, none⟩ (.string t723)).setCell ⟨gb726, 2, none⟩ (.string t724)).heap[gb721]? = some (.cells #[.string t717, .string t718, .string t719] 32 (0, 0))) := ⟨by (with_reducible repeat (first | refine blk_drewN ?_ _ | refine blk_drew ?_ | refine blk_alloc ?_ _)); refine blk_far ?_ NB721_726.out _; (with_reducible repeat (first | refine blk_drewN ?_ _ | refine blk_drew ?_ | refine blk_alloc ?_ _)); refine blk_far ?_ NB721_726.out _; (with_reducible repeat (first | refine blk_drewN ?_ _ | refine blk_drew ?_ | refine blk_alloc ?_ _)); refine blk_far ?_ NB721_726.out _; (with_reducible repeat (first | refine blk_drewN ?_ _ | refine blk_drew ?_ | refine blk_alloc ?_ _)); exact BK721.out⟩
  have n4_ : Aside0 ((((w49.setCell ⟨gb726, 0, none⟩ (.string t722)).setCell ⟨gb726, 1, none⟩ (.string t723)).setCell ⟨gb726, 2, none⟩ (.string t724)).heap[gb726]? = some (.cells #[.string t722, .string t723, .string t724] 32 (0, 0))) := ⟨bP BK726⟩
  have n5_ : Aside0 (Below w.heap.size w (((w49.setCell ⟨gb726, 0, none⟩ (.string t722)).setCell ⟨gb726, 1, none⟩ (.string t723)).setCell ⟨gb726, 2, none⟩ (.string t724))) := ⟨bG⟩
  (try clear BK713)
  (try clear BK714)
  (try clear BK715)
  (try clear BK721)
  (try clear BK726)
  (try clear HB)
  generalize (((w49.setCell ⟨gb726, 0, none⟩ (.string t722)).setCell ⟨gb726, 1, none⟩ (.string t723)).setCell ⟨gb726, 2, none⟩ (.string t724)) = w55 at n0_ n1_ n2_ n3_ n4_ n5_ ⊢
  have BK713 := n0_
  have BK714 := n1_
  have BK715 := n2_
  have BK721 := n3_
  have BK726 := n4_
  have HB := n5_
  clear n0_ n1_ n2_ n3_ n4_ n5_
  replace BK713 := Aside0.mk (blk_drew BK713.out)
  replace BK714 := Aside0.mk (blk_drew BK714.out)
  replace BK715 := Aside0.mk (blk_drew BK715.out)
  replace BK721 := Aside0.mk (blk_drew BK721.out)
  replace BK726 := Aside0.mk (blk_drew BK726.out)
  replace HB := Aside0.mk (below_drew1 HB.out)
  refine start_ (n := 49) (S := fun w' => w'.cell? ⟨gb713, 0, none⟩ = some (.string a1_0) ∧ w'.cell? ⟨gb713, 1, none⟩ = some (.string a1_1) ∧ w'.cell? ⟨gb713, 2, none⟩ = some (.string a1_2) ∧ w'.cell? ⟨gb721, 0, none⟩ = some (.string t717) ∧ w'.cell? ⟨gb721, 1, none⟩ = some (.string t718) ∧ w'.cell? ⟨gb721, 2, none⟩ = some (.string t719) ∧ w'.cell? ⟨gb726, 0, none⟩ = some (.string t722) ∧ w'.cell? ⟨gb726, 1, none⟩ = some (.string t723) ∧ w'.cell? ⟨gb726, 2, none⟩ = some (.string t724) ∧ w'.cell? ⟨gb715, 0, none⟩ = some (.string a3_0) ∧ w'.cell? ⟨gb715, 1, none⟩ = some (.string a3_1) ∧ w'.cell? ⟨gb715, 2, none⟩ = some (.string a3_2) ∧ w'.cell? ⟨gb715, 3, none⟩ = some (.string a3_3) ∧ w'.cell? ⟨gb715, 4, none⟩ = some (.string a3_4) ∧ w'.cell? ⟨gb715, 5, none⟩ = some (.string a3_5) ∧ w'.cell? ⟨gb715, 6, none⟩ = some (.bool a3_6) ∧ w'.cell? ⟨gb715, 7, none⟩ = some (.slice A3_7 l3_7.length c3_7) ∧ w'.cell? ⟨gb714, 0, none⟩ = some (.string a2_0) ∧ w'.cell? ⟨gb714, 1, none⟩ = some (.string a2_1) ∧ w'.cell? ⟨gb714, 2, none⟩ = some (.string a2_2)) (ds := []) #[false, false, false, false, false, false, false, false, false, false, false, false, false, false, false, false, false, false, false, false, false, false, false, false, false, false, false, false, false, false, false, false, false, false, false, false, false, false, false, false, false, false, false, false, false, false, false, false, false] (by kernel_rfl) rfl rfl ⟨(blk_cell BK713.out 0).trans rfl, (blk_cell BK713.out 1).trans rfl, (blk_cell BK713.out 2).trans rfl, (blk_cell BK721.out 0).trans rfl, (blk_cell BK721.out 1).trans rfl, (blk_cell BK721.out 2).trans rfl, (blk_cell BK726.out 0).trans rfl, (blk_cell BK726.out 1).trans rfl, (blk_cell BK726.out 2).trans rfl, (blk_cell BK715.out 0).trans rfl, (blk_cell BK715.out 1).trans rfl, (blk_cell BK715.out 2).trans rfl, (blk_cell BK715.out 3).trans rfl, (blk_cell BK715.out 4).trans rfl, (blk_cell BK715.out 5).trans rfl, (blk_cell BK715.out 6).trans rfl, (blk_cell BK715.out 7).trans rfl, (blk_cell BK714.out 0).trans rfl, (blk_cell BK714.out 1).trans rfl, (blk_cell BK714.out 2).trans rfl⟩ (fun hHeld => ?_); refine with_tabW newellaw09_CoordTells.tab5 newellaw09_CoordTells.bits5 (fun HT_ HW_ => ?_)
  generalize w55.drew = w56 at BK713 BK714 BK715 BK721 BK726 HB hHeld ⊢
  refine on 0 (some 39) HT_ (fun K hK => ?_)
  refine goes_ Tryd.func24 (by kernel_rfl) rfl #[] (by rfl) rfl rfl mA ?_
  with_reducible refine (newellaw09_awake.calls kj4  true _ (gS HG) A24.out).mono ?_
  rintro e w57 ⟨rfl, hb⟩
  refine ⟨_, rfl, ?_⟩
  replace BK713 := kB BK713 hb
  replace BK714 := kB BK714 hb
  replace BK715 := kB BK715 hb
  replace BK721 := kB BK721 hb
  replace BK726 := kB BK726 hb
  replace HB := sB hb
  (try clear hb)
  refine hK.out _ _ ⟨(blk_cell BK713.out 0).trans rfl, (blk_cell BK713.out 1).trans rfl, (blk_cell BK713.out 2).trans rfl, (blk_cell BK721.out 0).trans rfl, (blk_cell BK721.out 1).trans rfl, (blk_cell BK721.out 2).trans rfl, (blk_cell BK726.out 0).trans rfl, (blk_cell BK726.out 1).trans rfl, (blk_cell BK726.out 2).trans rfl, (blk_cell BK715.out 0).trans rfl, (blk_cell BK715.out 1).trans rfl, (blk_cell BK715.out 2).trans rfl, (blk_cell BK715.out 3).trans rfl, (blk_cell BK715.out 4).trans rfl, (blk_cell BK715.out 5).trans rfl, (blk_cell BK715.out 6).trans rfl, (blk_cell BK715.out 7).trans rfl, (blk_cell BK714.out 0).trans rfl, (blk_cell BK714.out 1).trans rfl, (blk_cell BK714.out 2).trans rfl⟩ (fun hHeld => ?_)
  clear hK K
  refine nz (some 39) ?_
  refine pz 1 (some 40) HT_ ?_
  refine pz 2 (some 41) HT_ ?_
  refine pz 4 (some 43) HT_ ?_
  refine on 3 (some 42) HT_ (fun K hK => ?_)
  refine goes_ Tryd.func23 (by kernel_rfl) rfl #[.string a0] (by rfl) rfl rfl mA ?_
  with_reducible refine (coord_Id.calls kj4 a0 t728 _ (gS HG) A26.out).mono ?_
  rintro e w' ⟨rfl, ⟨nd, rfl⟩⟩
  refine ⟨_, rfl, ?_⟩
  refine hK.out _ _ ⟨(blk_cell BK713.out 0).trans rfl, (blk_cell BK713.out 1).trans rfl, (blk_cell BK713.out 2).trans rfl, (blk_cell BK721.out 0).trans rfl, (blk_cell BK721.out 1).trans rfl, (blk_cell BK721.out 2).trans rfl, (blk_cell BK726.out 0).trans rfl, (blk_cell BK726.out 1).trans rfl, (blk_cell BK726.out 2).trans rfl, (blk_cell BK715.out 0).trans rfl, (blk_cell BK715.out 1).trans rfl, (blk_cell BK715.out 2).trans rfl, (blk_cell BK715.out 3).trans rfl, (blk_cell BK715.out 4).trans rfl, (blk_cell BK715.out 5).trans rfl, (blk_cell BK715.out 6).trans rfl, (blk_cell BK715.out 7).trans rfl, (blk_cell BK714.out 0).trans rfl, (blk_cell BK714.out 1).trans rfl, (blk_cell BK714.out 2).trans rfl⟩ (fun hHeld => ?_)
  clear hK K
  refine nz (some 42) ?_
  refine on 5 (some 44) HT_ (fun K hK => ?_)
  refine goes_ Tryd.func35 (by kernel_rfl) rfl #[.string a0] (by rfl) rfl rfl mA ?_
  with_reducible refine (newelref05_Id.calls kj4 a0 t729 _ (gS HG) A27.out).mono ?_
  rintro e w' ⟨rfl, ⟨nd, rfl⟩⟩
  refine ⟨_, rfl, ?_⟩
  refine hK.out _ _ ⟨(blk_cell BK713.out 0).trans rfl, (blk_cell BK713.out 1).trans rfl, (blk_cell BK713.out 2).trans rfl, (blk_cell BK721.out 0).trans rfl, (blk_cell BK721.out 1).trans rfl, (blk_cell BK721.out 2).trans rfl, (blk_cell BK726.out 0).trans rfl, (blk_cell BK726.out 1).trans rfl, (blk_cell BK726.out 2).trans rfl, (blk_cell BK715.out 0).trans rfl, (blk_cell BK715.out 1).trans rfl, (blk_cell BK715.out 2).trans rfl, (blk_cell BK715.out 3).trans rfl, (blk_cell BK715.out 4).trans rfl, (blk_cell BK715.out 5).trans rfl, (blk_cell BK715.out 6).trans rfl, (blk_cell BK715.out 7).trans rfl, (blk_cell BK714.out 0).trans rfl, (blk_cell BK714.out 1).trans rfl, (blk_cell BK714.out 2).trans rfl⟩ (fun hHeld => ?_)
  clear hK K
  refine nz (some 44) ?_
  refine pz 6 (some 45) HT_ ?_
  refine pz 7 (some 46) HT_ ?_
  refine pz 8 (some 47) HT_ ?_
  refine tm 9 (some 48) HT_ HW_ hHeld ?_
  refine tm 11 (some 50) HT_ HW_ hHeld ?_
  refine on 10 (some 49) HT_ (fun K hK => ?_)
  refine goes_ Tryd.func36 (by kernel_rfl) rfl #[.agg #[.string a1_0, .string a1_1, .string a1_2]] (by rfl) rfl rfl mA ?_
  with_reducible refine (coord_Right.calls kj4 a1_0 a1_1 a1_2 t730 _ (gS HG) A29.out).mono ?_
  rintro e w58 ⟨rfl, hb⟩
  refine ⟨_, rfl, ?_⟩
  replace BK713 := kB BK713 hb
  replace BK714 := kB BK714 hb
  replace BK715 := kB BK715 hb
  replace BK721 := kB BK721 hb
  replace BK726 := kB BK726 hb
  replace HB := sB hb
  (try clear hb)
  refine hK.out _ _ ⟨(blk_cell BK713.out 0).trans rfl, (blk_cell BK713.out 1).trans rfl, (blk_cell BK713.out 2).trans rfl, (blk_cell BK721.out 0).trans rfl, (blk_cell BK721.out 1).trans rfl, (blk_cell BK721.out 2).trans rfl, (blk_cell BK726.out 0).trans rfl, (blk_cell BK726.out 1).trans rfl, (blk_cell BK726.out 2).trans rfl, (blk_cell BK715.out 0).trans rfl, (blk_cell BK715.out 1).trans rfl, (blk_cell BK715.out 2).trans rfl, (blk_cell BK715.out 3).trans rfl, (blk_cell BK715.out 4).trans rfl, (blk_cell BK715.out 5).trans rfl, (blk_cell BK715.out 6).trans rfl, (blk_cell BK715.out 7).trans rfl, (blk_cell BK714.out 0).trans rfl, (blk_cell BK714.out 1).trans rfl, (blk_cell BK714.out 2).trans rfl⟩ (fun hHeld => ?_)
  clear hK K
  refine nz (some 49) ?_
  refine on 12 (some 51) HT_ (fun K hK => ?_)
  refine goes_ Tryd.func37 (by kernel_rfl) rfl #[.agg #[.string a1_0, .string a1_1, .string a1_2]] (by rfl) rfl rfl mA ?_
  with_reducible refine (newelref05_Coord.calls kj4 a1_0 a1_1 a1_2 t731 _ (gS HG) A30.out).mono ?_
  rintro e w59 ⟨rfl, hb⟩
  refine ⟨_, rfl, ?_⟩
  replace BK713 := kB BK713 hb
  replace BK714 := kB BK714 hb
  replace BK715 := kB BK715 hb
  replace BK721 := kB BK721 hb
  replace BK726 := kB BK726 hb
  replace HB := sB hb
  (try clear hb)
  refine hK.out _ _ ⟨(blk_cell BK713.out 0).trans rfl, (blk_cell BK713.out 1).trans rfl, (blk_cell BK713.out 2).trans rfl, (blk_cell BK721.out 0).trans rfl, (blk_cell BK721.out 1).trans rfl, (blk_cell BK721.out 2).trans rfl, (blk_cell BK726.out 0).trans rfl, (blk_cell BK726.out 1).trans rfl, (blk_cell BK726.out 2).trans rfl, (blk_cell BK715.out 0).trans rfl, (blk_cell BK715.out 1).trans rfl, (blk_cell BK715.out 2).trans rfl, (blk_cell BK715.out 3).trans rfl, (blk_cell BK715.out 4).trans rfl, (blk_cell BK715.out 5).trans rfl, (blk_cell BK715.out 6).trans rfl, (blk_cell BK715.out 7).trans rfl, (blk_cell BK714.out 0).trans rfl, (blk_cell BK714.out 1).trans rfl, (blk_cell BK714.out 2).trans rfl⟩ (fun hHeld => ?_)
  clear hK K
  refine nz (some 51) ?_
  refine pz 13 (some 52) HT_ ?_
  refine pz 14 (some 53) HT_ ?_
  refine pz 15 (some 54) HT_ ?_
  refine tm 16 (some 55) HT_ HW_ hHeld ?_
  refine tm 18 (some 57) HT_ HW_ hHeld ?_
  refine on 17 (some 56) HT_ (fun K hK => ?_)
  refine goes_ Tryd.func38 (by kernel_rfl) rfl #[.agg #[.string a1_0, .string a1_1, .string a1_2]] (by rfl) rfl rfl mA ?_
  with_reducible refine (coord_Text.calls a1_0 a1_1 a1_2 t732 _ (gS HG) A32.out).mono ?_
  rintro e w60 ⟨rfl, hb⟩
  refine ⟨_, rfl, ?_⟩
  replace BK713 := kB BK713 hb
  replace BK714 := kB BK714 hb
  replace BK715 := kB BK715 hb
  replace BK721 := kB BK721 hb
  replace BK726 := kB BK726 hb
  replace HB := sB hb
  (try clear hb)
  refine hK.out _ _ ⟨(blk_cell BK713.out 0).trans rfl, (blk_cell BK713.out 1).trans rfl, (blk_cell BK713.out 2).trans rfl, (blk_cell BK721.out 0).trans rfl, (blk_cell BK721.out 1).trans rfl, (blk_cell BK721.out 2).trans rfl, (blk_cell BK726.out 0).trans rfl, (blk_cell BK726.out 1).trans rfl, (blk_cell BK726.out 2).trans rfl, (blk_cell BK715.out 0).trans rfl, (blk_cell BK715.out 1).trans rfl, (blk_cell BK715.out 2).trans rfl, (blk_cell BK715.out 3).trans rfl, (blk_cell BK715.out 4).trans rfl, (blk_cell BK715.out 5).trans rfl, (blk_cell BK715.out 6).trans rfl, (blk_cell BK715.out 7).trans rfl, (blk_cell BK714.out 0).trans rfl, (blk_cell BK714.out 1).trans rfl, (blk_cell BK714.out 2).trans rfl⟩ (fun hHeld => ?_)
  clear hK K
  refine nz (some 56) ?_
  refine on 19 (some 58) HT_ (fun K hK => ?_)
  refine goes_ Tryd.func39 (by kernel_rfl) rfl #[.agg #[.string a1_0, .string a1_1, .string a1_2]] (by rfl) rfl rfl mA ?_
  with_reducible refine (newelref05_CoordText.calls a1_0 a1_1 a1_2 t733 _ (gS HG) A33.out).mono ?_
  rintro e w61 ⟨rfl, hb⟩
  refine ⟨_, rfl, ?_⟩
  replace BK713 := kB BK713 hb
  replace BK714 := kB BK714 hb
  replace BK715 := kB BK715 hb
  replace BK721 := kB BK721 hb
  replace BK726 := kB BK726 hb
  replace HB := sB hb
  (try clear hb)
  refine hK.out _ _ ⟨(blk_cell BK713.out 0).trans rfl, (blk_cell BK713.out 1).trans rfl, (blk_cell BK713.out 2).trans rfl, (blk_cell BK721.out 0).trans rfl, (blk_cell BK721.out 1).trans rfl, (blk_cell BK721.out 2).trans rfl, (blk_cell BK726.out 0).trans rfl, (blk_cell BK726.out 1).trans rfl, (blk_cell BK726.out 2).trans rfl, (blk_cell BK715.out 0).trans rfl, (blk_cell BK715.out 1).trans rfl, (blk_cell BK715.out 2).trans rfl, (blk_cell BK715.out 3).trans rfl, (blk_cell BK715.out 4).trans rfl, (blk_cell BK715.out 5).trans rfl, (blk_cell BK715.out 6).trans rfl, (blk_cell BK715.out 7).trans rfl, (blk_cell BK714.out 0).trans rfl, (blk_cell BK714.out 1).trans rfl, (blk_cell BK714.out 2).trans rfl⟩ (fun hHeld => ?_)
  clear hK K
  refine nz (some 58) ?_
  refine pz 20 (some 59) HT_ ?_
  refine pz 21 (some 60) HT_ ?_
  refine pz 22 (some 61) HT_ ?_
  refine tm 23 (some 62) HT_ HW_ hHeld ?_
  refine tm 24 (some 63) HT_ HW_ hHeld ?_
  refine pz 25 (some 64) HT_ ?_
  refine pz 26 (some 65) HT_ ?_
  refine pz 27 (some 66) HT_ ?_
  refine pz 28 (some 67) HT_ ?_
  refine pz 29 (some 68) HT_ ?_
  refine pz 30 (some 69) HT_ ?_
  refine pz 31 (some 70) HT_ ?_
  refine pz 32 (some 71) HT_ ?_
  refine tm 33 (some 72) HT_ HW_ hHeld ?_
  refine tm 35 (some 74) HT_ HW_ hHeld ?_
  refine on 34 (some 73) HT_ (fun K hK => ?_)
  refine goes_ Tryd.func25 (by kernel_rfl) rfl #[.agg #[.string a3_0, .string a3_1, .string a3_2, .string a3_3, .string a3_4, .string a3_5, .bool a3_6, .slice A3_7 l3_7.length c3_7]] (by rfl) rfl rfl mA ?_
  with_reducible refine (coord_Key.calls kj4 a3_0 a3_1 a3_2 a3_3 a3_4 a3_5 a3_6 _ _ l3_7 t734 _ ?side1 ?side2 (gS HG) A37.out).mono ?_
  (case side1 => repeat (first | exact (Kd.C_below HR3_7.out HB.out) | (with_reducible refine Kd.C_alloc ?_ _) | (with_reducible refine Kd.C_drewN ?_ _) | (with_reducible refine Kd.C_drew ?_)))
  (case side2 => exact HC3_7.out)
  rintro e w62 ⟨rfl, hb⟩
  refine ⟨_, rfl, ?_⟩
  replace BK713 := kB BK713 hb
  replace BK714 := kB BK714 hb
  replace BK715 := kB BK715 hb
  replace BK721 := kB BK721 hb
  replace BK726 := kB BK726 hb
  replace HB := sB hb
  (try clear hb)
  refine hK.out _ _ ⟨(blk_cell BK713.out 0).trans rfl, (blk_cell BK713.out 1).trans rfl, (blk_cell BK713.out 2).trans rfl, (blk_cell BK721.out 0).trans rfl, (blk_cell BK721.out 1).trans rfl, (blk_cell BK721.out 2).trans rfl, (blk_cell BK726.out 0).trans rfl, (blk_cell BK726.out 1).trans rfl, (blk_cell BK726.out 2).trans rfl, (blk_cell BK715.out 0).trans rfl, (blk_cell BK715.out 1).trans rfl, (blk_cell BK715.out 2).trans rfl, (blk_cell BK715.out 3).trans rfl, (blk_cell BK715.out 4).trans rfl, (blk_cell BK715.out 5).trans rfl, (blk_cell BK715.out 6).trans rfl, (blk_cell BK715.out 7).trans rfl, (blk_cell BK714.out 0).trans rfl, (blk_cell BK714.out 1).trans rfl, (blk_cell BK714.out 2).trans rfl⟩ (fun hHeld => ?_)
  clear hK K
  refine nz (some 73) ?_
  refine on 36 (some 75) HT_ (fun K hK => ?_)
  refine goes_ Tryd.func40 (by kernel_rfl) rfl #[.agg #[.string a3_0, .string a3_1, .string a3_2, .string a3_3, .string a3_4, .string a3_5, .bool a3_6, .slice A3_7 l3_7.length c3_7]] (by rfl) rfl rfl mA ?_
  with_reducible refine (newelref05_Key.calls a3_0 a3_1 a3_2 a3_3 a3_4 a3_5 a3_6 _ _ l3_7 t735 _ ?side1 ?side2 (gS HG) A38.out).mono ?_
  (case side1 => repeat (first | exact (Kd.C_below HR3_7.out HB.out) | (with_reducible refine Kd.C_alloc ?_ _) | (with_reducible refine Kd.C_drewN ?_ _) | (with_reducible refine Kd.C_drew ?_)))
  (case side2 => exact HC3_7.out)
  rintro e w63 ⟨rfl, hb⟩
  refine ⟨_, rfl, ?_⟩
  replace BK713 := kB BK713 hb
  replace BK714 := kB BK714 hb
  replace BK715 := kB BK715 hb
  replace BK721 := kB BK721 hb
  replace BK726 := kB BK726 hb
  replace HB := sB hb
  (try clear hb)
  refine hK.out _ _ ⟨(blk_cell BK713.out 0).trans rfl, (blk_cell BK713.out 1).trans rfl, (blk_cell BK713.out 2).trans rfl, (blk_cell BK721.out 0).trans rfl, (blk_cell BK721.out 1).trans rfl, (blk_cell BK721.out 2).trans rfl, (blk_cell BK726.out 0).trans rfl, (blk_cell BK726.out 1).trans rfl, (blk_cell BK726.out 2).trans rfl, (blk_cell BK715.out 0).trans rfl, (blk_cell BK715.out 1).trans rfl, (blk_cell BK715.out 2).trans rfl, (blk_cell BK715.out 3).trans rfl, (blk_cell BK715.out 4).trans rfl, (blk_cell BK715.out 5).trans rfl, (blk_cell BK715.out 6).trans rfl, (blk_cell BK715.out 7).trans rfl, (blk_cell BK714.out 0).trans rfl, (blk_cell BK714.out 1).trans rfl, (blk_cell BK714.out 2).trans rfl⟩ (fun hHeld => ?_)
  clear hK K
  refine nz (some 75) ?_
  refine pz 37 (some 76) HT_ ?_
  refine pz 38 (some 77) HT_ ?_
  refine pz 39 (some 78) HT_ ?_
  refine tm 40 (some 79) HT_ HW_ hHeld ?_
  refine tm 41 (some 80) HT_ HW_ hHeld ?_
  refine tm 43 (some 82) HT_ HW_ hHeld ?_
  refine tm 44 (some 83) HT_ HW_ hHeld ?_
  refine on 42 (some 81) HT_ (fun K hK => ?_)
  refine goes_ Tryd.func41 (by kernel_rfl) rfl #[.agg #[.string a1_0, .string a1_1, .string a1_2], .agg #[.string a2_0, .string a2_1, .string a2_2]] (by rfl) rfl rfl mA ?_
  with_reducible refine (coord_Less.calls kj4 a1_0 a1_1 a1_2 a2_0 a2_1 a2_2 t736 _ (gS HG) A40.out).mono ?_
  rintro e w64 ⟨rfl, hb⟩
  refine ⟨_, rfl, ?_⟩
  replace BK713 := kB BK713 hb
  replace BK714 := kB BK714 hb
  replace BK715 := kB BK715 hb
  replace BK721 := kB BK721 hb
  replace BK726 := kB BK726 hb
  replace HB := sB hb
  (try clear hb)
  refine hK.out _ _ ⟨(blk_cell BK713.out 0).trans rfl, (blk_cell BK713.out 1).trans rfl, (blk_cell BK713.out 2).trans rfl, (blk_cell BK721.out 0).trans rfl, (blk_cell BK721.out 1).trans rfl, (blk_cell BK721.out 2).trans rfl, (blk_cell BK726.out 0).trans rfl, (blk_cell BK726.out 1).trans rfl, (blk_cell BK726.out 2).trans rfl, (blk_cell BK715.out 0).trans rfl, (blk_cell BK715.out 1).trans rfl, (blk_cell BK715.out 2).trans rfl, (blk_cell BK715.out 3).trans rfl, (blk_cell BK715.out 4).trans rfl, (blk_cell BK715.out 5).trans rfl, (blk_cell BK715.out 6).trans rfl, (blk_cell BK715.out 7).trans rfl, (blk_cell BK714.out 0).trans rfl, (blk_cell BK714.out 1).trans rfl, (blk_cell BK714.out 2).trans rfl⟩ (fun hHeld => ?_)
  clear hK K
  refine nz (some 81) ?_
  refine on 45 (some 84) HT_ (fun K hK => ?_)
  refine goes_ Tryd.func42 (by kernel_rfl) rfl #[.agg #[.string a1_0, .string a1_1, .string a1_2], .agg #[.string a2_0, .string a2_1, .string a2_2]] (by rfl) rfl rfl mA ?_
  with_reducible refine (newelref05_CoordLess.calls kj4 a1_0 a1_1 a1_2 a2_0 a2_1 a2_2 t737 _ (gS HG) A41.out).mono ?_
  rintro e w65 ⟨rfl, hb⟩
  refine ⟨_, rfl, ?_⟩
  replace BK713 := kB BK713 hb
  replace BK714 := kB BK714 hb
  replace BK715 := kB BK715 hb
  replace BK721 := kB BK721 hb
  replace BK726 := kB BK726 hb
  replace HB := sB hb
  (try clear hb)
  refine hK.out _ _ ⟨(blk_cell BK713.out 0).trans rfl, (blk_cell BK713.out 1).trans rfl, (blk_cell BK713.out 2).trans rfl, (blk_cell BK721.out 0).trans rfl, (blk_cell BK721.out 1).trans rfl, (blk_cell BK721.out 2).trans rfl, (blk_cell BK726.out 0).trans rfl, (blk_cell BK726.out 1).trans rfl, (blk_cell BK726.out 2).trans rfl, (blk_cell BK715.out 0).trans rfl, (blk_cell BK715.out 1).trans rfl, (blk_cell BK715.out 2).trans rfl, (blk_cell BK715.out 3).trans rfl, (blk_cell BK715.out 4).trans rfl, (blk_cell BK715.out 5).trans rfl, (blk_cell BK715.out 6).trans rfl, (blk_cell BK715.out 7).trans rfl, (blk_cell BK714.out 0).trans rfl, (blk_cell BK714.out 1).trans rfl, (blk_cell BK714.out 2).trans rfl⟩ (fun hHeld => ?_)
  clear hK K
  refine nz (some 84) ?_
  refine pz 46 (some 85) HT_ ?_
  refine pz 47 (some 86) HT_ ?_
  refine pz 48 (some 8) HT_ ?_
  refine done_ (done_of HT_.out (by kernel_rfl)) ?_
  try go_wp2
  go_ret
  exact ⟨eA, bG⟩
end
end Go.Proofs.YtgdjfcmmpjcaaaaDoor.Q
namespace Go.Proofs.YtgdjfcmmpjcaaaaDoor.Q
open Go.RowKit Go.Proofs.YtgdjfcmmpjcaaaaDoorW.PrintWords Go.Proofs.YtgdjfcmmpjcaaaaDoorW.PrintLast Go.Proofs.YtgdjfcmmpjcaaaaDoorW.Own Go.Proofs.YtgdjfcmmpjcaaaaDoorW.PrintMore
set_option linter.unusedVariables false
set_option linter.unusedSimpArgs false
namespace Rd
open Go Go.RowKit
theorem add_more (a : Addr) (i j : Nat) : (a.add i).add j = a.add (i + j) := by
  by_cases hi : i = 0
  · subst hi
    simp [Addr.add]
  · by_cases hj : j = 0
    · subst hj
      simp [Addr.add]
    · have hij : ¬ (i + j = 0) := by omega
      simp [Addr.add, hi, hj]
      omega
def Opens {α : Type} (t : TypeId) (d : Kd α) (wf : α → Prop) (bulk : α → Nat) : Prop :=
  Tryd.prog.cellsOf t = d.sz ∧ ∀ (H : Type) (enc : TypeId × Value → H) (W : World) (fuel : Nat) (cs : List Value) (dd : DataW H) (ps : List MemPlace),
    DataW.trod enc Tryd.prog W 0 (fun _ => true) true fuel t cs = some (dd, ps) → ∃ x, d.K W x cs ∧ wf x ∧ bulk x ≤ Rows.uptoBulk dd
theorem opens_bool {t : TypeId} (hu : Tryd.prog.underlying t = some .bool) (hc : Tryd.prog.cellsOf t = 1) : Opens t Kd.bool (fun _ => True) (fun _ => 1) := by
  refine ⟨hc, fun H enc W fuel cs dd ps h => ?_⟩
  obtain ⟨n, rfl, hx⟩ := DataW.trod_bool hu h
  obtain ⟨rfl, rfl⟩ := Prod.mk.inj hx
  exact ⟨n, rfl, trivial, by simp [Rows.uptoBulk]⟩
theorem opens_string {t : TypeId} (hu : Tryd.prog.underlying t = some .string) (hc : Tryd.prog.cellsOf t = 1) : Opens t Kd.string (fun s => s.size ≤ maxLen) (fun s => s.size + 1) := by
  refine ⟨hc, fun H enc W fuel cs dd ps h => ?_⟩
  obtain ⟨s, rfl, hx, hw⟩ := DataW.trod_string hu h
  obtain ⟨rfl, rfl⟩ := Prod.mk.inj hx
  refine ⟨s, rfl, hw, ?_⟩
  have e : s.data.toList.length = s.size := by rw [Array.length_toList]; rfl
  simp only [Rows.uptoBulk]
  omega
def sumOf {α : Type} (f : α → Nat) (l : List α) : Nat := (l.map f).sum
theorem bulkAll_append {H : Type} (a b : List (DataW H)) : Rows.uptoBulkAll (a ++ b) = Rows.uptoBulkAll a + Rows.uptoBulkAll b := by
  induction a with
  | nil => simp [Rows.uptoBulkAll]
  | cons x l ih => simp only [List.cons_append, Rows.uptoBulkAll, ih]; omega
theorem opens_slice {α : Type} {t e : TypeId} {d : Kd α} {wf : α → Prop} {bulk : α → Nat} (hu : Tryd.prog.underlying t = some (.slice e)) (hc : Tryd.prog.cellsOf t = 1) (h : Opens e d wf bulk) :
    Opens t (Kd.slice e d) (fun xs => xs.length ≤ maxLen ∧ ∀ x ∈ xs, wf x) (fun xs => sumOf bulk xs + 1) := by
  refine ⟨hc, fun H enc W fuel cs dd ps hh => ?_⟩
  rcases DataW.trod_slice hu hh with ⟨rfl, hx⟩ | ⟨a, len, cap, elems, rest, n, rfl, rfl, hx, -, hlc, hcm, hel, he, -, -⟩
  · obtain ⟨rfl, rfl⟩ := Prod.mk.inj hx
    refine ⟨[], ?_, ?_, ?_⟩
    · exact ⟨none, 0, rfl, Nat.le_refl _, Kd.C_nil _ _⟩
    · refine ⟨?_, fun _ h => by simp at h⟩
      rw [List.length_nil]
      exact Nat.zero_le _
    · simp only [sumOf, List.map_nil, List.sum_nil, Rows.uptoBulk]
      exact Nat.le_refl _
  · have e1 := congrArg Prod.fst hx
    simp only at e1
    subst e1
    clear hx hh
    obtain ⟨hsz, hop⟩ := h
    have key : ∀ m, m ≤ elems.length → ∃ xs : List α, xs.length = m ∧ (∀ x ∈ xs, wf x) ∧ sumOf bulk xs ≤ Rows.uptoBulkAll ((elems.take m).map (·.1)) ∧
        ∀ j p, xs[j]? = some p → ∃ c, c.length = d.sz ∧ d.K W p c ∧ ∀ i u, c[i]? = some u → W.cell? (a.add (j * d.sz + i)) = some u := by
      intro m
      induction m with
      | zero => exact fun _ => ⟨[], rfl, fun _ h => by simp at h, Nat.zero_le _, fun j p h => by simp at h⟩
      | succ m ih =>
        intro hm
        obtain ⟨xs, h1, h2, h3, h4⟩ := ih (by omega)
        have hi := he m (by omega)
        rw [List.getElem?_eq_getElem (by omega : m < elems.length), hsz] at hi
        obtain ⟨c, hcells, ht⟩ := Option.bind_eq_some_iff.1 hi
        obtain ⟨x, hk, hwf, hb0⟩ := hop H enc W n c _ _ ht
        have hb : bulk x ≤ Rows.uptoBulk (elems[m]'(by omega)).1 := hb0
        clear hb0
        have hcl : c.length = d.sz ∧ ∀ i u, c[i]? = some u → W.cell? ((a.add (m * d.sz)).add i) = some u := by
          unfold World.cells? at hcells
          rw [if_pos (Nat.zero_le _)] at hcells
          refine ⟨by simpa using mapM_some_length hcells, fun i u hu => ?_⟩
          have hil : i < d.sz := by
            have := (List.getElem?_eq_some_iff.1 hu).1
            have e := mapM_some_length hcells
            rw [List.length_range] at e
            omega
          have := mapM_some_get hcells i i (by rw [List.getElem?_range hil])
          rw [hu] at this
          exact this
        refine ⟨xs ++ [x], by simp [h1], ?_, ?_, ?_⟩
        · intro y hy
          rcases List.mem_append.1 hy with hy | hy
          · exact h2 y hy
          · rw [List.mem_singleton.1 hy]; exact hwf
        · rw [List.take_succ_eq_append_getElem (by omega), List.map_append, bulkAll_append]
          simp only [sumOf, List.map_append, List.sum_append, List.map_cons, List.map_nil, List.sum_cons, List.sum_nil, Rows.uptoBulkAll] at h3 ⊢
          omega
        · intro j p hj
          rcases Nat.lt_or_ge j xs.length with hlt | hge
          · rw [List.getElem?_append_left hlt] at hj
            exact h4 j p hj
          · rw [List.getElem?_append_right hge] at hj
            have hj0 : j - xs.length = 0 := by
              rcases Nat.eq_zero_or_pos (j - xs.length) with h | h
              · exact h
              · rw [List.getElem?_eq_none (by simp; omega)] at hj; simp at hj
            rw [hj0] at hj
            obtain rfl : x = p := by simpa using hj
            obtain rfl : j = m := by omega
            exact ⟨c, hcl.1, hk, fun i u hu => by have z := hcl.2 i u hu; rw [add_more] at z; exact z⟩
    obtain ⟨xs, h1, h2, h3, h4⟩ := key elems.length (Nat.le_refl _)
    rw [List.take_length] at h3
    refine ⟨xs, ⟨some a, cap, by rw [h1, hel], by omega, ⟨rfl, ?_, fun _ => ⟨a, rfl, h4⟩⟩⟩, ⟨by omega, h2⟩, ?_⟩
    · unfold maxLen at hcm
      omega
    · simp only [Rows.uptoBulk]
      omega
def OpensF {β : Type} (fs : List Field) (off : Nat) (d : Kd β) (wf : β → Prop) (bulk : β → Nat) : Prop :=
  ∀ (H : Type) (enc : TypeId × Value → H) (W : World) (n : Nat) (cs : List Value) (xs : List (DataW H × List MemPlace)), xs.length = fs.length →
    (∀ (i : Nat) (f : Field), fs[i]? = some f → DataW.trod enc Tryd.prog W 0 (fun _ => true) true n f.type ((cs.drop f.offset).take (Tryd.prog.cellsOf f.type)) = xs[i]?) → cs.length = off + d.sz →
    ∃ x, d.K W x (cs.drop off) ∧ wf x ∧ bulk x ≤ Rows.uptoBulkAll (xs.map (·.1))
theorem OpensF.single {α : Type} {f : Field} {off : Nat} {d : Kd α} {wf : α → Prop} {bulk : α → Nat} (ho : f.offset = off) (h : Opens f.type d wf bulk) : OpensF [f] off d wf bulk := by
  intro H enc W n cs xs hl ht hc
  obtain ⟨hsz, hop⟩ := h
  obtain ⟨x0, rfl⟩ : ∃ x0, xs = [x0] := by
    match xs, hl with
    | [x0], _ => exact ⟨x0, rfl⟩
  have h0 := ht 0 f rfl
  rw [ho, hsz, List.take_of_length_le (by rw [List.length_drop]; omega)] at h0
  obtain ⟨x, hk, hw, hb⟩ := hop H enc W n _ _ _ h0
  exact ⟨x, hk, hw, by simpa [Rows.uptoBulkAll] using hb⟩
theorem OpensF.cons {α β : Type} {f : Field} {fs : List Field} {off off' : Nat} {a : Kd α} {b : Kd β} {wf : α → Prop} {bulk : α → Nat} {wf' : β → Prop} {bulk' : β → Nat} (ho : f.offset = off) (ho' : off' = off + a.sz) (h : Opens f.type a wf bulk) (hr : OpensF fs off' b wf' bulk') :
    OpensF (f :: fs) off (Kd.pair a b) (fun x => wf x.1 ∧ wf' x.2) (fun x => bulk x.1 + bulk' x.2) := by
  intro H enc W n cs xs hl ht hc
  subst ho'
  obtain ⟨hsz, hop⟩ := h
  obtain ⟨x0, xs', rfl⟩ : ∃ x0 xs', xs = x0 :: xs' := by
    match xs, hl with
    | x0 :: xs', _ => exact ⟨x0, xs', rfl⟩
  have h0 := ht 0 f rfl
  rw [ho, hsz] at h0
  obtain ⟨x, hk, hw, hb⟩ := hop H enc W n _ _ _ h0
  have hc' : cs.length = off + a.sz + b.sz := by
    have e : (Kd.pair a b).sz = a.sz + b.sz := rfl
    rw [e] at hc
    omega
  obtain ⟨y, hk', hw', hb'⟩ := hr H enc W n cs xs' (by simpa using hl) (fun i g hg => by have := ht (i + 1) g (by simpa using hg); simpa using this) hc'
  refine ⟨(x, y), ⟨(cs.drop off).take a.sz, cs.drop (off + a.sz), ?_, hk, hk'⟩, ⟨hw, hw'⟩, ?_⟩
  · rw [← List.drop_drop, List.take_append_drop]
  · simp only [List.map_cons, Rows.uptoBulkAll]
    omega
theorem opens_struct {α β : Type} {t : TypeId} {fs : Array Field} {d : Kd β} {wf : β → Prop} {bulk : β → Nat} (hu : Tryd.prog.underlying t = some (.struct fs)) (h : OpensF fs.toList 0 d wf bulk) (hc : Tryd.prog.cellsOf t = d.sz) (f : α → β) (g : β → α) (hg : ∀ x, f (g x) = x) :
    Opens t (Kd.iso d f) (fun x => wf (f x)) (fun x => bulk (f x) + 1) := by
  refine ⟨hc, fun H enc W fuel cs dd ps hh => ?_⟩
  obtain ⟨xs, n, rfl, hx, hcl, hlen, ht⟩ := DataW.trod_struct hu hh
  obtain ⟨rfl, rfl⟩ := Prod.mk.inj hx
  obtain ⟨x, hk, hw, hb⟩ := h H enc W n cs xs (by simpa using hlen) (fun i f hf => ht i f (by simpa using hf)) (by omega)
  refine ⟨g x, ?_, ?_, ?_⟩
  · show d.K W (f (g x)) cs
    rw [hg]
    exact hk
  · show wf (f (g x))
    rw [hg]
    exact hw
  · show bulk (f (g x)) + 1 ≤ _
    rw [hg]
    simp only [Rows.uptoBulk]
    omega
theorem glob {W : World} (h : W.ShapedOpen Tryd.prog) : Glob W :=
  cell_of_shapedOpen_int (g := 0) (t := 3) (zero := #[.int .i64 0]) (k := .i64) h (of_decide_eq_true (by kernel_rfl)) (by kernel_rfl) rfl (by kernel_rfl) (by kernel_rfl) Tryd.underlying3
end Rd
end Go.Proofs.YtgdjfcmmpjcaaaaDoor.Q
namespace Go.Proofs.YtgdjfcmmpjcaaaaDoor.Q
open Go.RowKit Go.Proofs.YtgdjfcmmpjcaaaaDoorW.PrintWords Go.Proofs.YtgdjfcmmpjcaaaaDoorW.PrintLast Go.Proofs.YtgdjfcmmpjcaaaaDoorW.Own Go.Proofs.YtgdjfcmmpjcaaaaDoorW.PrintMore
set_option linter.unusedVariables false
set_option linter.unusedSimpArgs false
def wf183 (x : S183) : Prop := (x.f0.size ≤ maxLen ∧ x.f1.size ≤ maxLen)
def bulk183 (x : S183) : Nat := ((x.f0.size + 1) + (x.f1.size + 1)) + 1
theorem opens183 : Rd.Opens 183 k183 wf183 bulk183 := by
  have h := Rd.opens_struct Tryd.underlying183 (show Rd.OpensF _ 0 _ _ _ from (Rd.OpensF.cons (off' := 1) rfl (by kernel_rfl) (Rd.opens_string Tryd.underlying9 (by kernel_rfl)) (Rd.OpensF.single rfl (Rd.opens_string Tryd.underlying9 (by kernel_rfl))))) (by kernel_rfl) (fun x : S183 => (x.f0, x.f1)) (fun x => ⟨x.1, x.2⟩) (fun _ => rfl)
  exact h
theorem opensP24 : Rd.Opens 24 (Kd.iso (Kd.pair Kd.string (Kd.pair Kd.string (Kd.pair Kd.string (Kd.pair Kd.string (Kd.pair Kd.string (Kd.pair Kd.string (Kd.pair Kd.bool (Kd.slice 183 k183)))))))) (fun x => x)) (fun x => (x.1.size ≤ maxLen ∧ (x.2.1.size ≤ maxLen ∧ (x.2.2.1.size ≤ maxLen ∧ (x.2.2.2.1.size ≤ maxLen ∧ (x.2.2.2.2.1.size ≤ maxLen ∧ (x.2.2.2.2.2.1.size ≤ maxLen ∧ (True ∧ (x.2.2.2.2.2.2.2.length ≤ maxLen ∧ ∀ x_ ∈ x.2.2.2.2.2.2.2, wf183 x_))))))))) (fun x => ((x.1.size + 1) + ((x.2.1.size + 1) + ((x.2.2.1.size + 1) + ((x.2.2.2.1.size + 1) + ((x.2.2.2.2.1.size + 1) + ((x.2.2.2.2.2.1.size + 1) + (1 + (Rd.sumOf (fun x_ => bulk183 x_) x.2.2.2.2.2.2.2 + 1)))))))) + 1) :=
  Rd.opens_struct (t := 24) Tryd.underlying24 (show Rd.OpensF _ 0 _ _ _ from (Rd.OpensF.cons (off' := 1) rfl (by kernel_rfl) (Rd.opens_string Tryd.underlying9 (by kernel_rfl)) (Rd.OpensF.cons (off' := 2) rfl (by kernel_rfl) (Rd.opens_string Tryd.underlying9 (by kernel_rfl)) (Rd.OpensF.cons (off' := 3) rfl (by kernel_rfl) (Rd.opens_string Tryd.underlying9 (by kernel_rfl)) (Rd.OpensF.cons (off' := 4) rfl (by kernel_rfl) (Rd.opens_string Tryd.underlying9 (by kernel_rfl)) (Rd.OpensF.cons (off' := 5) rfl (by kernel_rfl) (Rd.opens_string Tryd.underlying9 (by kernel_rfl)) (Rd.OpensF.cons (off' := 6) rfl (by kernel_rfl) (Rd.opens_string Tryd.underlying9 (by kernel_rfl)) (Rd.OpensF.cons (off' := 7) rfl (by kernel_rfl) (Rd.opens_bool Tryd.underlying4 (by kernel_rfl)) (Rd.OpensF.single rfl (Rd.opens_slice Tryd.underlying22 (by kernel_rfl) opens183)))))))))) (by kernel_rfl) (fun x => x) (fun x => x) (fun _ => rfl)
theorem opensP32 : Rd.Opens 32 (Kd.iso (Kd.pair Kd.string (Kd.pair Kd.string Kd.string)) (fun x => x)) (fun x => (x.1.size ≤ maxLen ∧ (x.2.1.size ≤ maxLen ∧ x.2.2.size ≤ maxLen))) (fun x => ((x.1.size + 1) + ((x.2.1.size + 1) + (x.2.2.size + 1))) + 1) :=
  Rd.opens_struct (t := 32) Tryd.underlying32 (show Rd.OpensF _ 0 _ _ _ from (Rd.OpensF.cons (off' := 1) rfl (by kernel_rfl) (Rd.opens_string Tryd.underlying9 (by kernel_rfl)) (Rd.OpensF.cons (off' := 2) rfl (by kernel_rfl) (Rd.opens_string Tryd.underlying9 (by kernel_rfl)) (Rd.OpensF.single rfl (Rd.opens_string Tryd.underlying9 (by kernel_rfl)))))) (by kernel_rfl) (fun x => x) (fun x => x) (fun _ => rfl)
def newellaw09_CoordTells.Pure : Prop := ∀ (a0 : ByteArray) (a1_0 : ByteArray) (a1_1 : ByteArray) (a1_2 : ByteArray) (a2_0 : ByteArray) (a2_1 : ByteArray) (a2_2 : ByteArray) (a3_0 : ByteArray) (a3_1 : ByteArray) (a3_2 : ByteArray) (a3_3 : ByteArray) (a3_4 : ByteArray) (a3_5 : ByteArray) (a3_6 : Bool) (l3_7 : List (S183)), (a0.size ≤ 140737488351232) → (a1_0.size ≤ 140737488351232) → (a1_1.size ≤ 140737488351232) → (a1_2.size ≤ 140737488351232) → (a2_0.size ≤ 140737488351232) → (a2_1.size ≤ 140737488351232) → (a2_2.size ≤ 140737488351232) → (a3_0.size ≤ 140737488351232) → (a3_1.size ≤ 140737488351232) → (a3_2.size ≤ 140737488351232) → (a3_3.size ≤ 140737488351232) → (a3_4.size ≤ 140737488351232) → (a3_5.size ≤ 140737488351232) → ((l3_7.length ≤ maxLen ∧ ∀ x_ ∈ l3_7, wf183 x_)) → ∃ k, newellaw09_CoordTells.f k a0 a1_0 a1_1 a1_2 a2_0 a2_1 a2_2 a3_0 a3_1 a3_2 a3_3 a3_4 a3_5 a3_6 l3_7 = some true
end Go.Proofs.YtgdjfcmmpjcaaaaDoor.Q
namespace Go.Proofs.YtgdjfcmmpjcaaaaDoor.Q
open Go.RowKit Go.Proofs.YtgdjfcmmpjcaaaaDoorW.PrintWords Go.Proofs.YtgdjfcmmpjcaaaaDoorW.PrintLast Go.Proofs.YtgdjfcmmpjcaaaaDoorW.Own Go.Proofs.YtgdjfcmmpjcaaaaDoorW.PrintMore
attribute [local go_sem] max2_int min2_int max_two min_two max_three min_three max_four min_four   -- for this text's walks alone
set_option linter.unusedVariables false
set_option linter.unusedSimpArgs false
set_option maxHeartbeats 20000000
set_option maxRecDepth 100000
end Go.Proofs.YtgdjfcmmpjcaaaaDoor.Q
namespace Go.Proofs.YtgdjfcmmpjcaaaaDoor.Q
open Go.RowKit Go.Proofs.YtgdjfcmmpjcaaaaDoorW.PrintWords Go.Proofs.YtgdjfcmmpjcaaaaDoorW.PrintLast Go.Proofs.YtgdjfcmmpjcaaaaDoorW.Own Go.Proofs.YtgdjfcmmpjcaaaaDoorW.PrintMore
attribute [local go_sem] max2_int min2_int max_two min_two max_three min_three max_four min_four   -- for this text's walks alone
set_option linter.unusedVariables false
set_option linter.unusedSimpArgs false
end Go.Proofs.YtgdjfcmmpjcaaaaDoor.Q
namespace Go.Proofs.YtgdjfcmmpjcaaaaDoor.Q
open Go.RowKit Go.Proofs.YtgdjfcmmpjcaaaaDoorW.PrintWords Go.Proofs.YtgdjfcmmpjcaaaaDoorW.PrintLast Go.Proofs.YtgdjfcmmpjcaaaaDoorW.Own Go.Proofs.YtgdjfcmmpjcaaaaDoorW.PrintMore
attribute [local go_sem] max2_int min2_int max_two min_two max_three min_three max_four min_four   -- for this text's walks alone
set_option linter.unusedVariables false
set_option linter.unusedSimpArgs false
set_option maxHeartbeats 20000000
set_option maxRecDepth 100000
end Go.Proofs.YtgdjfcmmpjcaaaaDoor.Q
namespace Go.Proofs.YtgdjfcmmpjcaaaaDoor.Q
open Go.RowKit Go.Proofs.YtgdjfcmmpjcaaaaDoorW.PrintWords Go.Proofs.YtgdjfcmmpjcaaaaDoorW.PrintLast Go.Proofs.YtgdjfcmmpjcaaaaDoorW.Own Go.Proofs.YtgdjfcmmpjcaaaaDoorW.PrintMore
attribute [local go_sem] max2_int min2_int max_two min_two max_three min_three max_four min_four   -- for this text's walks alone
set_option linter.unusedVariables false
set_option linter.unusedSimpArgs false
end Go.Proofs.YtgdjfcmmpjcaaaaDoor.Q
namespace Go.Proofs.YtgdjfcmmpjcaaaaDoorW.Px
open Go
theorem ba_ext {a b : ByteArray} (h : a.data.toList = b.data.toList) : a = b := by
  cases a; cases b; simp at h; subst h; rfl
theorem ba_size (a : ByteArray) : a.size = a.data.toList.length := Array.length_toList.symm
theorem ba_append (a b : ByteArray) : (a ++ b).data.toList = a.data.toList ++ b.data.toList := by simp [ByteArray.data_append]
theorem ba_toList (a : ByteArray) : a.toList = a.data.toList := Lib.toList_data a
theorem ba_extract (a : ByteArray) (i j : Nat) : (a.extract i j).data.toList = (a.data.toList.take j).drop i := by
  simp [ByteArray.data_extract, List.extract_eq_take_drop, List.drop_take]
end Go.Proofs.YtgdjfcmmpjcaaaaDoorW.Px
namespace Go.Proofs.YtgdjfcmmpjcaaaaDoor.Pure
open Go Go.RowKit Go.Proofs.YtgdjfcmmpjcaaaaDoor.Q Go.Proofs.YtgdjfcmmpjcaaaaDoorW.PrintWords Go.Proofs.YtgdjfcmmpjcaaaaDoorW.PrintLast Go.Proofs.YtgdjfcmmpjcaaaaDoorW.Own Go.Proofs.YtgdjfcmmpjcaaaaDoorW.PrintMore Go.Proofs.YtgdjfcmmpjcaaaaDoorW.Px
set_option linter.unusedSimpArgs false
set_option linter.unusedVariables false
def sign (n : Int) : Bool := decide (33 ≤ n) && decide (n ≤ 126) && n != 91 && n != 93 && n != 40 && n != 41 && n != 44
def sign8 (c : UInt8) : Bool := sign (c.toNat : Int)
theorem bad_all : (List.range 256).all (fun n => words_Right_1.f (n : Int) == some (!sign (n : Int))) = true := by kernel_rfl
theorem bad_told (n : Int) (h0 : 0 ≤ n) (h1 : n < 256) : words_Right_1.f n = some (!sign n) := by
  have := List.all_eq_true.1 bad_all n.toNat (by simp; omega)
  rw [Int.toNat_of_nonneg h0] at this
  exact beq_iff_eq.1 this
theorem find_loop (s : ByteArray) (hs : s.size ≤ 1000000) : ∀ (d i k : Nat), i + d = s.size → slices_IndexFunc_byte_byte.l0 (k + d + 1) (bytesOf s) (s.size : Int) (i : Int) = some (if (s.data.toList.drop i).all sign8 then -1 else ((i + ((s.data.toList.drop i).takeWhile sign8).length : Nat) : Int)) := by
  intro d
  induction d with
  | zero =>
    intro i k h
    rw [slices_IndexFunc_byte_byte.l0, if_neg (by omega), show s.data.toList.drop i = [] from List.drop_eq_nil_of_le (by rw [← ba_size]; omega)]
    rfl
  | succ d ih =>
    intro i k h
    have hw : wrap64 ((i : Int) + 1) = ((i + 1 : Nat) : Int) := by unfold wrap64; omega
    have hl : i < s.data.toList.length := by rw [← ba_size]; omega
    have hr : rd (bytesOf s) (i : Int) = (((s.data.toList[i]'hl).toNat : Nat) : Int) := by
      unfold rd bytesOf
      simp [List.getD_eq_getElem?_getD, List.getElem?_map, List.getElem?_eq_getElem hl]
    have hc := (s.data.toList[i]'hl).toNat_lt
    have p0 : (i : Int) < (s.size : Int) := by omega
    have p1 : (0 : Int) ≤ (i : Int) := by omega
    have p2 : (i : Int) < ((bytesOf s).length : Int) := by rw [bytesOf_length]; omega
    rw [show k + (d + 1) + 1 = (k + d + 1) + 1 from by omega, slices_IndexFunc_byte_byte.l0, if_pos p0, if_pos p1, if_pos p2, hr, bad_told _ (by omega) (by omega), Option.bind_some, List.drop_eq_getElem_cons hl]
    by_cases c : sign8 (s.data.toList[i]'hl) = true
    · rw [if_neg (by unfold sign8 at c; rw [c]; decide), hw, ih _ _ (by omega), List.all_cons, c, Bool.true_and, List.takeWhile_cons, if_pos c, List.length_cons]
      congr 1
      by_cases e : (s.data.toList.drop (i + 1)).all sign8 = true
      · rw [if_pos e, if_pos e]
      · rw [if_neg e, if_neg e]; omega
    · have cf : sign8 (s.data.toList[i]'hl) = false := by simpa using c
      rw [if_pos (by unfold sign8 at cf; rw [cf]; rfl), List.all_cons, cf, Bool.false_and, List.takeWhile_cons, if_neg c]
      simp
def rightB (l : List UInt8) : Bool := decide (1 ≤ l.length) && decide (l.length ≤ 100) && l.all sign8
theorem right_told (s : ByteArray) (k : Nat) (hk : 101 ≤ k) : words_Right.f k s = some (rightB s.data.toList) := by
  unfold words_Right.f rightB
  have hz := ba_size s
  by_cases h : 1 ≤ s.size ∧ s.size ≤ 100
  · rw [if_pos h, decide_eq_true (show 1 ≤ s.data.toList.length by omega), decide_eq_true (show s.data.toList.length ≤ 100 by omega)]
    unfold slices_ContainsFunc_byte_byte.f slices_IndexFunc_byte_byte.f
    have := find_loop s (by omega) s.size 0 (k - s.size - 1) (by omega)
    rw [show k - s.size - 1 + s.size + 1 = k from by omega, show ((0 : Nat) : Int) = 0 from rfl, List.drop_zero] at this
    rw [bytesOf_length, this, Option.bind_some, Option.bind_some]
    by_cases e : s.data.toList.all sign8 = true
    · rw [if_pos e, e]; rfl
    · rw [if_neg e, Bool.eq_false_iff.2 e, decide_eq_true (by omega)]; rfl
  · rw [if_neg h]
    by_cases a : 1 ≤ s.size
    · rw [decide_eq_false (show ¬ s.data.toList.length ≤ 100 by omega)]; simp
    · rw [decide_eq_false (show ¬ 1 ≤ s.data.toList.length by omega)]; simp
end Go.Proofs.YtgdjfcmmpjcaaaaDoor.Pure
namespace Go.Proofs.YtgdjfcmmpjcaaaaDoor.Q
open Go.RowKit Go.Proofs.YtgdjfcmmpjcaaaaDoorW.PrintWords Go.Proofs.YtgdjfcmmpjcaaaaDoorW.PrintLast Go.Proofs.YtgdjfcmmpjcaaaaDoorW.Own Go.Proofs.YtgdjfcmmpjcaaaaDoorW.PrintMore
attribute [local go_sem] max2_int min2_int max_two min_two max_three min_three max_four min_four   -- for this text's walks alone
set_option linter.unusedVariables false
set_option linter.unusedSimpArgs false
set_option maxHeartbeats 20000000
set_option maxRecDepth 100000
end Go.Proofs.YtgdjfcmmpjcaaaaDoor.Q
namespace Go.Proofs.YtgdjfcmmpjcaaaaDoor.Q
open Go.RowKit Go.Proofs.YtgdjfcmmpjcaaaaDoorW.PrintWords Go.Proofs.YtgdjfcmmpjcaaaaDoorW.PrintLast Go.Proofs.YtgdjfcmmpjcaaaaDoorW.Own Go.Proofs.YtgdjfcmmpjcaaaaDoorW.PrintMore
attribute [local go_sem] max2_int min2_int max_two min_two max_three min_three max_four min_four   -- for this text's walks alone
set_option linter.unusedVariables false
set_option linter.unusedSimpArgs false
theorem eqA38 (d : Nat) (w : World) (x0 y0 : Int) (x1 y1 : ByteArray) :
    (Op.equalIn (d + 2) 38 (.agg #[.int .i64 x0, .string x1]) (.agg #[.int .i64 y0, .string y1])).run Tryd.prog w = .ok (x0 == y0 && (x1.toList == y1.toList)) w := by
  refine eqA_of Tryd.underlying38 (by kernel_rfl) ?_
  refine eqf_cons (by rfl) (by go_simp; rfl) (by go_simp; rfl) (by go_simp) ?_
  exact eqf_last (by rfl) (by go_simp; rfl) (by go_simp; rfl) (by go_simp)
end Go.Proofs.YtgdjfcmmpjcaaaaDoor.Q
namespace Go.Proofs.YtgdjfcmmpjcaaaaDoor.Q
open Go.RowKit Go.Proofs.YtgdjfcmmpjcaaaaDoorW.PrintWords Go.Proofs.YtgdjfcmmpjcaaaaDoorW.PrintLast Go.Proofs.YtgdjfcmmpjcaaaaDoorW.Own Go.Proofs.YtgdjfcmmpjcaaaaDoorW.PrintMore
attribute [local go_sem] max2_int min2_int max_two min_two max_three min_three max_four min_four   -- for this text's walks alone
set_option linter.unusedVariables false
set_option linter.unusedSimpArgs false
set_option maxHeartbeats 20000000
set_option maxRecDepth 100000
section
attribute [local go_sem high] eqA38
end
end Go.Proofs.YtgdjfcmmpjcaaaaDoor.Q
namespace Go.Proofs.YtgdjfcmmpjcaaaaDoor.Pure
open Go Go.Proofs.YtgdjfcmmpjcaaaaDoorW.Px
set_option linter.unusedSimpArgs false
set_option linter.unusedVariables false
structure Pt where
  tx : List UInt8
  da : Bool
  nu : Bool
def isD (c : UInt8) : Bool := decide (48 ≤ c.toNat) && decide (c.toNat ≤ 57)
def lowB (c : UInt8) : UInt8 := if 65 ≤ c.toNat ∧ c.toNat ≤ 90 then c + 32 else c
def likeP (t : List UInt8) (c : UInt8) : Bool := match t.getLast? with
  | none => true
  | some d => isD d == isD c
def stepP (r : List Pt × Pt) (c : UInt8) : List Pt × Pt :=
  if c == 46 || c == 45 then (r.1 ++ [r.2], ⟨[], c == 45, false⟩)
  else if likeP r.2.tx c then (r.1, ⟨r.2.tx ++ [c], r.2.da, r.2.nu⟩)
  else (r.1 ++ [⟨r.2.tx, r.2.da, isD c⟩], ⟨[c], true, false⟩)
def runP (r : List Pt × Pt) (l : List UInt8) : List Pt × Pt := l.foldl stepP r
def allP (r : List Pt × Pt) : List Pt := r.1 ++ [r.2]
def p0 : List Pt × Pt := ([], ⟨[], false, false⟩)
def partsL (l : List UInt8) : List Pt := allP (runP p0 l)
abbrev Wl := Int × List UInt8
abbrev tA : List UInt8 := [97, 108, 112, 104, 97]
abbrev tB : List UInt8 := [98, 101, 116, 97]
abbrev tM : List UInt8 := [109, 105, 108, 101, 115, 116, 111, 110, 101]
abbrev tRc : List UInt8 := [114, 99]
abbrev tCr : List UInt8 := [99, 114]
abbrev tS : List UInt8 := [115, 110, 97, 112, 115, 104, 111, 116]
abbrev tGa : List UInt8 := [103, 97]
abbrev tFi : List UInt8 := [102, 105, 110, 97, 108]
abbrev tRe : List UInt8 := [114, 101, 108, 101, 97, 115, 101]
abbrev tSp : List UInt8 := [115, 112]
def kindL (t : List UInt8) (nu : Bool) : Int :=
  if t = tA ∨ nu = true ∧ t = [97] then 1
  else if t = tB ∨ nu = true ∧ t = [98] then 2
  else if t = tM ∨ nu = true ∧ t = [109] then 3
  else if t = tRc ∨ t = tCr then 4
  else if t = tS then 5
  else if t = tGa ∨ t = tFi ∨ t = tRe then 6
  else if t = tSp then 7
  else 8
def numL (t : List UInt8) (da : Bool) : Wl :=
  if t.dropWhile (· == 48) = [] then (6, []) else if da = true then (9, t.dropWhile (· == 48)) else (10, t.dropWhile (· == 48))
def letL (t : List UInt8) (nu : Bool) : Wl := if kindL t nu = 8 then (8, t) else (kindL t nu, [])
def numb (t : List UInt8) : Bool := match t with
  | [] => true
  | c :: _ => isD c
def wordL (p : Pt) : Wl := if numb p.tx = true then numL p.tx p.da else letL p.tx p.nu
def aheadL : List Wl → Bool
  | [] => false
  | w :: _ => w.1 == 6 || w.1 == 10
def pushL (w : Wl) (out : List Wl) : List Wl := if w.1 = 6 ∧ aheadL out = false then out else w :: out
def outL (l : List Pt) : List Wl := (l.map wordL).foldr pushL []
def splitL (l : List UInt8) : List Wl := outL (partsL (l.map lowB))
end Go.Proofs.YtgdjfcmmpjcaaaaDoor.Pure
namespace Go.Proofs.YtgdjfcmmpjcaaaaDoor.Pure
open Go Go.RowKit Go.Proofs.YtgdjfcmmpjcaaaaDoor.Q Go.Proofs.YtgdjfcmmpjcaaaaDoorW.PrintWords Go.Proofs.YtgdjfcmmpjcaaaaDoorW.PrintLast Go.Proofs.YtgdjfcmmpjcaaaaDoorW.Own Go.Proofs.YtgdjfcmmpjcaaaaDoorW.PrintMore Go.Proofs.YtgdjfcmmpjcaaaaDoorW.Px
set_option linter.unusedSimpArgs false
set_option linter.unusedVariables false
def ts (l : List UInt8) : ByteArray := ⟨l.toArray⟩
theorem ts_list (l : List UInt8) : (ts l).data.toList = l := rfl
theorem ts_toList (l : List UInt8) : (ts l).toList = l := by rw [ba_toList]; rfl
theorem ts_data (a : ByteArray) : ts a.data.toList = a := ba_ext rfl
theorem ts_size (l : List UInt8) : (ts l).size = l.length := by rw [ba_size]; rfl
theorem ts_append (a b : List UInt8) : ts a ++ ts b = ts (a ++ b) := ba_ext (by rw [ba_append]; rfl)
theorem bt_nat (l : List UInt8) (i : Nat) (h : i < l.length) : bt (ts l) (i : Int) = ((l[i].toNat : Nat) : Int) := by
  have h' : i < (ts l).size := by rw [ts_size]; exact h
  unfold bt
  simp [h']
  rfl
theorem num_byte (c : UInt8) : strOfNums [(c.toNat : Int)] = ts [c] := by
  apply ba_ext
  show [UInt8.ofNat (Int.toNat (c.toNat : Int))] = [c]
  rw [Int.toNat_natCast]; simp
theorem byte_at (l : List UInt8) (i : Nat) (h : i < l.length) : (ts l).extract ((i : Nat) : Int).toNat ((i + 1 : Nat) : Int).toNat = ts [l[i]] := by
  apply ba_ext
  rw [ba_extract, ts_list, ts_list, Int.toNat_natCast, Int.toNat_natCast, List.take_succ_eq_append_getElem h, List.drop_append_of_le_length (by rw [List.length_take]; omega)]
  rw [List.drop_eq_nil_of_le (by rw [List.length_take]; omega)]
  rfl
theorem digit_told (c : UInt8) : chars_Digit.f (c.toNat : Int) = some (isD c) := by
  unfold chars_Digit.f isD
  by_cases h : (c.toNat : Int) ≥ 48
  · rw [if_pos h, decide_eq_true (show 48 ≤ c.toNat by omega), Bool.true_and]
    congr 1
    by_cases g : c.toNat ≤ 57
    · rw [decide_eq_true g, decide_eq_true (by omega)]
    · rw [decide_eq_false g, decide_eq_false (by omega)]
  · rw [if_neg h, decide_eq_false (show ¬ 48 ≤ c.toNat by omega), Bool.false_and]
theorem digit_ref (c : UInt8) : newelref01_Digit.f (c.toNat : Int) = some (isD c) := digit_told c
def p93 (p : Pt) : S93 := ⟨ts p.tx, p.da, p.nu⟩
def p98 (p : Pt) : S98 := ⟨ts p.tx, p.da, p.nu⟩
theorem last_of (n : Nat) (h : n < 4611686018427387904) : wrap64 (((n + 1 : Nat) : Int) - 1) = (n : Int) := by unfold wrap64; omega
theorem next_of (i : Nat) (h : i < 4611686018427387904) : wrap64 ((i : Int) + 1) = ((i + 1 : Nat) : Int) := by unfold wrap64; omega
theorem beq_toNat (c : UInt8) (n : Nat) (h : n < 256) : ((c.toNat : Int) = (n : Int)) ↔ c = UInt8.ofNat n := by
  constructor
  · intro h
    have : c.toNat = n := by omega
    rw [← this]; simp
  · rintro rfl
    simp; omega
section
variable {T : Type} (g : Pt → T)
theorem all_len (r : List Pt × Pt) : ((allP r).map g).length = r.1.length + 1 := by simp [allP]
theorem all_getD (r : List Pt × Pt) (z : T) : ((allP r).map g).getD ((r.1.length : Int)).toNat z = g r.2 := by
  simp [allP, List.getD_eq_getElem?_getD]
theorem all_set (r : List Pt × Pt) (x : T) : ((allP r).map g).set ((r.1.length : Int)).toNat x = r.1.map g ++ [x] := by
  simp [allP, List.set_append]
theorem all_put (r : List Pt × Pt) (p : Pt) (x : T) (h : x = g p) : ((allP r).map g).set ((r.1.length : Int)).toNat x = (allP (r.1, p)).map g := by
  rw [all_set, h]; simp [allP]
theorem all_add (r : List Pt × Pt) (p : Pt) (x : T) (h : x = g p) : (allP r).map g ++ [x] = (allP (r.1 ++ [r.2], p)).map g := by
  rw [h]; simp [allP]
end
theorem stepP_sep (r : List Pt × Pt) (c : UInt8) (h : c = 46 ∨ c = 45) : stepP r c = (r.1 ++ [r.2], ⟨[], c == 45, false⟩) := by
  unfold stepP
  rw [if_pos (by rcases h with rfl | rfl <;> decide)]
theorem stepP_like (r : List Pt × Pt) (c : UInt8) (h : ¬ (c = 46 ∨ c = 45)) (h2 : likeP r.2.tx c = true) : stepP r c = (r.1, ⟨r.2.tx ++ [c], r.2.da, r.2.nu⟩) := by
  unfold stepP
  rw [if_neg (by simpa using h), if_pos h2]
theorem stepP_new (r : List Pt × Pt) (c : UInt8) (h : ¬ (c = 46 ∨ c = 45)) (h2 : likeP r.2.tx c = false) : stepP r c = (r.1 ++ [⟨r.2.tx, r.2.da, isD c⟩], ⟨[c], true, false⟩) := by
  unfold stepP
  rw [if_neg (by simpa using h), h2, if_neg (by simp)]
theorem runP_drop (r : List Pt × Pt) (v : List UInt8) (i : Nat) (h : i < v.length) : runP r (v.drop i) = runP (stepP r v[i]) (v.drop (i + 1)) := by
  rw [List.drop_eq_getElem_cons h]; rfl
theorem like_last (t : List UInt8) (c : UInt8) (h : t ≠ []) : likeP t c = (isD (t.getLast h) == isD c) := by
  unfold likeP
  rw [List.getLast?_eq_some_getLast h]
def tailP (v : List UInt8) (i : Nat) (p : Pt) : Prop := p.tx = [] ∨ ∃ n, i = n + 1 ∧ p.tx.getLast? = v[n]?
theorem tail_next (v : List UInt8) (i : Nat) (h : i < v.length) (t : List UInt8) (a b : Bool) : tailP v (i + 1) ⟨t ++ [v[i]], a, b⟩ := by
  refine Or.inr ⟨i, rfl, ?_⟩
  simp [List.getElem?_eq_getElem h]
theorem parts_loop (v : List UInt8) (hv : v.length ≤ 1000000) : ∀ (d i k : Nat) (r : List Pt × Pt), i + d = v.length → r.1.length ≤ i → r.2.tx.length ≤ i → tailP v i r.2 →
    words_parts.l0 (k + d + 1) (ts v) ((allP r).map p93) (v.length : Int) (i : Int) = some ((allP (runP r (v.drop i))).map p93) := by
  intro d
  induction d with
  | zero =>
    intro i k r h _ _ _
    rw [words_parts.l0, if_neg (by omega), List.drop_eq_nil_of_le (by omega)]
    rfl
  | succ d ih =>
    intro i k r h h1 h2 h3
    have hi : i < v.length := by omega
    have q0 : (i : Int) < (v.length : Int) := by omega
    have q0' : (i : Int) < ((ts v).size : Int) := by rw [ts_size]; omega
    have hl := all_len p93 r
    have hx : wrap64 ((((allP r).map p93).length : Int) - 1) = (r.1.length : Int) := by rw [hl]; exact last_of _ (by omega)
    have q1 : (0 : Int) ≤ (r.1.length : Int) := by omega
    have q2 : (r.1.length : Int) < (((allP r).map p93).length : Int) := by rw [hl]; omega
    have q3 : (0 : Int) ≤ (i : Int) := by omega
    have q4 : ((allP r).map p93).length < 5864062014805 := by rw [hl]; omega
    have hn := next_of i (by omega)
    have hr : rd_T93 ((allP r).map p93) (r.1.length : Int) = p93 r.2 := all_getD p93 r _
    have hb := bt_nat v i hi
    have tn := tail_next v i hi
    have step : ∀ r', stepP r v[i] = r' → r'.1.length ≤ i + 1 → r'.2.tx.length ≤ i + 1 → tailP v (i + 1) r'.2 → words_parts.l0 (k + d + 1) (ts v) ((allP r').map p93) (v.length : Int) ((i + 1 : Nat) : Int) = some ((allP (runP r (v.drop i))).map p93) := by
      intro r' e a b t
      rw [ih (i + 1) k r' (by omega) a b t, runP_drop r v i hi, e]
    rw [show k + (d + 1) + 1 = (k + d + 1) + 1 from by omega, words_parts.l0, if_pos q0, if_pos q3, if_pos q0', hx, if_pos q1, if_pos q2, hr, hb, hn]
    generalize hc : v[i] = c at *
    by_cases c1 : c = 46
    · rw [if_pos (by rw [c1]; rfl), if_pos q4, all_add p93 r ⟨[], c == 45, false⟩ _ (by rw [c1]; rfl)]
      exact step _ (stepP_sep r c (Or.inl c1)) (by simp; omega) (by simp) (Or.inl rfl)
    · rw [if_neg (by rw [show (46 : Int) = ((46 : Nat) : Int) from rfl, beq_toNat c 46 (by omega)]; exact c1)]
      by_cases c2 : c = 45
      · rw [if_pos (by rw [c2]; rfl), if_pos q4, all_add p93 r ⟨[], c == 45, false⟩ _ (by rw [c2]; rfl)]
        exact step _ (stepP_sep r c (Or.inr c2)) (by simp; omega) (by simp) (Or.inl rfl)
      · rw [if_neg (by rw [show (45 : Int) = ((45 : Nat) : Int) from rfl, beq_toNat c 45 (by omega)]; exact c2)]
        have nc : ¬ (c = 46 ∨ c = 45) := by rintro (h | h); exact c1 h; exact c2 h
        have e1 : strOfNums [(c.toNat : Int)] = ts [c] := num_byte c
        have q7 : (p93 r.2).f0.size + (ts [c]).size ≤ 9223372036854775807 := by show (ts r.2.tx).size + (ts [c]).size ≤ _; rw [ts_size, ts_size]; simp; omega
        have same : likeP r.2.tx c = true → (if (p93 r.2).f0.size + (strOfNums [(c.toNat : Int)]).size ≤ 9223372036854775807 then (words_parts.l0 (k + d + 1) (ts v) (((allP r).map p93).set ((r.1.length : Int)).toNat (⟨(p93 r.2).f0 ++ (strOfNums [(c.toNat : Int)]), (p93 r.2).f1, (p93 r.2).f2⟩ : S93)) (v.length : Int) ((i + 1 : Nat) : Int)) else none) = some ((allP (runP r (v.drop i))).map p93) := by
          intro lk
          rw [e1, if_pos q7, all_put p93 r ⟨r.2.tx ++ [c], r.2.da, r.2.nu⟩ _ (by unfold p93; rw [ts_append])]
          exact step _ (stepP_like r c nc lk) (by simp; omega) (by simp; omega) (tn _ _ _)
        by_cases z : r.2.tx = []
        · have z' : (p93 r.2).f0.toList = ([] : List UInt8) := by show (ts r.2.tx).toList = []; rw [ts_toList]; exact z
          rw [if_pos z', Option.bind_some]
          exact same (by rw [z]; rfl)
        · have z' : ¬ (p93 r.2).f0.toList = ([] : List UInt8) := by show ¬ (ts r.2.tx).toList = []; rw [ts_toList]; exact z
          obtain ⟨n, hin, hlast⟩ : ∃ n, i = n + 1 ∧ r.2.tx.getLast? = v[n]? := by
            rcases h3 with h3 | h3
            · exact absurd h3 z
            · exact h3
          have hnv : n < v.length := by omega
          have hnn : n < 4611686018427387904 := by omega
          have hg : r.2.tx.getLast z = v[n] := by
            rw [List.getLast?_eq_some_getLast z, List.getElem?_eq_getElem hnv] at hlast
            exact Option.some.inj hlast
          have hp : wrap64 ((i : Int) - 1) = (n : Int) := by rw [hin]; exact last_of n hnn
          rw [if_neg z', digit_told, Option.bind_some, hp, if_pos (by omega), if_pos (by rw [ts_size]; omega), bt_nat v n hnv, digit_told, Option.bind_some, ← hg]
          by_cases e : isD (r.2.tx.getLast z) = isD c
          · rw [if_neg (by rw [e]; simp), Option.bind_some]
            exact same (by rw [like_last _ _ z, e]; simp)
          · rw [if_pos (by simpa using fun h => e h.symm), Option.bind_some, Option.bind_some]
            have ea : ((allP r).map p93).set ((r.1.length : Int)).toNat (⟨(p93 r.2).f0, (p93 r.2).f1, isD c⟩ : S93) = (allP (r.1, ⟨r.2.tx, r.2.da, isD c⟩)).map p93 := all_put p93 r _ _ rfl
            rw [ea]
            have la := all_len p93 (r.1, ⟨r.2.tx, r.2.da, isD c⟩)
            have q8 : ((allP (r.1, ⟨r.2.tx, r.2.da, isD c⟩)).map p93).length < 5864062014805 := by rw [la]; simp; omega
            rw [if_pos q8, Option.bind_some, all_add p93 (r.1, ⟨r.2.tx, r.2.da, isD c⟩) ⟨[], true, false⟩ (⟨(⟨#[]⟩ : ByteArray), true, false⟩ : S93) rfl]
            generalize hR : ((r.1 ++ [(⟨r.2.tx, r.2.da, isD c⟩ : Pt)], (⟨[], true, false⟩ : Pt)) : List Pt × Pt) = R
            have R1 : R.1 = r.1 ++ [(⟨r.2.tx, r.2.da, isD c⟩ : Pt)] := by rw [← hR]
            have R2 : R.2 = ⟨[], true, false⟩ := by rw [← hR]
            have Rl : R.1.length = r.1.length + 1 := by rw [R1]; simp
            have lR := all_len p93 R
            have hxR : wrap64 ((((allP R).map p93).length : Int) - 1) = (R.1.length : Int) := by rw [lR]; exact last_of _ (by omega)
            have hrR : rd_T93 ((allP R).map p93) (R.1.length : Int) = p93 R.2 := all_getD p93 R _
            rw [hxR, if_pos (by omega), if_pos (by rw [lR]; omega), Option.bind_some, hrR, e1]
            have q9 : (p93 R.2).f0.size + (ts [c]).size ≤ 9223372036854775807 := by rw [R2]; show (ts []).size + (ts [c]).size ≤ _; rw [ts_size, ts_size]; simp
            rw [if_pos q9, all_put p93 R ⟨[c], true, false⟩ _ (by rw [R2]; unfold p93; rw [ts_append]; rfl)]
            exact step (R.1, ⟨[c], true, false⟩) (by rw [stepP_new r c nc (by rw [like_last _ _ z]; simpa using e), R1]) (by simp; omega) (by simp) (tn [] true false)
theorem parts_told (v : List UInt8) (hv : v.length ≤ 1000000) (k : Nat) (hk : v.length + 1 ≤ k) : words_parts.f k (ts v) = some ((partsL v).map p93) := by
  have := parts_loop v hv v.length 0 (k - v.length - 1) p0 (by omega) (by simp [p0]) (by simp [p0]) (Or.inl rfl)
  rw [show k - v.length - 1 + v.length + 1 = k from by omega, ← ts_size v] at this
  exact this
def w38 (w : Wl) : S38 := ⟨w.1, ts w.2⟩
def pr (w : Wl) : Int × ByteArray := (w.1, ts w.2)
theorem kindL_plain (t : List UInt8) (nu : Bool) (ka : ∀ c : List UInt8, (c = [97] ∨ c = [98] ∨ c = [109]) → (nu = true ∧ t = c) = False) : kindL t nu = if t = tA then 1 else if t = tB then 2 else if t = tM then 3 else if t = tRc ∨ t = tCr then 4 else if t = tS then 5 else if t = tGa ∨ t = tFi ∨ t = tRe then 6 else if t = tSp then 7 else 8 := by
  have a := ka [97] (by simp)
  have b := ka [98] (by simp)
  have c := ka [109] (by simp)
  unfold kindL
  simp only [a, b, c, or_false]
theorem letters_told (t : List UInt8) (da nu : Bool) (k : Nat) (hk : 4 ≤ k) : words_letters.f k (ts t) da nu = some (pr (letL t nu)) := by
  obtain ⟨j, rfl⟩ : ∃ j, k = j + 1 + 1 + 1 := ⟨k - 3, by omega⟩
  have gen : ∀ s x, (s = t ∨ nu = true ∧ (s = tA ∧ t = [97] ∨ s = tB ∧ t = [98] ∨ s = tM ∧ t = [109])) → (s = t → ¬ (nu = true ∧ (t = [97] ∨ t = [98] ∨ t = [109]))) → x = ts s → words_letters.j0 (j + 1 + 1 + 1) x (ts t) da nu = some (pr (letL t nu)) := by
    rintro s _ hs hne rfl
    rcases hs with rfl | ⟨hn, ⟨rfl, rfl⟩ | ⟨rfl, rfl⟩ | ⟨rfl, rfl⟩⟩
    · have hx := hne rfl
      have ka : ∀ c, (c = [97] ∨ c = [98] ∨ c = [109]) → (nu = true ∧ s = c) = False := by
        intro c hc
        apply eq_false
        rintro ⟨h1, h2⟩
        exact hx ⟨h1, h2 ▸ hc⟩
      rw [words_letters.j0, ts_toList]
      unfold letL
      rw [kindL_plain s nu ka]
      by_cases h1 : s = tA
      · rw [if_pos h1, if_pos h1]; rfl
      · rw [if_neg h1, if_neg h1]
        by_cases h2 : s = tB
        · rw [if_pos h2, if_pos h2]; rfl
        · rw [if_neg h2, if_neg h2]
          by_cases h3 : s = tM
          · rw [if_pos h3, if_pos h3]; rfl
          · rw [if_neg h3, if_neg h3]
            have j2 : ∀ b, (¬ b = true → ¬ (s = tGa ∨ s = tFi ∨ s = tRe)) → (b = true → (s = tGa ∨ s = tFi ∨ s = tRe)) → words_letters.j2 (j + 1) (ts s) b (ts s) da nu = some (pr (if (if s = tGa ∨ s = tFi ∨ s = tRe then (6 : Int) else if s = tSp then 7 else 8) = 8 then (8, s) else ((if s = tGa ∨ s = tFi ∨ s = tRe then (6 : Int) else if s = tSp then 7 else 8), []))) := by
              intro b hb1 hb2
              rw [words_letters.j2, ts_toList]
              by_cases hb : b = true
              · rw [if_pos hb, if_pos (hb2 hb)]; rfl
              · rw [if_neg hb, if_neg (hb1 hb)]
                by_cases h7 : s = tSp
                · rw [if_pos h7, if_pos h7]; rfl
                · rw [if_neg h7, if_neg h7]; rfl
            have j1 : ∀ b, (¬ b = true → ¬ (s = tRc ∨ s = tCr)) → (b = true → (s = tRc ∨ s = tCr)) → words_letters.j1 (j + 1 + 1) (ts s) b (ts s) da nu = some (pr (if (if s = tRc ∨ s = tCr then (4 : Int) else if s = tS then 5 else if s = tGa ∨ s = tFi ∨ s = tRe then (6 : Int) else if s = tSp then 7 else 8) = 8 then (8, s) else ((if s = tRc ∨ s = tCr then (4 : Int) else if s = tS then 5 else if s = tGa ∨ s = tFi ∨ s = tRe then (6 : Int) else if s = tSp then 7 else 8), []))) := by
              intro b hb1 hb2
              rw [words_letters.j1, ts_toList]
              by_cases hb : b = true
              · rw [if_pos hb, if_pos (hb2 hb)]; rfl
              · rw [if_neg hb, if_neg (hb1 hb)]
                by_cases h5 : s = tS
                · rw [if_pos h5, if_pos h5]; rfl
                · rw [if_neg h5, if_neg h5]
                  by_cases h6 : s = tGa
                  · rw [if_pos h6]; exact j2 _ (fun h => absurd (by rw [show s = [103, 97] from h6]; rfl) h) (fun _ => Or.inl h6)
                  · rw [if_neg h6]
                    by_cases h8 : s = tFi
                    · rw [if_pos h8]; exact j2 _ (fun h => absurd (by rw [show s = [102, 105, 110, 97, 108] from h8]; rfl) h) (fun _ => Or.inr (Or.inl h8))
                    · rw [if_neg h8]
                      refine j2 _ ?_ ?_
                      · rintro h (g | g | g)
                        · exact h6 g
                        · exact h8 g
                        · exact h (by rw [show s = [114, 101, 108, 101, 97, 115, 101] from g]; rfl)
                      · intro h; exact Or.inr (Or.inr (beq_iff_eq.1 h))
            by_cases h4 : s = tRc
            · rw [if_pos h4]; exact j1 _ (fun h => absurd (by rw [show s = [114, 99] from h4]; rfl) h) (fun _ => Or.inl h4)
            · rw [if_neg h4]
              refine j1 _ ?_ ?_
              · rintro h (g | g)
                · exact h4 g
                · exact h (by rw [show s = [99, 114] from g]; rfl)
              · intro h; exact Or.inr (beq_iff_eq.1 h)
    · subst hn; rw [words_letters.j0, ts_toList, if_pos rfl]; rfl
    · subst hn; rw [words_letters.j0, ts_toList, if_neg (by decide), if_pos rfl]; rfl
    · subst hn; rw [words_letters.j0, ts_toList, if_neg (by decide), if_neg (by decide), if_pos rfl]; rfl
  unfold words_letters.f
  rw [ts_toList]
  by_cases hn : nu = true
  · rw [if_pos hn]
    by_cases h1 : t = [97]
    · rw [if_pos h1]; exact gen tA _ (Or.inr ⟨hn, Or.inl ⟨rfl, h1⟩⟩) (fun h => by rw [h1] at h; exact absurd h (by decide)) rfl
    · rw [if_neg h1]
      by_cases h2 : t = [98]
      · rw [if_pos h2]; exact gen tB _ (Or.inr ⟨hn, Or.inr (Or.inl ⟨rfl, h2⟩)⟩) (fun h => by rw [h2] at h; exact absurd h (by decide)) rfl
      · rw [if_neg h2]
        by_cases h3 : t = [109]
        · rw [if_pos h3]; exact gen tM _ (Or.inr ⟨hn, Or.inr (Or.inr ⟨rfl, h3⟩)⟩) (fun h => by rw [h3] at h; exact absurd h (by decide)) rfl
        · rw [if_neg h3]
          refine gen t _ (Or.inl rfl) ?_ rfl
          rintro _ ⟨_, g | g | g⟩
          · exact h1 g
          · exact h2 g
          · exact h3 g
  · rw [if_neg hn]
    exact gen t _ (Or.inl rfl) (fun _ h => hn h.1) rfl
theorem trim_told (t : List UInt8) : strings_TrimLeft.f (ts t) (⟨#[48]⟩ : ByteArray) = some (ts (t.dropWhile (· == 48))) := by
  unfold strings_TrimLeft.f
  rw [if_pos ⟨rfl, by decide⟩]
  rfl
theorem word_told (p : Pt) (k : Nat) (hk : 5 ≤ k) : words_word.f k (p93 p).f0 (p93 p).f1 (p93 p).f2 = some (pr (wordL p)) := by
  obtain ⟨j, rfl⟩ : ∃ j, k = j + 1 := ⟨k - 1, by omega⟩
  obtain ⟨t, da, nu⟩ := p
  show words_word.f (j + 1) (ts t) da nu = _
  have nums : words_word.j0 (j + 1) false (ts t) da nu = some (pr (numL t da)) := by
    rw [words_word.j0, if_neg (by simp), trim_told, Option.bind_some, ts_toList]
    unfold numL
    by_cases z : t.dropWhile (· == 48) = []
    · rw [if_pos z, if_pos z]; rfl
    · rw [if_neg z, if_neg z]
      by_cases d : da = true
      · rw [if_pos d, if_pos d]; rfl
      · rw [if_neg d, if_neg d]; rfl
  unfold words_word.f wordL
  rw [ts_toList]
  cases t with
  | nil => rw [if_pos rfl, nums]; rfl
  | cons c t =>
    have hb : bt (ts (c :: t)) 0 = (c.toNat : Int) := bt_nat (c :: t) 0 (by simp)
    rw [if_neg (by simp), if_pos (by rw [ts_size, List.length_cons]; omega), hb, digit_told, Option.bind_some]
    show _ = some (pr (if isD c = true then numL (c :: t) da else letL (c :: t) nu))
    by_cases d : isD c = true
    · rw [if_pos d, d]; exact nums
    · rw [if_neg d, Bool.eq_false_iff.2 d]
      show words_word.j0 (j + 1) true _ _ _ = _
      rw [words_word.j0, if_pos rfl, letters_told _ _ _ _ (by omega)]
      rfl
def toN (c : UInt8) : Int := (c.toNat : Int)
theorem nums_ts (l : List UInt8) : strOfNums (l.map toN) = ts l := by
  apply ba_ext
  show (l.map toN).map (fun n => UInt8.ofNat n.toNat) = l
  rw [List.map_map]
  conv => rhs; rw [← List.map_id l]
  apply List.map_congr_left
  intro c _
  show UInt8.ofNat (Int.toNat (c.toNat : Int)) = c
  rw [Int.toNat_natCast]; simp
theorem low_num (c : UInt8) : (if 65 ≤ (c.toNat : Int) ∧ (c.toNat : Int) ≤ 90 then (c.toNat : Int) + 32 else (c.toNat : Int)) = toN (lowB c) := by
  unfold lowB toN
  by_cases h : 65 ≤ c.toNat ∧ c.toNat ≤ 90
  · rw [if_pos (by omega), if_pos h, UInt8.toNat_add]
    have : (32 : UInt8).toNat = 32 := rfl
    rw [this]; omega
  · rw [if_neg (by omega), if_neg h]
theorem lower_told (v : List UInt8) (hv : v.length ≤ 1000000) : chars_Lower.f (ts v) = some (ts (v.map lowB)) := by
  unfold chars_Lower.f
  rw [if_pos (by rw [ts_size]; omega), ← nums_ts (v.map lowB)]
  congr 2
  unfold bytesOf
  rw [ts_list, List.map_map, List.map_map]
  apply List.map_congr_left
  intro c _
  exact low_num c
theorem rev_loop : ∀ (n : Nat) (m a b : List S38) (k : Nat), m.length ≤ n → a.length + m.length + b.length ≤ 4000000 →
    api_Word_73.l0 (k + n + 1) (a ++ (m ++ b)) (a.length : Int) (((a.length + m.length : Nat) : Int) - 1) = some (a ++ (m.reverse ++ b)) := by
  intro n
  induction n with
  | zero =>
    intro m a b k h _
    obtain rfl : m = [] := List.eq_nil_of_length_eq_zero (by omega)
    rw [api_Word_73.l0, if_neg (by simp; omega)]
    rfl
  | succ n ih =>
    intro m a b k h hb
    match m, h, hb with
    | [], h, hb => rw [api_Word_73.l0, if_neg (by simp; omega)]; rfl
    | [x], h, hb => rw [api_Word_73.l0, if_neg (by simp)]; rfl
    | x :: y :: m', h, hb =>
      obtain ⟨c, z, hc⟩ : ∃ c z, y :: m' = c ++ [z] := ⟨(y :: m').dropLast, (y :: m').getLast (by simp), (List.dropLast_concat_getLast (by simp)).symm⟩
      rw [hc] at h hb ⊢
      simp only [List.length_cons, List.length_append, List.length_nil] at h hb
      have hj : (((a.length + (x :: (c ++ [z])).length : Nat) : Int) - 1) = ((a.length + 1 + c.length : Nat) : Int) := by simp; omega
      have hL : (a ++ (x :: (c ++ [z]) ++ b)).length = a.length + 1 + c.length + 1 + b.length := by simp; omega
      have gz : rd_T38 (a ++ (x :: (c ++ [z]) ++ b)) ((a.length + 1 + c.length : Nat) : Int) = z := by
        unfold rd_T38
        rw [Int.toNat_natCast, List.getD_eq_getElem?_getD, List.getElem?_append_right (by omega)]
        rw [show a.length + 1 + c.length - a.length = c.length + 1 from by omega]
        simp
      have gx : rd_T38 (a ++ (x :: (c ++ [z]) ++ b)) ((a.length : Nat) : Int) = x := by
        unfold rd_T38
        rw [Int.toNat_natCast, List.getD_eq_getElem?_getD, List.getElem?_append_right (by omega)]
        simp
      have s1 : (a ++ (x :: (c ++ [z]) ++ b)).set ((a.length : Nat) : Int).toNat z = a ++ (z :: (c ++ [z]) ++ b) := by
        rw [Int.toNat_natCast, List.set_append_right _ _ (by omega)]
        simp
      have s2 : (a ++ (z :: (c ++ [z]) ++ b)).set ((a.length + 1 + c.length : Nat) : Int).toNat x = (a ++ [z]) ++ (c ++ ([x] ++ b)) := by
        rw [Int.toNat_natCast, List.set_append_right _ _ (by omega), show a.length + 1 + c.length - a.length = c.length + 1 from by omega]
        simp
      have w1 : wrap64 (((a.length : Nat) : Int) + 1) = (((a ++ [z]).length : Nat) : Int) := by
        rw [List.length_append]; unfold wrap64; simp; omega
      have w2 : wrap64 (((a.length + 1 + c.length : Nat) : Int) - 1) = (((a ++ [z]).length + c.length : Nat) : Int) - 1 := by
        rw [List.length_append]; unfold wrap64; simp; omega
      have := ih c (a ++ [z]) ([x] ++ b) k (by omega) (by simp; omega)
      rw [show k + (n + 1) + 1 = (k + n + 1) + 1 from by omega, api_Word_73.l0, hj, if_pos (by omega), if_pos (by omega), if_pos (by rw [hL]; omega), if_pos (by omega), if_pos (by rw [hL]; omega), gz, gx]
      show api_Word_73.l0 (k + n + 1) ((((a ++ (x :: (c ++ [z]) ++ b)).set ((a.length : Nat) : Int).toNat z)).set ((a.length + 1 + c.length : Nat) : Int).toNat x) _ _ = _
      rw [s1, s2, w1, w2, this]
      simp
theorem rev_told (l : List S38) (hl : l.length ≤ 4000000) (k : Nat) (hk : l.length + 1 ≤ k) : api_Word_73.f k l = some l.reverse := by
  have := rev_loop l.length l [] [] (k - l.length - 1) (Nat.le_refl _) (by simp; omega)
  rw [show k - l.length - 1 + l.length + 1 = k from by omega, List.append_nil, List.append_nil] at this
  unfold api_Word_73.f
  rw [show wrap64 ((l.length : Int) - 1) = (((([] : List S38).length + l.length : Nat) : Int) - 1) from by unfold wrap64; simp; omega]
  exact this
theorem push_skip (w : Wl) (out : List Wl) (h : w.1 = 6) (g : aheadL out = false) : pushL w out = out := if_pos ⟨h, g⟩
theorem push_add (w : Wl) (out : List Wl) (h : ¬ (w.1 = 6 ∧ aheadL out = false)) : pushL w out = w :: out := if_neg h
theorem ahead_cons (w : Wl) (l : List Wl) : aheadL (w :: l) = false ↔ ¬ w.1 = 6 ∧ ¬ w.1 = 10 := by
  unfold aheadL; simp
theorem split_loop : ∀ (n : Nat) (l : List Pt) (out : List Wl) (k : Nat), l.length = n → out.length + l.length ≤ 1000000 → out.length + l.length + 10 ≤ k →
    words_Split.l0 (k + n + 1) ((out.map w38).reverse) (l.map p93) = some (((l.map wordL).foldr pushL out).map w38) := by
  intro n
  induction n with
  | zero =>
    intro l out k h _ hk
    obtain rfl : l = [] := List.eq_nil_of_length_eq_zero h
    rw [words_Split.l0, if_pos (by simp), rev_told _ (by simp; omega) _ (by simp; omega), Option.bind_some, List.reverse_reverse]
    rfl
  | succ n ih =>
    intro l out k h hs hk
    obtain ⟨l', p, rfl⟩ : ∃ l' p, l = l' ++ [p] := ⟨l.dropLast, l.getLast (by intro z; rw [z] at h; simp at h), (List.dropLast_concat_getLast _).symm⟩
    have hl' : l'.length = n := by simpa using h
    rw [List.length_append, List.length_singleton] at hs hk
    have hm : ((l' ++ [p]).map p93).length = n + 1 := by rw [List.length_map, List.length_append, hl']; rfl
    have hx : wrap64 ((((l' ++ [p]).map p93).length : Int) - 1) = ((n : Nat) : Int) := by rw [hm]; exact last_of n (by omega)
    have hr : rd_T93 ((l' ++ [p]).map p93) ((n : Nat) : Int) = p93 p := by
      unfold rd_T93
      rw [Int.toNat_natCast, List.map_append, List.getD_eq_getElem?_getD, List.getElem?_append_right (by simp; omega)]
      simp [hl']
    have ht : ((l' ++ [p]).map p93).take ((n : Nat) : Int).toNat = l'.map p93 := by
      rw [Int.toNat_natCast, List.map_append, List.take_append_of_le_length (by simp; omega), List.take_of_length_le (by simp; omega)]
    have fold : (((l' ++ [p]).map wordL).foldr pushL out) = (l'.map wordL).foldr pushL (pushL (wordL p) out) := by simp
    have hlen : ((out.map w38).reverse).length = out.length := by simp
    have add : ¬ ((wordL p).1 = 6 ∧ aheadL out = false) → (if ((out.map w38).reverse).length < 5864062014805 then words_Split.l0 (k + n + 1) ((out.map w38).reverse ++ [(⟨(pr (wordL p)).1, (pr (wordL p)).2⟩ : S38)]) (l'.map p93) else none) = some ((((l' ++ [p]).map wordL).foldr pushL out).map w38) := by
      intro hp
      have e : (out.map w38).reverse ++ [(⟨(pr (wordL p)).1, (pr (wordL p)).2⟩ : S38)] = (((wordL p :: out)).map w38).reverse := by
        rw [List.map_cons, List.reverse_cons]; rfl
      rw [if_pos (by rw [hlen]; omega), e, ih l' (wordL p :: out) k hl' (by simp; omega) (by simp; omega), fold, push_add _ _ hp]
    have skip : (wordL p).1 = 6 → aheadL out = false → words_Split.l0 (k + n + 1) ((out.map w38).reverse) (l'.map p93) = some ((((l' ++ [p]).map wordL).foldr pushL out).map w38) := by
      intro h1 h2
      rw [ih l' out k hl' (by omega) (by omega), fold, push_skip _ _ h1 h2]
    rw [show k + (n + 1) + 1 = (k + n + 1) + 1 from by omega, words_Split.l0, if_neg (by rw [hm]; omega), hx, if_pos (by omega), if_pos (by rw [hm]; omega), hr, word_told p _ (by omega), Option.bind_some, if_pos (by rw [hm]; omega), ht, Option.bind_some]
    by_cases h6 : (pr (wordL p)).1 = 6
    · rw [if_pos h6]
      cases out with
      | nil =>
        rw [if_neg (by simp)]
        exact skip h6 rfl
      | cons o os =>
        have ho : (((o :: os).map w38).reverse).length = os.length + 1 := by simp
        have hy : wrap64 (((((o :: os).map w38).reverse).length : Int) - 1) = ((os.length : Nat) : Int) := by rw [ho]; exact last_of _ (by simp at hs; omega)
        have hz : rd_T38 (((o :: os).map w38).reverse) ((os.length : Nat) : Int) = w38 o := by
          unfold rd_T38
          rw [Int.toNat_natCast, List.map_cons, List.reverse_cons, List.getD_eq_getElem?_getD, List.getElem?_append_right (by simp)]
          simp
        rw [if_pos (by rw [ho]; omega), hy, if_pos (by omega), if_pos (by rw [ho]; omega), hz]
        by_cases a6 : (w38 o).f0 = 6
        · rw [if_pos a6]
          exact add (fun h => ((ahead_cons o os).1 h.2).1 a6)
        · rw [if_neg a6]
          by_cases a10 : (w38 o).f0 = 10
          · rw [if_pos a10]
            exact add (fun h => ((ahead_cons o os).1 h.2).2 a10)
          · rw [if_neg a10]
            exact skip h6 ((ahead_cons o os).2 ⟨a6, a10⟩)
    · rw [if_neg h6]
      exact add (fun h => h6 h.1)
theorem stepP_B (r : List Pt × Pt) (c : UInt8) (B : Nat) (h : ∀ p ∈ allP r, p.tx.length ≤ B) : (∀ p ∈ allP (stepP r c), p.tx.length ≤ B + 1) ∧ (allP (stepP r c)).length ≤ (allP r).length + 1 := by
  have h1 : ∀ p ∈ r.1, p.tx.length ≤ B := fun p hp => h p (List.mem_append_left _ hp)
  have h2 : r.2.tx.length ≤ B := h _ (List.mem_append_right _ (List.mem_singleton.2 rfl))
  unfold stepP allP
  split
  · refine ⟨?_, by simp⟩
    intro p hp
    simp only [List.mem_append, List.mem_singleton] at hp
    rcases hp with (hp | rfl) | rfl
    · have := h1 p hp; omega
    · omega
    · simp
  · split
    · refine ⟨?_, by simp⟩
      intro p hp
      simp only [List.mem_append, List.mem_singleton] at hp
      rcases hp with hp | rfl
      · have := h1 p hp; omega
      · simp; omega
    · refine ⟨?_, by simp⟩
      intro p hp
      simp only [List.mem_append, List.mem_singleton] at hp
      rcases hp with (hp | rfl) | rfl
      · have := h1 p hp; omega
      · simp; omega
      · simp
theorem runP_B : ∀ (l : List UInt8) (r : List Pt × Pt) (B : Nat), (∀ p ∈ allP r, p.tx.length ≤ B) → (∀ p ∈ allP (runP r l), p.tx.length ≤ B + l.length) ∧ (allP (runP r l)).length ≤ (allP r).length + l.length
  | [], _, _, h => ⟨fun p hp => h p hp, Nat.le_refl _⟩
  | c :: l, r, B, h => by
    have s := stepP_B r c B h
    have i := runP_B l (stepP r c) (B + 1) s.1
    refine ⟨fun p hp => ?_, ?_⟩
    · have := i.1 p hp
      rw [List.length_cons]; omega
    · have a := i.2
      have b := s.2
      rw [List.length_cons]
      show (allP (runP (stepP r c) l)).length ≤ _
      omega
theorem partsL_B (l : List UInt8) : (∀ p ∈ partsL l, p.tx.length ≤ l.length) ∧ (partsL l).length ≤ l.length + 1 := by
  have := runP_B l p0 0 (fun p hp => by obtain rfl := List.mem_singleton.1 hp; exact Nat.le_refl _)
  refine ⟨fun p hp => ?_, ?_⟩
  · have := this.1 p hp; omega
  · have := this.2
    have e : (allP p0).length = 1 := rfl
    unfold partsL; omega
theorem split_told (v : List UInt8) (hv : v.length ≤ 100000) (k : Nat) (hk : 3 * v.length + 40 ≤ k) : words_Split.f k (ts v) = some ((splitL v).map w38) := by
  have hB := partsL_B (v.map lowB)
  rw [List.length_map] at hB
  unfold words_Split.f
  rw [lower_told v (by omega), Option.bind_some, parts_told _ (by rw [List.length_map]; omega) k (by rw [List.length_map]; omega), Option.bind_some]
  have := split_loop (partsL (v.map lowB)).length (partsL (v.map lowB)) [] (k - (partsL (v.map lowB)).length - 1) rfl (by simp; omega) (by simp; omega)
  rw [show k - (partsL (v.map lowB)).length - 1 + (partsL (v.map lowB)).length + 1 = k from by omega] at this
  exact this
theorem pushL_len (w : Wl) (out : List Wl) : (pushL w out).length ≤ out.length + 1 := by
  unfold pushL; split <;> simp
theorem splitL_len (v : List UInt8) : (splitL v).length ≤ v.length + 1 := by
  have g : ∀ l : List Wl, (l.foldr pushL []).length ≤ l.length := by
    intro l
    induction l with
    | nil => simp
    | cons w l ih => rw [List.foldr_cons]; have := pushL_len w (l.foldr pushL []); rw [List.length_cons]; omega
  have := g ((partsL (v.map lowB)).map wordL)
  have hB := (partsL_B (v.map lowB)).2
  rw [List.length_map] at this hB
  unfold splitL outL
  omega
theorem cmp_int (a b : Int) : cmp_Compare_int.f a b = some (if a < b then -1 else if a > b then 1 else 0) := by
  unfold cmp_Compare_int.f cmp_isNaN_int.f
  rw [Option.bind_some, Option.bind_some, if_neg (by simp), if_neg (by simp)]
  repeat' split
  all_goals rfl
theorem cmp_str (a b : List UInt8) : cmp_Compare_string.f (ts a) (ts b) = some (if Op.bytesLess a b = true then -1 else if Op.bytesLess b a = true then 1 else 0) := by
  unfold cmp_Compare_string.f cmp_isNaN_string.f
  rw [Option.bind_some, Option.bind_some, if_neg (by simp), if_neg (by simp), ts_toList, ts_toList]
  repeat' split
  all_goals rfl
theorem or_two (a b : Int) (k : Nat) (hk : 4 ≤ k) : cmp_Or_int.f k [a, b] = some (if a = 0 then b else a) := by
  obtain ⟨k, rfl⟩ : ∃ j, k = j + 1 + 1 + 1 := ⟨k - 3, by omega⟩
  unfold cmp_Or_int.f
  have r0 : rd [a, b] 0 = a := rfl
  have r1 : rd [a, b] 1 = b := rfl
  have w0 : wrap64 ((0 : Int) + 1) = 1 := by unfold wrap64; omega
  have w1 : wrap64 ((1 : Int) + 1) = 2 := by unfold wrap64; omega
  have l2 : (([a, b] : List Int).length : Int) = 2 := rfl
  rw [l2, cmp_Or_int.l0, if_pos (by decide), if_pos (by decide), l2, if_pos (by decide), r0, w0]
  by_cases h : a = 0
  · rw [if_pos h, if_pos h, cmp_Or_int.l0, if_pos (by decide), if_pos (by decide), l2, if_pos (by decide), r1, w1]
    by_cases g : b = 0
    · rw [if_pos g, cmp_Or_int.l0, if_neg (by decide), g]
    · rw [if_neg g]
  · rw [if_neg h, if_neg h]
def Tot {α : Type} (f : Nat → Option α) (P : α → Prop) : Prop := ∃ k r, P r ∧ ∀ j, k ≤ j → f j = some r
theorem tot_get {α : Type} {f : Nat → Option α} {P : α → Prop} (h : Tot f P) : ∃ k r, P r ∧ ∀ j, k ≤ j → f j = some r := h
section
variable {α β : Type}
theorem tot_some {P : α → Prop} {r : α} (h : P r) : Tot (fun _ => some r) P := ⟨0, r, h, fun _ _ => rfl⟩
theorem tot_ge {f : Nat → Option α} {r : α} (n : Nat) (h : ∀ k, n ≤ k → f k = some r) : Tot f (fun x => x = r) := ⟨n, r, rfl, h⟩
theorem tot_imp {f : Nat → Option α} {P Q : α → Prop} (h : Tot f P) (i : ∀ r, P r → Q r) : Tot f Q := by
  obtain ⟨k, r, p, e⟩ := h
  exact ⟨k, r, i r p, e⟩
theorem tot_bind {g : Nat → Option α} {F : Nat → α → Option β} {Q : α → Prop} {P : β → Prop} (h : Tot g Q) (hF : ∀ r, Q r → Tot (fun k => F k r) P) : Tot (fun k => (g k).bind (F k)) P := by
  obtain ⟨k1, r, q, h1⟩ := h
  obtain ⟨k2, s, p, h2⟩ := hF r q
  exact ⟨k1 + k2, s, p, fun j hj => by show (g j).bind (F j) = _; rw [h1 j (by omega), Option.bind_some]; exact h2 j (by omega)⟩
theorem tot_if {c : Prop} [Decidable c] {f g : Nat → Option α} {P : α → Prop} (h1 : c → Tot f P) (h2 : ¬ c → Tot g P) : Tot (fun k => if c then f k else g k) P := by
  by_cases h : c
  · obtain ⟨k, r, p, e⟩ := h1 h; exact ⟨k, r, p, fun j hj => (if_pos h).trans (e j hj)⟩
  · obtain ⟨k, r, p, e⟩ := h2 h; exact ⟨k, r, p, fun j hj => (if_neg h).trans (e j hj)⟩
theorem tot_guard {c : Prop} [Decidable c] {f g : Nat → Option α} {P : α → Prop} (h : c) (h1 : Tot f P) : Tot (fun k => if c then f k else g k) P := tot_if (fun _ => h1) (fun n => absurd h n)
theorem tot_succ {f b : Nat → Option α} {P : α → Prop} (h : Tot b P) (e : ∀ k, f (k + 1) = b k) : Tot f P := by
  obtain ⟨k, r, p, h⟩ := h
  exact ⟨k + 1, r, p, fun j hj => by obtain ⟨i, rfl⟩ : ∃ i, j = i + 1 := ⟨j - 1, by omega⟩; rw [e]; exact h i (by omega)⟩
end
def Short (l : List S58) : Prop := ∀ s ∈ l, s.f0.size ≤ 1000 ∧ s.f1.size ≤ 1000
end Go.Proofs.YtgdjfcmmpjcaaaaDoor.Pure
namespace Go.Proofs.YtgdjfcmmpjcaaaaDoor.Pure
open Go Go.Proofs.YtgdjfcmmpjcaaaaDoorW.Px
set_option linter.unusedSimpArgs false
set_option linter.unusedVariables false
structure Ord3 {α : Type} (c : α → α → Int) : Prop where
  rng : ∀ a b, c a b = -1 ∨ c a b = 0 ∨ c a b = 1
  anti : ∀ a b, c b a = - c a b
  trans : ∀ a b d, c a b ≤ 0 → c b d ≤ 0 → c a d ≤ 0
section
variable {α β : Type}
theorem Ord3.self {c : α → α → Int} (h : Ord3 c) (a : α) : c a a = 0 := by have := h.anti a a; omega
theorem Ord3.eql {c : α → α → Int} (h : Ord3 c) {a b : α} (e : c a b = 0) (d : α) : c a d = c b d := by
  have h1 := h.trans b a d
  have h2 := h.trans a b d
  have h3 := h.trans d a b
  have h4 := h.trans d b a
  have e1 := h.anti a b
  have e2 := h.anti a d
  have e3 := h.anti b d
  rcases h.rng a d with r | r | r <;> rcases h.rng b d with q | q | q <;> omega
theorem Ord3.lex {c1 c2 : α → α → Int} (h1 : Ord3 c1) (h2 : Ord3 c2) : Ord3 (fun a b => if c1 a b = 0 then c2 a b else c1 a b) where
  rng a b := by
    show (if c1 a b = 0 then c2 a b else c1 a b) = -1 ∨ (if c1 a b = 0 then c2 a b else c1 a b) = 0 ∨ (if c1 a b = 0 then c2 a b else c1 a b) = 1
    split
    · exact h2.rng a b
    · exact h1.rng a b
  anti a b := by
    show (if c1 b a = 0 then c2 b a else c1 b a) = - (if c1 a b = 0 then c2 a b else c1 a b)
    have e1 := h1.anti a b
    have e2 := h2.anti a b
    by_cases z : c1 a b = 0
    · rw [if_pos z, if_pos (by omega)]; exact e2
    · rw [if_neg z, if_neg (by omega)]; exact e1
  trans a b d := by
    show (if c1 a b = 0 then c2 a b else c1 a b) ≤ 0 → (if c1 b d = 0 then c2 b d else c1 b d) ≤ 0 → (if c1 a d = 0 then c2 a d else c1 a d) ≤ 0
    intro p q
    by_cases z : c1 a b = 0
    · have e := h1.eql z d
      rw [if_pos z] at p
      by_cases y : c1 b d = 0
      · rw [if_pos y] at q
        rw [if_pos (by omega)]
        exact h2.trans a b d p q
      · rw [if_neg y] at q
        rw [if_neg (by omega)]
        omega
    · rw [if_neg z] at p
      have t := h1.trans a b d p
      have t2 := h1.trans d a b
      have t3 := h1.trans b d a
      have a1 := h1.anti a b
      have a2 := h1.anti a d
      have a3 := h1.anti b d
      have k : c1 b d ≤ 0 := by
        by_cases y : c1 b d = 0
        · omega
        · rw [if_neg y] at q; exact q
      have k2 := t k
      rw [if_neg (by omega)]
      exact k2
theorem Ord3.comap {c : β → β → Int} (h : Ord3 c) (f : α → β) : Ord3 (fun a b => c (f a) (f b)) where
  rng a b := h.rng (f a) (f b)
  anti a b := h.anti (f a) (f b)
  trans a b d := h.trans (f a) (f b) (f d)
theorem Ord3.zero : Ord3 (fun (_ _ : α) => (0 : Int)) where
  rng _ _ := Or.inr (Or.inl rfl)
  anti _ _ := rfl
  trans _ _ _ _ _ := Int.le_refl _
end
def cmpI (a b : Int) : Int := if a < b then -1 else if a > b then 1 else 0
theorem ord_int : Ord3 cmpI where
  rng a b := by unfold cmpI; split; · exact Or.inl rfl
                · split; · exact Or.inr (Or.inr rfl)
                  · exact Or.inr (Or.inl rfl)
  anti a b := by unfold cmpI; repeat' split
                 all_goals omega
  trans a b d := by unfold cmpI; intro p q; repeat' split
                    all_goals (repeat' split at p)
                    all_goals (repeat' split at q)
                    all_goals omega
theorem less_irr : ∀ a : List UInt8, Op.bytesLess a a = false
  | [] => rfl
  | a :: x => by
    have ih := less_irr x
    have h : decide (a < a) = false := decide_eq_false (fun g => by have := UInt8.lt_iff_toNat_lt.1 g; omega)
    simp only [Op.bytesLess, h, ih, Bool.and_false, Bool.or_false]
theorem less_trans : ∀ a b c : List UInt8, Op.bytesLess a b = true → Op.bytesLess b c = true → Op.bytesLess a c = true
  | [], [], _, h, _ => by simp [Op.bytesLess] at h
  | _ :: _, [], _, h, _ => by simp [Op.bytesLess] at h
  | _, _ :: _, [], _, h => by simp [Op.bytesLess] at h
  | [], _ :: _, _ :: _, _, _ => by simp [Op.bytesLess]
  | a :: x, b :: y, c :: z, h1, h2 => by
    have ih := less_trans x y z
    simp only [Op.bytesLess, Bool.or_eq_true, Bool.and_eq_true, decide_eq_true_eq, beq_iff_eq, UInt8.lt_iff_toNat_lt] at h1 h2 ⊢
    rcases h1 with h1 | ⟨rfl, h1⟩ <;> rcases h2 with h2 | ⟨rfl, h2⟩
    · exact Or.inl (by omega)
    · exact Or.inl h1
    · exact Or.inl h2
    · exact Or.inr ⟨rfl, ih h1 h2⟩
theorem less_tot : ∀ a b : List UInt8, Op.bytesLess a b = false → Op.bytesLess b a = false → a = b
  | [], [], _, _ => rfl
  | [], _ :: _, h, _ => by simp [Op.bytesLess] at h
  | _ :: _, [], _, h => by simp [Op.bytesLess] at h
  | a :: x, b :: y, h1, h2 => by
    have ih := less_tot x y
    simp only [Op.bytesLess, Bool.or_eq_false_iff, decide_eq_false_iff_not, UInt8.lt_iff_toNat_lt] at h1 h2
    obtain rfl : a = b := UInt8.toNat_inj.1 (by omega)
    simp only [beq_self_eq_true, Bool.true_and] at h1 h2
    rw [ih h1.2 h2.2]
theorem less_asym (a b : List UInt8) (h : Op.bytesLess a b = true) : Op.bytesLess b a = false := by
  rw [Bool.eq_false_iff]
  intro g
  have := less_trans a b a h g
  rw [less_irr] at this
  cases this
def cmpB (a b : List UInt8) : Int := if Op.bytesLess a b = true then -1 else if Op.bytesLess b a = true then 1 else 0
theorem cmpB_zero (a b : List UInt8) (h : cmpB a b = 0) : a = b := by
  unfold cmpB at h
  by_cases p : Op.bytesLess a b = true
  · rw [if_pos p] at h; omega
  · rw [if_neg p] at h
    by_cases q : Op.bytesLess b a = true
    · rw [if_pos q] at h; omega
    · exact less_tot a b (Bool.eq_false_iff.2 p) (Bool.eq_false_iff.2 q)
theorem cmpB_le (a b : List UInt8) : cmpB a b ≤ 0 ↔ Op.bytesLess b a = false := by
  unfold cmpB
  by_cases p : Op.bytesLess a b = true
  · rw [if_pos p]
    exact ⟨fun _ => less_asym a b p, fun _ => by omega⟩
  · rw [if_neg p]
    by_cases q : Op.bytesLess b a = true
    · rw [if_pos q, q]; simp
    · rw [if_neg q, Bool.eq_false_iff.2 q]; simp
theorem ord_bytes : Ord3 cmpB where
  rng a b := by unfold cmpB; split; · exact Or.inl rfl
                · split; · exact Or.inr (Or.inr rfl)
                  · exact Or.inr (Or.inl rfl)
  anti a b := by
    unfold cmpB
    by_cases p : Op.bytesLess a b = true
    · rw [if_pos p, less_asym a b p, if_pos p]; simp
    · rw [if_neg p]
      by_cases q : Op.bytesLess b a = true
      · simp [q, p]
      · simp [q, p]
  trans a b d := by
    rw [cmpB_le, cmpB_le, cmpB_le]
    intro p q
    rw [Bool.eq_false_iff]
    intro g
    by_cases h : Op.bytesLess a b = true
    · rw [less_trans d a b g h] at q; cases q
    · obtain rfl := less_tot a b (Bool.eq_false_iff.2 h) p
      rw [g] at q; cases q
def cmpW (a b : Wl) : Int :=
  if a.1 < b.1 then -1 else if a.1 > b.1 then 1
  else if a.1 = 8 then cmpB a.2 b.2
  else if a.1 = 9 ∨ a.1 = 10 then (if cmpI a.2.length b.2.length = 0 then cmpB a.2 b.2 else cmpI a.2.length b.2.length)
  else 0
def keyN (a : Wl) : Int := if a.1 = 9 ∨ a.1 = 10 then a.2.length else 0
def keyB (a : Wl) : List UInt8 := if a.1 = 8 ∨ a.1 = 9 ∨ a.1 = 10 then a.2 else []
theorem cmpB_nil : cmpB [] [] = 0 := by decide
theorem cmpW_key (a b : Wl) : cmpW a b = if cmpI a.1 b.1 = 0 then (if cmpI (keyN a) (keyN b) = 0 then cmpB (keyB a) (keyB b) else cmpI (keyN a) (keyN b)) else cmpI a.1 b.1 := by
  unfold cmpW
  have ci : cmpI a.1 b.1 = if a.1 < b.1 then -1 else if a.1 > b.1 then 1 else 0 := rfl
  by_cases p : a.1 < b.1
  · rw [if_pos p] at ci
    rw [if_pos p, ci]; rfl
  · by_cases q : a.1 > b.1
    · rw [if_neg p, if_pos q] at ci
      rw [if_neg p, if_pos q, ci]; rfl
    · have e : a.1 = b.1 := by omega
      rw [if_neg p, if_neg q] at ci
      rw [if_neg p, if_neg q, ci, if_pos rfl]
      unfold keyN keyB
      rw [← e]
      have z0 : cmpI 0 0 = 0 := rfl
      by_cases h8 : a.1 = 8
      · have n9 : ¬ (a.1 = 9 ∨ a.1 = 10) := by omega
        have k : a.1 = 8 ∨ a.1 = 9 ∨ a.1 = 10 := Or.inl h8
        simp only [if_pos h8, if_neg n9, if_pos k, if_pos z0]
      · by_cases h9 : a.1 = 9 ∨ a.1 = 10
        · have k : a.1 = 8 ∨ a.1 = 9 ∨ a.1 = 10 := Or.inr h9
          simp only [if_neg h8, if_pos h9, if_pos k]
        · have k : ¬ (a.1 = 8 ∨ a.1 = 9 ∨ a.1 = 10) := by omega
          simp only [if_neg h8, if_neg h9, if_neg k, if_pos z0, cmpB_nil]
theorem ord_word : Ord3 cmpW := by
  have h := (ord_int.comap (fun a : Wl => a.1)).lex ((ord_int.comap keyN).lex (ord_bytes.comap keyB))
  have e : cmpW = fun a b => if cmpI a.1 b.1 = 0 then (if cmpI (keyN a) (keyN b) = 0 then cmpB (keyB a) (keyB b) else cmpI (keyN a) (keyN b)) else cmpI a.1 b.1 := by
    funext a b; exact cmpW_key a b
  rw [e]
  exact h
def hdW : List Wl → Wl
  | [] => (6, [])
  | w :: _ => w
def cmpN : Nat → List Wl → List Wl → Int
  | 0, _, _ => 0
  | n + 1, x, y => if cmpW (hdW x) (hdW y) = 0 then cmpN n x.tail y.tail else cmpW (hdW x) (hdW y)
theorem ord_words : ∀ n, Ord3 (cmpN n)
  | 0 => Ord3.zero
  | n + 1 => (ord_word.comap hdW).lex ((ord_words n).comap List.tail)
theorem cmpN_succ (n : Nat) (x y : List Wl) : cmpN (n + 1) x y = if cmpW (hdW x) (hdW y) = 0 then cmpN n x.tail y.tail else cmpW (hdW x) (hdW y) := rfl
theorem cmpN_nil : ∀ n, cmpN n [] [] = 0
  | 0 => rfl
  | n + 1 => by
    have e : cmpW (hdW []) (hdW []) = 0 := ord_word.self _
    rw [cmpN, if_pos e]
    exact cmpN_nil n
def mostN : Nat := 100100
def cmpV (a b : List UInt8) : Int := cmpN mostN (splitL a) (splitL b)
end Go.Proofs.YtgdjfcmmpjcaaaaDoor.Pure
namespace Go.Proofs.YtgdjfcmmpjcaaaaDoor.Pure
open Go Go.RowKit Go.Proofs.YtgdjfcmmpjcaaaaDoor.Q Go.Proofs.YtgdjfcmmpjcaaaaDoorW.PrintWords Go.Proofs.YtgdjfcmmpjcaaaaDoorW.PrintLast Go.Proofs.YtgdjfcmmpjcaaaaDoorW.Own Go.Proofs.YtgdjfcmmpjcaaaaDoorW.PrintMore Go.Proofs.YtgdjfcmmpjcaaaaDoorW.Px
set_option linter.unusedSimpArgs false
set_option linter.unusedVariables false
theorem cmp_told3 (a b : List UInt8) : cmp_Compare_string.f (ts a) (ts b) = some (cmpB a b) := cmp_str a b
theorem word_cmp (x y : Wl) (k : Nat) (hk : 10 ≤ k) : order_word.f k x.1 (ts x.2) y.1 (ts y.2) = some (cmpW x y) := by
  have len : ∀ k, 9 ≤ k → order_word.j0 (k + 1) true x.1 (ts x.2) y.1 (ts y.2) = some (if cmpI x.2.length y.2.length = 0 then cmpB x.2 y.2 else cmpI x.2.length y.2.length) := by
    intro k hk
    rw [order_word.j0, if_pos rfl, cmp_int, Option.bind_some, cmp_told3, Option.bind_some, or_two _ _ _ (by omega), Option.bind_some, ts_size, ts_size]
    rfl
  unfold order_word.f cmpW
  rw [cmp_int, Option.bind_some]
  by_cases p : x.1 < y.1
  · rw [if_pos p, if_pos p, if_neg (by decide)]
  · by_cases q : x.1 > y.1
    · rw [if_neg p, if_pos q, if_neg p, if_pos q, if_neg (by decide)]
    · rw [if_neg p, if_neg q, if_neg p, if_neg q, if_pos rfl]
      by_cases e8 : x.1 = 8
      · rw [if_pos e8, if_pos e8, cmp_told3, Option.bind_some]
      · rw [if_neg e8, if_neg e8]
        obtain ⟨k, rfl⟩ : ∃ i, k = i + 1 := ⟨k - 1, by omega⟩
        by_cases e9 : x.1 = 9
        · rw [if_pos e9, show (x.1 == 9) = true from beq_iff_eq.2 e9, len k (by omega), if_pos (Or.inl e9)]
        · rw [if_neg e9]
          by_cases e10 : x.1 = 10
          · rw [show (x.1 == 10) = true from beq_iff_eq.2 e10, len k (by omega), if_pos (Or.inr e10)]
          · rw [show (x.1 == 10) = false from beq_eq_false_iff_ne.2 e10, order_word.j0, if_neg (by decide), if_neg (by rintro (h | h) <;> omega)]
theorem at_cmp (l : List Wl) (i : Nat) : order_at.f (l.map w38) (i : Int) = some (pr (hdW (l.drop i))) := by
  unfold order_at.f
  rw [List.length_map]
  by_cases h : (i : Int) < (l.length : Int)
  · have hi : i < l.length := by omega
    rw [if_pos h, if_pos (by omega), List.drop_eq_getElem_cons hi]
    unfold rd_T38
    rw [Int.toNat_natCast, List.getD_eq_getElem?_getD, List.getElem?_map, List.getElem?_eq_getElem hi]
    rfl
  · rw [if_neg h, List.drop_eq_nil_of_le (by omega)]
    rfl
theorem tail_drop (l : List Wl) (i : Nat) : (l.drop i).tail = l.drop (i + 1) := by rw [List.tail_drop]
theorem words_cmp (x y : List Wl) (hx : x.length ≤ 100100) (hy : y.length ≤ 100100) : ∀ (d i : Nat), i ≤ 100100 → x.length ≤ i + d → y.length ≤ i + d →
    Tot (fun k => order_Words.l0 k (x.map w38) (y.map w38) (i : Int)) (fun r => r = cmpN (d + 1) (x.drop i) (y.drop i)) := by
  have hm : ∀ i : Nat, (i : Int) < mx (x.length : Int) (y.length : Int) ↔ i < x.length ∨ i < y.length := by
    intro i
    unfold mx
    split <;> omega
  intro d
  induction d with
  | zero =>
    intro i hi h1 h2
    refine tot_succ ?_ (fun k => by rw [order_Words.l0])
    rw [at_cmp, at_cmp]
    simp only [Option.bind_some, pr]
    refine tot_bind (tot_ge 10 (fun k hk => word_cmp (hdW (x.drop i)) (hdW (y.drop i)) k hk)) (fun r hr => ?_)
    subst hr
    have nb : ¬ wrap64 ((i : Int) + 1) < mx ((x.map w38).length : Int) ((y.map w38).length : Int) := by
      rw [List.length_map, List.length_map, next_of i (by omega), hm]; omega
    refine tot_if (fun z => tot_if (fun h => absurd h nb) (fun _ => tot_some ?_)) (fun z => tot_some ?_)
    · rw [cmpN_succ, if_pos z, z]; rfl
    · rw [cmpN_succ, if_neg z]
  | succ d ih =>
    intro i hi h1 h2
    refine tot_succ ?_ (fun k => by rw [order_Words.l0])
    rw [at_cmp, at_cmp]
    simp only [Option.bind_some, pr]
    refine tot_bind (tot_ge 10 (fun k hk => word_cmp (hdW (x.drop i)) (hdW (y.drop i)) k hk)) (fun r hr => ?_)
    subst hr
    rw [List.length_map, List.length_map, next_of i (by omega)]
    refine tot_if (fun z => tot_if (fun h => ?_) (fun h => tot_some ?_)) (fun z => tot_some ?_)
    · have hb := (hm _).1 h
      refine tot_imp (ih (i + 1) (by omega) (by omega) (by omega)) (fun r hr => ?_)
      rw [hr, cmpN_succ (d + 1), if_pos z, tail_drop, tail_drop]
    · rw [hm] at h
      rw [cmpN_succ (d + 1), if_pos z, tail_drop, tail_drop, List.drop_eq_nil_of_le (show x.length ≤ i + 1 by omega), List.drop_eq_nil_of_le (show y.length ≤ i + 1 by omega), cmpN_nil, z]
    · rw [cmpN_succ (d + 1), if_neg z]
theorem compare_cmp (a b : List UInt8) (ha : a.length ≤ 100000) (hb : b.length ≤ 100000) : Tot (fun k => order_Compare.f k (ts a) (ts b)) (fun r => r = cmpV a b) := by
  have sa := splitL_len a
  have sb := splitL_len b
  unfold order_Compare.f order_Words.f
  refine tot_bind (tot_ge 400000 (fun k hk => split_told a ha k (by omega))) (fun x hx => ?_)
  subst hx
  refine tot_bind (tot_ge 400000 (fun k hk => split_told b hb k (by omega))) (fun y hy => ?_)
  subst hy
  refine tot_bind (words_cmp (splitL a) (splitL b) (by omega) (by omega) 100099 0 (by omega) (by omega) (by omega)) (fun r hr => tot_some ?_)
  rw [hr, List.drop_zero, List.drop_zero]
  rfl
theorem ref_parts_loop (v : List UInt8) (hv : v.length ≤ 1000000) : ∀ (d i k : Nat) (r : List Pt × Pt), i + d = v.length → r.1.length ≤ i → r.2.tx.length ≤ i →
    newelref05_parts.l0 (k + d + 1) (ts v) ((allP r).map p98) (i : Int) = some ((allP (runP r (v.drop i))).map p98) := by
  intro d
  induction d with
  | zero =>
    intro i k r h _ _
    rw [newelref05_parts.l0, if_neg (by rw [ts_size]; omega), List.drop_eq_nil_of_le (by omega)]
    rfl
  | succ d ih =>
    intro i k r h h1 h2
    have hi : i < v.length := by omega
    have q0 : (i : Int) < ((ts v).size : Int) := by rw [ts_size]; omega
    have hl := all_len p98 r
    have hx : wrap64 ((((allP r).map p98).length : Int) - 1) = (r.1.length : Int) := by rw [hl]; exact last_of _ (by omega)
    have q1 : (0 : Int) ≤ (r.1.length : Int) := by omega
    have q2 : (r.1.length : Int) < (((allP r).map p98).length : Int) := by rw [hl]; omega
    have q3 : (0 : Int) ≤ (i : Int) := by omega
    have q4 : ((allP r).map p98).length < 5864062014805 := by rw [hl]; omega
    have q5 : (i : Int) ≤ ((i + 1 : Nat) : Int) := by omega
    have q6 : ((i + 1 : Nat) : Int) ≤ ((ts v).size : Int) := by rw [ts_size]; omega
    have hn := next_of i (by omega)
    have hr : rd_T98 ((allP r).map p98) (r.1.length : Int) = p98 r.2 := all_getD p98 r _
    have hb := bt_nat v i hi
    have step : ∀ r', stepP r v[i] = r' → r'.1.length ≤ i + 1 → r'.2.tx.length ≤ i + 1 → newelref05_parts.l0 (k + d + 1) (ts v) ((allP r').map p98) ((i + 1 : Nat) : Int) = some ((allP (runP r (v.drop i))).map p98) := by
      intro r' e a b
      rw [ih (i + 1) k r' (by omega) a b, runP_drop r v i hi, e]
    rw [show k + (d + 1) + 1 = (k + d + 1) + 1 from by omega, newelref05_parts.l0, if_pos q0, hx, if_pos q1, if_pos q2, if_pos q3, hr, hb, hn]
    generalize hc : v[i] = c at *
    by_cases c1 : c = 46
    · rw [if_pos (by rw [c1]; rfl), if_pos q4, all_add p98 r ⟨[], c == 45, false⟩ _ (by rw [c1]; rfl)]
      exact step _ (stepP_sep r c (Or.inl c1)) (by simp; omega) (by simp)
    · rw [if_neg (by rw [show (46 : Int) = ((46 : Nat) : Int) from rfl, beq_toNat c 46 (by omega)]; exact c1)]
      by_cases c2 : c = 45
      · rw [if_pos (by rw [c2]; rfl), if_pos q4, all_add p98 r ⟨[], c == 45, false⟩ _ (by rw [c2]; rfl)]
        exact step _ (stepP_sep r c (Or.inr c2)) (by simp; omega) (by simp)
      · rw [if_neg (by rw [show (45 : Int) = ((45 : Nat) : Int) from rfl, beq_toNat c 45 (by omega)]; exact c2)]
        have nc : ¬ (c = 46 ∨ c = 45) := by rintro (h | h); exact c1 h; exact c2 h
        have e1 : (ts v).extract ((i : Nat) : Int).toNat ((i + 1 : Nat) : Int).toNat = ts [c] := by rw [byte_at v i hi, hc]
        have q7 : (p98 r.2).f0.size + (ts [c]).size ≤ 9223372036854775807 := by show (ts r.2.tx).size + (ts [c]).size ≤ _; rw [ts_size, ts_size]; simp; omega
        have same : likeP r.2.tx c = true → (if (p98 r.2).f0.size + ((ts v).extract ((i : Nat) : Int).toNat ((i + 1 : Nat) : Int).toNat).size ≤ 9223372036854775807 then (newelref05_parts.l0 (k + d + 1) (ts v) (((allP r).map p98).set ((r.1.length : Int)).toNat (⟨(p98 r.2).f0 ++ ((ts v).extract ((i : Nat) : Int).toNat ((i + 1 : Nat) : Int).toNat), (p98 r.2).f1, (p98 r.2).f2⟩ : S98)) ((i + 1 : Nat) : Int)) else none) = some ((allP (runP r (v.drop i))).map p98) := by
          intro lk
          rw [e1, if_pos q7, all_put p98 r ⟨r.2.tx ++ [c], r.2.da, r.2.nu⟩ _ (by unfold p98; rw [ts_append])]
          exact step _ (stepP_like r c nc lk) (by simp; omega) (by simp; omega)
        by_cases z : r.2.tx = []
        · have z' : (p98 r.2).f0.toList = ([] : List UInt8) := by show (ts r.2.tx).toList = []; rw [ts_toList]; exact z
          rw [if_pos z', if_pos q5, if_pos q6]
          exact same (by rw [z]; rfl)
        · have z' : ¬ (p98 r.2).f0.toList = ([] : List UInt8) := by show ¬ (ts r.2.tx).toList = []; rw [ts_toList]; exact z
          have zl : 0 < r.2.tx.length := List.length_pos_iff.2 z
          obtain ⟨n, hn'⟩ : ∃ n, r.2.tx.length = n + 1 := ⟨r.2.tx.length - 1, by omega⟩
          have hs : ((p98 r.2).f0.size : Int) = ((n + 1 : Nat) : Int) := by show ((ts r.2.tx).size : Int) = _; rw [ts_size, hn']
          have ht : bt (p98 r.2).f0 ((n : Nat) : Int) = (((r.2.tx.getLast z).toNat : Nat) : Int) := by
            show bt (ts r.2.tx) _ = _
            rw [bt_nat _ n (by omega), List.getLast_eq_getElem]
            congr 3
            omega
          rw [if_neg z', hs, last_of n (by omega), if_pos (by omega), if_pos (by omega), ht, digit_ref, Option.bind_some, digit_ref, Option.bind_some]
          by_cases e : isD (r.2.tx.getLast z) = isD c
          · rw [if_neg (by rw [e]; simp), if_pos q5, if_pos q6]
            exact same (by rw [like_last _ _ z, e]; simp)
          · rw [if_pos (by simpa using e), Option.bind_some, Option.bind_some]
            have ea : ((allP r).map p98).set ((r.1.length : Int)).toNat (⟨(p98 r.2).f0, (p98 r.2).f1, isD c⟩ : S98) = (allP (r.1, ⟨r.2.tx, r.2.da, isD c⟩)).map p98 := all_put p98 r _ _ rfl
            rw [ea]
            have la := all_len p98 (r.1, ⟨r.2.tx, r.2.da, isD c⟩)
            have q8 : ((allP (r.1, ⟨r.2.tx, r.2.da, isD c⟩)).map p98).length < 5864062014805 := by rw [la]; simp; omega
            rw [if_pos q8, Option.bind_some, all_add p98 (r.1, ⟨r.2.tx, r.2.da, isD c⟩) ⟨[], true, false⟩ (⟨(⟨#[]⟩ : ByteArray), true, false⟩ : S98) rfl]
            generalize hR : ((r.1 ++ [(⟨r.2.tx, r.2.da, isD c⟩ : Pt)], (⟨[], true, false⟩ : Pt)) : List Pt × Pt) = R
            have R1 : R.1 = r.1 ++ [(⟨r.2.tx, r.2.da, isD c⟩ : Pt)] := by rw [← hR]
            have R2 : R.2 = ⟨[], true, false⟩ := by rw [← hR]
            have Rl : R.1.length = r.1.length + 1 := by rw [R1]; simp
            have lR := all_len p98 R
            have hxR : wrap64 ((((allP R).map p98).length : Int) - 1) = (R.1.length : Int) := by rw [lR]; exact last_of _ (by omega)
            have hrR : rd_T98 ((allP R).map p98) (R.1.length : Int) = p98 R.2 := all_getD p98 R _
            rw [hxR, if_pos (by omega), if_pos (by rw [lR]; omega), if_pos q5, if_pos q6, hrR, e1]
            have q9 : (p98 R.2).f0.size + (ts [c]).size ≤ 9223372036854775807 := by rw [R2]; show (ts []).size + (ts [c]).size ≤ _; rw [ts_size, ts_size]; simp
            rw [if_pos q9, all_put p98 R ⟨[c], true, false⟩ _ (by rw [R2]; unfold p98; rw [ts_append]; rfl)]
            exact step (R.1, ⟨[c], true, false⟩) (by rw [stepP_new r c nc (by rw [like_last _ _ z]; simpa using e), R1]) (by simp; omega) (by simp)
theorem ref_parts_told (v : List UInt8) (hv : v.length ≤ 1000000) (k : Nat) (hk : v.length + 1 ≤ k) : newelref05_parts.f k (ts v) = some ((partsL v).map p98) := by
  have := ref_parts_loop v hv v.length 0 (k - v.length - 1) p0 (by omega) (by simp [p0]) (by simp [p0])
  rw [show k - v.length - 1 + v.length + 1 = k from by omega] at this
  exact this
theorem number_loop (da nu : Bool) (o : ByteArray) : ∀ (t : List UInt8) (k : Nat), newelref05_number.l0 (k + t.length + 2) (ts t) o da nu = some (pr (numL t da)) := by
  have e : ∀ (t : List UInt8) (k : Nat), newelref05_number.j1 (k + 1) (ts t) o da nu = if t = [] then some (pr (6, [])) else if da = true then some (pr (9, t)) else some (pr (10, t)) := by
    intro t k
    rw [newelref05_number.j1, ts_toList]; rfl
  intro t
  induction t with
  | nil => intro k; rw [show k + ([] : List UInt8).length + 2 = k + 1 + 1 from rfl, newelref05_number.l0, if_neg (by decide), e, if_pos rfl]; rfl
  | cons c t ih =>
    intro k
    have hb : bt (ts (c :: t)) 0 = (c.toNat : Int) := bt_nat (c :: t) 0 (by simp)
    have hz : ((ts (c :: t)).size : Int) > 0 := by rw [ts_size, List.length_cons]; omega
    rw [show k + (c :: t).length + 2 = (k + t.length + 2) + 1 from by simp; omega, newelref05_number.l0, if_pos hz, if_pos hz, hb]
    by_cases h : c = 48
    · rw [if_pos (by rw [h]; rfl), if_pos (by omega)]
      have : (ts (c :: t)).extract 1 (ts (c :: t)).size = ts t := by
        apply ba_ext
        rw [ba_extract, ts_list, ts_list, ts_size, List.take_length]; rfl
      rw [this, ih]
      have hd : (c :: t).dropWhile (· == 48) = t.dropWhile (· == 48) := by rw [List.dropWhile_cons, if_pos (by rw [h]; rfl)]
      unfold numL
      rw [hd]
    · rw [if_neg (by rw [show (48 : Int) = ((48 : Nat) : Int) from rfl, beq_toNat c 48 (by omega)]; exact h), e, if_neg (List.cons_ne_nil c t)]
      unfold numL
      have hd : (c :: t).dropWhile (· == 48) = c :: t := by rw [List.dropWhile_cons, if_neg (by simpa using h)]
      rw [hd, if_neg (List.cons_ne_nil c t)]
      by_cases d : da = true
      · rw [if_pos d, if_pos d]
      · rw [if_neg d, if_neg d]
theorem ref_word_told (p : Pt) (k : Nat) (hk : p.tx.length + 10 ≤ k) : newelref05_word.f k (p98 p).f0 (p98 p).f1 (p98 p).f2 = some (pr (wordL p)) := by
  obtain ⟨t, da, nu⟩ := p
  obtain ⟨j, rfl⟩ : ∃ j, k = j + 1 + 1 + 1 + 1 := ⟨k - 4, by omega⟩
  show newelref05_word.f (j + 1 + 1 + 1 + 1) (ts t) da nu = _
  have nums : newelref05_word.j0 (j + 1 + 1 + 1 + 1) true (ts t) da nu = some (pr (numL t da)) := by
    have := number_loop da nu (ts t) t (j + 1 + 1 + 1 - (t.length + 2))
    rw [show j + 1 + 1 + 1 - (t.length + 2) + t.length + 2 = j + 1 + 1 + 1 from by dsimp only at hk; omega] at this
    rw [newelref05_word.j0, if_pos rfl]
    unfold newelref05_number.f
    rw [this]; rfl
  have j3 : ∀ (i : Nat) (n : Int), newelref05_word.j3 (i + 1) n (ts t) da nu = some (pr (if nu = true ∧ t = [97] then (1, []) else if nu = true ∧ t = [98] then (2, []) else if nu = true ∧ t = [109] then (3, []) else if n = 8 then (n, t) else (n, []))) := by
    intro i n
    rw [newelref05_word.j3, ts_toList]
    by_cases hn : nu = true
    · rw [if_pos hn]
      simp only [hn, true_and]
      by_cases h1 : t = [97]
      · rw [if_pos h1, if_pos h1]; rfl
      · rw [if_neg h1, if_neg h1]
        by_cases h2 : t = [98]
        · rw [if_pos h2, if_pos h2]; rfl
        · rw [if_neg h2, if_neg h2]
          by_cases h3 : t = [109]
          · rw [if_pos h3, if_pos h3]; rfl
          · rw [if_neg h3, if_neg h3]
            by_cases h8 : n = 8
            · rw [if_pos h8, if_pos h8]; rfl
            · rw [if_neg h8, if_neg h8]; rfl
    · have na : ∀ c, ¬ (nu = true ∧ t = c) := fun c h => hn h.1
      rw [if_neg hn, if_neg (na [97]), if_neg (na [98]), if_neg (na [109])]
      by_cases h8 : n = 8
      · rw [if_pos h8, if_pos h8]; rfl
      · rw [if_neg h8, if_neg h8]; rfl
  have lets : newelref05_word.j0 (j + 1 + 1 + 1 + 1) false (ts t) da nu = some (pr (letL t nu)) := by
    by_cases hx : nu = true ∧ (t = [97] ∨ t = [98] ∨ t = [109])
    · obtain ⟨hn, hx⟩ := hx
      subst hn
      rw [newelref05_word.j0, ts_toList, if_neg (by simp)]
      rcases hx with rfl | rfl | rfl
      · rw [if_neg (by decide), if_neg (by decide), if_neg (by decide), if_neg (by decide), newelref05_word.j1, ts_toList, if_neg (by decide), if_neg (by decide), if_neg (by decide), if_neg (by decide), newelref05_word.j2, ts_toList, if_neg (by decide), if_neg (by decide), j3]; rfl
      · rw [if_neg (by decide), if_neg (by decide), if_neg (by decide), if_neg (by decide), newelref05_word.j1, ts_toList, if_neg (by decide), if_neg (by decide), if_neg (by decide), if_neg (by decide), newelref05_word.j2, ts_toList, if_neg (by decide), if_neg (by decide), j3]; rfl
      · rw [if_neg (by decide), if_neg (by decide), if_neg (by decide), if_neg (by decide), newelref05_word.j1, ts_toList, if_neg (by decide), if_neg (by decide), if_neg (by decide), if_neg (by decide), newelref05_word.j2, ts_toList, if_neg (by decide), if_neg (by decide), j3]; rfl
    · have ka : ∀ c, (c = [97] ∨ c = [98] ∨ c = [109]) → (nu = true ∧ t = c) = False := by
        intro c hc
        apply eq_false
        rintro ⟨h1, h2⟩
        exact hx ⟨h1, h2 ▸ hc⟩
      simp only [ka [97] (by simp), ka [98] (by simp), ka [109] (by simp), if_false] at j3
      unfold letL
      rw [kindL_plain t nu ka, newelref05_word.j0, ts_toList, if_neg (by simp)]
      by_cases h1 : t = tA
      · rw [if_pos h1, if_pos h1, j3]; rfl
      · rw [if_neg h1, if_neg h1]
        by_cases h2 : t = tB
        · rw [if_pos h2, if_pos h2, j3]; rfl
        · rw [if_neg h2, if_neg h2]
          by_cases h3 : t = tM
          · rw [if_pos h3, if_pos h3, j3]; rfl
          · rw [if_neg h3, if_neg h3]
            have j2 : ∀ b, (¬ b = true → ¬ (t = tGa ∨ t = tFi ∨ t = tRe)) → (b = true → (t = tGa ∨ t = tFi ∨ t = tRe)) → newelref05_word.j2 (j + 1 + 1) 8 (ts t) b (ts t) da nu = some (pr (if (if t = tGa ∨ t = tFi ∨ t = tRe then (6 : Int) else if t = tSp then 7 else 8) = 8 then (8, t) else ((if t = tGa ∨ t = tFi ∨ t = tRe then (6 : Int) else if t = tSp then 7 else 8), []))) := by
              intro b hb1 hb2
              rw [newelref05_word.j2, ts_toList]
              by_cases hb : b = true
              · rw [if_pos hb, if_pos (hb2 hb), j3]; rfl
              · rw [if_neg hb, if_neg (hb1 hb)]
                by_cases h7 : t = tSp
                · rw [if_pos h7, if_pos h7, j3]; rfl
                · rw [if_neg h7, if_neg h7, j3]
            have j1 : ∀ b, (¬ b = true → ¬ (t = tRc ∨ t = tCr)) → (b = true → (t = tRc ∨ t = tCr)) → newelref05_word.j1 (j + 1 + 1 + 1) 8 (ts t) b (ts t) da nu = some (pr (if (if t = tRc ∨ t = tCr then (4 : Int) else if t = tS then 5 else if t = tGa ∨ t = tFi ∨ t = tRe then (6 : Int) else if t = tSp then 7 else 8) = 8 then (8, t) else ((if t = tRc ∨ t = tCr then (4 : Int) else if t = tS then 5 else if t = tGa ∨ t = tFi ∨ t = tRe then (6 : Int) else if t = tSp then 7 else 8), []))) := by
              intro b hb1 hb2
              rw [newelref05_word.j1, ts_toList]
              by_cases hb : b = true
              · rw [if_pos hb, if_pos (hb2 hb), j3]; rfl
              · rw [if_neg hb, if_neg (hb1 hb)]
                by_cases h5 : t = tS
                · rw [if_pos h5, if_pos h5, j3]; rfl
                · rw [if_neg h5, if_neg h5]
                  by_cases h6 : t = tGa
                  · rw [if_pos h6]; exact j2 _ (fun h => absurd (by rw [show t = [103, 97] from h6]; rfl) h) (fun _ => Or.inl h6)
                  · rw [if_neg h6]
                    by_cases h8 : t = tFi
                    · rw [if_pos h8]; exact j2 _ (fun h => absurd (by rw [show t = [102, 105, 110, 97, 108] from h8]; rfl) h) (fun _ => Or.inr (Or.inl h8))
                    · rw [if_neg h8]
                      refine j2 _ ?_ ?_
                      · rintro h (g | g | g)
                        · exact h6 g
                        · exact h8 g
                        · exact h (by rw [show t = [114, 101, 108, 101, 97, 115, 101] from g]; rfl)
                      · intro h; exact Or.inr (Or.inr (beq_iff_eq.1 h))
            by_cases h4 : t = tRc
            · rw [if_pos h4]; exact j1 _ (fun h => absurd (by rw [show t = [114, 99] from h4]; rfl) h) (fun _ => Or.inl h4)
            · rw [if_neg h4]
              refine j1 _ ?_ ?_
              · rintro h (g | g)
                · exact h4 g
                · exact h (by rw [show t = [99, 114] from g]; rfl)
              · intro h; exact Or.inr (beq_iff_eq.1 h)
  unfold newelref05_word.f wordL
  rw [ts_toList]
  cases t with
  | nil => rw [if_pos rfl, nums]; rfl
  | cons c t =>
    have hb : bt (ts (c :: t)) 0 = (c.toNat : Int) := bt_nat (c :: t) 0 (by simp)
    rw [if_neg (by simp), if_pos (by rw [ts_size, List.length_cons]; omega), hb, digit_ref, Option.bind_some]
    show _ = some (pr (if isD c = true then numL (c :: t) da else letL (c :: t) nu))
    by_cases d : isD c = true
    · rw [if_pos d, d]; exact nums
    · rw [if_neg d, Bool.eq_false_iff.2 d]; exact lets
theorem lower_loop (v : List UInt8) (hv : v.length ≤ 1000000) : ∀ (d i k : Nat), i + d = v.length → newelref01_Lower.l0 (k + d + 1) (ts v) ((v.take i).map fun c => toN (lowB c)) (i : Int) = some (ts (v.map lowB)) := by
  intro d
  induction d with
  | zero =>
    intro i k h
    rw [newelref01_Lower.l0, if_neg (by rw [ts_size]; omega), List.take_of_length_le (by omega), ← nums_ts, List.map_map]
    rfl
  | succ d ih =>
    intro i k h
    have hi : i < v.length := by omega
    have q0 : (i : Int) < ((ts v).size : Int) := by rw [ts_size]; omega
    have q1 : (0 : Int) ≤ (i : Int) := by omega
    have q2 : ((v.take i).map fun c => toN (lowB c)).length < 140737488355328 := by rw [List.length_map, List.length_take]; omega
    have hb := bt_nat v i hi
    have hn := next_of i (by omega)
    have step : newelref01_Lower.l0 (k + d + 1) (ts v) (((v.take i).map fun c => toN (lowB c)) ++ [toN (lowB v[i])]) ((i + 1 : Nat) : Int) = some (ts (v.map lowB)) := by
      have := ih (i + 1) k (by omega)
      rw [List.take_succ_eq_append_getElem hi, List.map_append] at this
      exact this
    have ln := low_num v[i]
    have lt := (v[i]).toNat_lt
    rw [show k + (d + 1) + 1 = (k + d + 1) + 1 from by omega, newelref01_Lower.l0, if_pos q0, if_pos q1, hb, hn]
    by_cases a : ((v[i].toNat : Nat) : Int) ≥ 65
    · rw [if_pos a]
      by_cases b : ((v[i].toNat : Nat) : Int) ≤ 90
      · rw [if_pos b, if_pos q2]
        rw [if_pos ⟨a, b⟩] at ln
        rw [show (((v[i].toNat : Nat) : Int) + 32) % 256 = ((v[i].toNat : Nat) : Int) + 32 from by omega, ln]
        exact step
      · rw [if_neg b, if_pos q2]
        rw [if_neg (fun h => b h.2)] at ln
        rw [ln]; exact step
    · rw [if_neg a, if_pos q2]
      rw [if_neg (fun h => a h.1)] at ln
      rw [ln]; exact step
theorem ref_lower_told (v : List UInt8) (hv : v.length ≤ 1000000) (k : Nat) (hk : v.length + 1 ≤ k) : newelref01_Lower.f k (ts v) = some (ts (v.map lowB)) := by
  have := lower_loop v hv v.length 0 (k - v.length - 1) (by omega)
  rw [show k - v.length - 1 + v.length + 1 = k from by omega] at this
  exact this
theorem ref_split_loop (l : List Pt) (M : Nat) (hM : ∀ p ∈ l, p.tx.length ≤ M) (hl : l.length ≤ 1000000) : ∀ (n : Nat) (out : List Wl) (k : Nat), n ≤ l.length → out.length + n ≤ 1000000 → M + 10 ≤ k →
    newelref05_Split.l0 (k + n + 1) (l.map p98) (out.map w38) ((n : Int) - 1) = some ((((l.take n).map wordL).foldr pushL out).map w38) := by
  intro n
  induction n with
  | zero =>
    intro out k _ _ _
    rw [newelref05_Split.l0, if_neg (by omega)]
    rfl
  | succ n ih =>
    intro out k h hs hk
    have hn : n < l.length := by omega
    have hx : (((n + 1 : Nat) : Int) - 1) = (n : Int) := by omega
    have hy : wrap64 ((n : Int) - 1) = (n : Int) - 1 := by unfold wrap64; omega
    have hm : (l.map p98).length = l.length := by simp
    have hr : rd_T98 (l.map p98) (n : Int) = p98 l[n] := by
      unfold rd_T98
      rw [Int.toNat_natCast, List.getD_eq_getElem?_getD, List.getElem?_map, List.getElem?_eq_getElem hn]
      rfl
    have fold : (((l.take (n + 1)).map wordL).foldr pushL out) = ((l.take n).map wordL).foldr pushL (pushL (wordL l[n]) out) := by
      rw [List.take_succ_eq_append_getElem hn, List.map_append, List.foldr_append]; rfl
    have hlen : (out.map w38).length = out.length := by simp
    have add : ¬ ((wordL l[n]).1 = 6 ∧ aheadL out = false) → ((some (([(⟨(pr (wordL l[n])).1, (pr (wordL l[n])).2⟩ : S38)] : List (S38)) : List (S38))).bind fun y => (if y.length + (out.map w38).length < 5864062014805 then (newelref05_Split.l0 (k + n + 1) (l.map p98) (y ++ out.map w38) ((n : Int) - 1)) else (none))) = some ((((l.take (n + 1)).map wordL).foldr pushL out).map w38) := by
      intro hp
      rw [Option.bind_some, if_pos (by rw [hlen]; simp; omega)]
      have := ih (wordL l[n] :: out) k (by omega) (by simp; omega) hk
      rw [fold, push_add _ _ hp, ← this]
      rfl
    have skip : (wordL l[n]).1 = 6 → aheadL out = false → newelref05_Split.l0 (k + n + 1) (l.map p98) (out.map w38) ((n : Int) - 1) = some ((((l.take (n + 1)).map wordL).foldr pushL out).map w38) := by
      intro h1 h2
      rw [ih out k (by omega) (by omega) hk, fold, push_skip _ _ h1 h2]
    rw [show k + (n + 1) + 1 = (k + n + 1) + 1 from by omega, newelref05_Split.l0, hx, if_pos (by omega), if_pos (by omega), if_pos (by rw [hm]; omega), hr, ref_word_told l[n] _ (by have := hM l[n] (List.getElem_mem hn); omega), Option.bind_some, hy]
    cases out with
    | nil =>
      rw [if_neg (by simp)]
      by_cases h6 : (pr (wordL l[n])).1 = 6
      · rw [if_pos h6]; exact skip h6 rfl
      · rw [if_neg h6]; exact add (fun h => h6 h.1)
    | cons o os =>
      have ho : ((o :: os).map w38).length = os.length + 1 := by simp
      have hz : rd_T38 ((o :: os).map w38) 0 = w38 o := rfl
      rw [if_pos (by rw [ho]; omega), if_pos (by rw [ho]; omega), hz]
      by_cases a6 : (w38 o).f0 = 6
      · rw [if_pos a6]
        have := add (fun h => ((ahead_cons o os).1 h.2).1 a6)
        by_cases h6 : (pr (wordL l[n])).1 = 6
        · rw [if_pos h6]; exact this
        · rw [if_neg h6]; exact this
      · rw [if_neg a6]
        by_cases h6 : (pr (wordL l[n])).1 = 6
        · rw [if_pos h6]
          by_cases a10 : (w38 o).f0 = 10
          · rw [if_pos a10]; exact add (fun h => ((ahead_cons o os).1 h.2).2 a10)
          · rw [if_neg a10]; exact skip h6 ((ahead_cons o os).2 ⟨a6, a10⟩)
        · rw [if_neg h6]; exact add (fun h => h6 h.1)
theorem ref_split_told (v : List UInt8) (hv : v.length ≤ 100000) (k : Nat) (hk : 3 * v.length + 40 ≤ k) : newelref05_Split.f k (ts v) = some ((splitL v).map w38) := by
  have hB := partsL_B (v.map lowB)
  rw [List.length_map] at hB
  unfold newelref05_Split.f
  rw [ref_lower_told v (by omega) k (by omega), Option.bind_some, ref_parts_told _ (by rw [List.length_map]; omega) k (by rw [List.length_map]; omega), Option.bind_some]
  have := ref_split_loop (partsL (v.map lowB)) v.length hB.1 (by omega) (partsL (v.map lowB)).length [] (k - (partsL (v.map lowB)).length - 1) (Nat.le_refl _) (by simp; omega) (by omega)
  rw [show k - (partsL (v.map lowB)).length - 1 + (partsL (v.map lowB)).length + 1 = k from by omega, List.take_length] at this
  rw [List.length_map, show wrap64 (((partsL (v.map lowB)).length : Int) - 1) = ((partsL (v.map lowB)).length : Int) - 1 from by unfold wrap64; omega]
  exact this
theorem ref_right_loop (v : List UInt8) (hv : v.length ≤ 1000000) : ∀ (d i k : Nat), i + d = v.length → newelref05_Right.l0 (k + d + 1) (ts v) (i : Int) = some (decide (1 ≤ v.length) && decide (v.length ≤ 100) && (v.drop i).all sign8) := by
  intro d
  induction d with
  | zero =>
    intro i k h
    rw [newelref05_Right.l0, if_neg (by rw [ts_size]; omega), List.drop_eq_nil_of_le (by omega), ts_size, List.all_nil, Bool.and_true]
    by_cases a : 1 ≤ v.length
    · rw [if_pos (by omega), decide_eq_true a, Bool.true_and]
      by_cases b : v.length ≤ 100
      · rw [decide_eq_true b, decide_eq_true (by omega)]
      · rw [decide_eq_false b, decide_eq_false (by omega)]
    · rw [if_neg (by omega), decide_eq_false a, Bool.false_and]
  | succ d ih =>
    intro i k h
    have hi : i < v.length := by omega
    rw [show k + (d + 1) + 1 = (k + d + 1) + 1 from by omega, newelref05_Right.l0, if_pos (by rw [ts_size]; omega), if_pos (by omega), bt_nat v i hi, next_of i (by omega), List.drop_eq_getElem_cons hi, List.all_cons]
    have un : sign8 v[i] = (decide (33 ≤ ((v[i].toNat : Nat) : Int)) && decide (((v[i].toNat : Nat) : Int) ≤ 126) && ((v[i].toNat : Nat) : Int) != 91 && ((v[i].toNat : Nat) : Int) != 93 && ((v[i].toNat : Nat) : Int) != 40 && ((v[i].toNat : Nat) : Int) != 41 && ((v[i].toNat : Nat) : Int) != 44) := rfl
    generalize ((v[i].toNat : Nat) : Int) = n at *
    have bad : sign8 v[i] = false → (some false : Option Bool) = some (decide (1 ≤ v.length) && decide (v.length ≤ 100) && (sign8 v[i] && (v.drop (i + 1)).all sign8)) := by
      intro e; rw [e, Bool.false_and, Bool.and_false]
    by_cases c0 : n < 33
    · rw [if_pos c0]; exact bad (by rw [un, decide_eq_false (by omega)]; rfl)
    rw [if_neg c0]
    by_cases c1 : n > 126
    · rw [if_pos c1]; exact bad (by rw [un, decide_eq_false (show ¬ n ≤ 126 by omega), Bool.and_false]; rfl)
    rw [if_neg c1]
    by_cases c2 : n = 91
    · rw [if_pos c2]; exact bad (by rw [un, c2]; rfl)
    rw [if_neg c2]
    by_cases c3 : n = 93
    · rw [if_pos c3]; exact bad (by rw [un, c3]; rfl)
    rw [if_neg c3]
    by_cases c4 : n = 40
    · rw [if_pos c4]; exact bad (by rw [un, c4]; rfl)
    rw [if_neg c4]
    by_cases c5 : n = 41
    · rw [if_pos c5]; exact bad (by rw [un, c5]; rfl)
    rw [if_neg c5]
    by_cases c6 : n = 44
    · rw [if_pos c6]; exact bad (by rw [un, c6]; rfl)
    rw [if_neg c6, ih (i + 1) k (by omega)]
    have good : sign8 v[i] = true := by
      rw [un, decide_eq_true (by omega), decide_eq_true (by omega), bne_iff_ne.2 c2, bne_iff_ne.2 c3, bne_iff_ne.2 c4, bne_iff_ne.2 c5, bne_iff_ne.2 c6]; rfl
    rw [good, Bool.true_and]
theorem ref_right_told (v : List UInt8) (hv : v.length ≤ 1000000) (k : Nat) (hk : v.length + 1 ≤ k) : newelref05_Right.f k (ts v) = some (rightB v) := by
  have := ref_right_loop v hv v.length 0 (k - v.length - 1) (by omega)
  rw [show k - v.length - 1 + v.length + 1 = k from by omega] at this
  exact this
theorem ref_text_cmp (a b : List UInt8) : newelref05_text.f (ts a) (ts b) = some (cmpB a b) := by
  unfold newelref05_text.f cmpB
  rw [ts_toList, ts_toList]
  by_cases p : Op.bytesLess a b = true
  · rw [if_pos p, if_pos p]
  · rw [if_neg p, if_neg p]
    by_cases q : Op.bytesLess b a = true
    · rw [if_pos q, if_pos q]
    · rw [if_neg q, if_neg q]
theorem ref_one_cmp (x y : Wl) : Tot (fun k => newelref05_one.f k x.1 (ts x.2) y.1 (ts y.2)) (fun r => r = cmpW x y) := by
  have len : Tot (fun k => newelref05_one.j0 k true x.1 (ts x.2) y.1 (ts y.2)) (fun r => r = if cmpI x.2.length y.2.length = 0 then cmpB x.2 y.2 else cmpI x.2.length y.2.length) := by
    refine tot_succ ?_ (fun k => by rw [newelref05_one.j0])
    rw [ref_text_cmp, ts_size, ts_size]
    simp only [Option.bind_some]
    unfold cmpI
    refine tot_guard (by trivial) (tot_if (fun e => tot_some ?_) (fun e => tot_if (fun l => tot_some ?_) (fun l => tot_some ?_)))
    · rw [if_neg (show ¬ (x.2.length : Int) < y.2.length by omega), if_neg (show ¬ (x.2.length : Int) > y.2.length by omega), if_pos rfl]
    · rw [if_pos l, if_neg (by decide)]
    · rw [if_neg l, if_pos (show (x.2.length : Int) > y.2.length by omega), if_neg (by decide)]
  unfold newelref05_one.f cmpW
  rw [ref_text_cmp]
  simp only [Option.bind_some]
  refine tot_if (fun p => tot_some (by rw [if_pos p])) (fun p => tot_if (fun q => tot_some (by rw [if_neg p, if_pos q])) (fun q => tot_if (fun e => tot_some (by rw [if_neg p, if_neg q, if_pos e])) (fun e => ?_)))
  rw [if_neg p, if_neg q, if_neg e]
  refine tot_if (fun g => ?_) (fun g => ?_)
  · rw [if_pos (Or.inl g)]; exact len
  · by_cases h : x.1 = 10
    · rw [show (x.1 == 10) = true from beq_iff_eq.2 h, if_pos (Or.inr h)]; exact len
    · rw [show (x.1 == 10) = false from beq_eq_false_iff_ne.2 h, if_neg (by rintro (z | z) <;> omega)]
      refine tot_succ ?_ (fun k => by rw [newelref05_one.j0])
      exact tot_if (fun b => by cases b) (fun _ => tot_some rfl)
theorem hd_drop (l : List Wl) (i : Nat) (h : i < l.length) : hdW (l.drop i) = l[i] := by rw [List.drop_eq_getElem_cons h]; rfl
theorem hd_none (l : List Wl) (i : Nat) (h : ¬ i < l.length) : hdW (l.drop i) = (6, []) := by rw [List.drop_eq_nil_of_le (by omega)]; rfl
theorem rd_word (l : List Wl) (i : Nat) (h : i < l.length) : rd_T38 (l.map w38) (i : Int) = w38 l[i] := by
  unfold rd_T38
  rw [Int.toNat_natCast, List.getD_eq_getElem?_getD, List.getElem?_map, List.getElem?_eq_getElem h]; rfl
theorem ref_words_cmp (x y : List Wl) (hx : x.length ≤ 100100) (hy : y.length ≤ 100100) : ∀ (d i : Nat), i ≤ 100100 → x.length ≤ i + d → y.length ≤ i + d →
    Tot (fun k => newelref05_Words.l0 k (x.map w38) (y.map w38) (i : Int)) (fun r => r = cmpN d (x.drop i) (y.drop i)) := by
  have j2 : ∀ (i : Nat) (a : Wl) (T : Int), i ≤ 100100 → Tot (fun k => newelref05_Words.l0 k (x.map w38) (y.map w38) ((i + 1 : Nat) : Int)) (fun r => r = T) →
      Tot (fun k => newelref05_Words.j2 k (x.map w38) (y.map w38) (i : Int) a.1 (ts a.2) 6 (⟨#[]⟩ : ByteArray)) (fun r => r = if cmpW a (hdW (y.drop i)) = 0 then T else cmpW a (hdW (y.drop i))) := by
    intro i a T hi next
    refine tot_succ ?_ (fun k => by rw [newelref05_Words.j2])
    rw [List.length_map, next_of i (by omega)]
    refine tot_if (fun h => tot_guard (by omega) ?_) (fun h => ?_)
    · rw [rd_word y i (by omega), hd_drop y i (by omega)]
      refine tot_bind (ref_one_cmp a y[i]) (fun r hr => ?_)
      subst hr
      exact tot_if (fun z => by rw [if_pos z]; exact next) (fun z => tot_some (by rw [if_neg z]))
    · rw [hd_none y i (by omega)]
      refine tot_bind (ref_one_cmp a (6, [])) (fun r hr => ?_)
      subst hr
      exact tot_if (fun z => by rw [if_pos z]; exact next) (fun z => tot_some (by rw [if_neg z]))
  have j1 : ∀ (i : Nat) (T : Int), i ≤ 100100 → Tot (fun k => newelref05_Words.l0 k (x.map w38) (y.map w38) ((i + 1 : Nat) : Int)) (fun r => r = T) →
      Tot (fun k => newelref05_Words.j1 k (x.map w38) (y.map w38) (i : Int) true) (fun r => r = if cmpW (hdW (x.drop i)) (hdW (y.drop i)) = 0 then T else cmpW (hdW (x.drop i)) (hdW (y.drop i))) := by
    intro i T hi next
    refine tot_succ ?_ (fun k => by rw [newelref05_Words.j1])
    rw [List.length_map]
    refine tot_guard rfl (tot_if (fun h => tot_guard (by omega) ?_) (fun h => ?_))
    · rw [rd_word x i (by omega), hd_drop x i (by omega)]
      exact j2 i x[i] T hi next
    · rw [hd_none x i (by omega)]
      exact j2 i (6, []) T hi next
  have over : ∀ (i n : Nat), x.length ≤ i → y.length ≤ i → Tot (fun k => newelref05_Words.l0 k (x.map w38) (y.map w38) (i : Int)) (fun r => r = cmpN n (x.drop i) (y.drop i)) := by
    intro i n h1 h2
    refine tot_succ ?_ (fun k => by rw [newelref05_Words.l0])
    rw [List.length_map, List.length_map]
    refine tot_if (fun h => by omega) (fun h => ?_)
    rw [decide_eq_false (by omega)]
    refine tot_succ ?_ (fun k => by rw [newelref05_Words.j1])
    refine tot_if (fun b => by cases b) (fun _ => tot_some ?_)
    rw [List.drop_eq_nil_of_le h1, List.drop_eq_nil_of_le h2, cmpN_nil]
  intro d
  induction d with
  | zero => intro i hi h1 h2; exact over i 0 (by omega) (by omega)
  | succ d ih =>
    intro i hi h1 h2
    by_cases e : i < x.length ∨ i < y.length
    · have next := ih (i + 1) (by omega) (by omega) (by omega)
      have q := j1 i _ hi next
      rw [← tail_drop, ← tail_drop] at q
      refine tot_succ ?_ (fun k => by rw [newelref05_Words.l0])
      rw [List.length_map, List.length_map]
      refine tot_if (fun h => tot_imp q (fun r hr => hr)) (fun h => ?_)
      rw [decide_eq_true (by omega)]
      exact tot_imp q (fun r hr => hr)
    · exact over i (d + 1) (by omega) (by omega)
theorem ref_compare_cmp (a b : List UInt8) (ha : a.length ≤ 100000) (hb : b.length ≤ 100000) : Tot (fun k => newelref05_Compare.f k (ts a) (ts b)) (fun r => r = cmpV a b) := by
  have sa := splitL_len a
  have sb := splitL_len b
  unfold newelref05_Compare.f newelref05_Words.f
  refine tot_bind (tot_ge 400000 (fun k hk => ref_split_told a ha k (by omega))) (fun x hx => ?_)
  subst hx
  refine tot_bind (tot_ge 400000 (fun k hk => ref_split_told b hb k (by omega))) (fun y hy => ?_)
  subst hy
  refine tot_bind (ref_words_cmp (splitL a) (splitL b) (by omega) (by omega) 100100 0 (by omega) (by omega) (by omega)) (fun r hr => tot_some ?_)
  rw [hr, List.drop_zero, List.drop_zero]
  rfl
theorem ref_right_cmp (v : List UInt8) (hv : v.length ≤ 100000) : Tot (fun k => newelref05_Right.f k (ts v)) (fun r => r = rightB v) := tot_ge 200000 (fun k hk => ref_right_told v (by omega) k (by omega))
def tx (l : List UInt8) : ByteArray := ⟨l.toArray⟩
theorem tx_toList (l : List UInt8) : (tx l).data.toList = l := rfl
theorem tx_data (a : ByteArray) : tx a.data.toList = a := ba_ext rfl
theorem tx_size (l : List UInt8) : (tx l).size = l.length := by rw [ba_size]; rfl
theorem tx_tail (c : UInt8) (l : List UInt8) : (tx (c :: l)).extract 1 (tx (c :: l)).size = tx l := by
  apply ba_ext
  rw [ba_extract, tx_size, tx_toList, tx_toList, List.take_of_length_le (Nat.le_refl _)]
  rfl
theorem bt_head (c : UInt8) (l : List UInt8) : bt (tx (c :: l)) 0 = (c.toNat : Int) := by
  unfold bt
  rw [dif_pos (by rw [tx_size]; simp)]
  rfl
def mayI (n : Int) : Bool := decide ((97 ≤ n ∧ n ≤ 122) ∨ (65 ≤ n ∧ n ≤ 90) ∨ (48 ≤ n ∧ n ≤ 57) ∨ n = 95 ∨ n = 45 ∨ n = 46)
theorem letter_told (n : Int) : coord_letter.f n = some (mayI n) := by
  unfold coord_letter.f
  repeat' split
  all_goals first
    | (rw [show mayI n = true from decide_eq_true (by omega)]; done)
    | (apply congrArg some; unfold mayI; rw [Bool.eq_iff_iff]; simp only [beq_iff_eq, decide_eq_true_eq]; omega)
def may8 (c : UInt8) : Bool := mayI (c.toNat : Int)
def idOk (l : List UInt8) : Bool := !l.isEmpty && decide (l.length ≤ 500) && l.all may8
theorem id_loop : ∀ (l : List UInt8) (c : UInt8) (k : Nat), coord_Id.l0 (k + l.length + 1) (tx (c :: l)) = some ((c :: l).all may8)
  | [], c, k => by
    have h1 : 0 < ((tx [c]).size : Int) := by rw [tx_size]; simp
    have h2 : 1 ≤ ((tx [c]).size : Int) := by rw [tx_size]; simp
    rw [coord_Id.l0, if_pos h1, bt_head, letter_told, Option.bind_some, tx_tail]
    by_cases h : mayI (c.toNat : Int) = true
    · rw [if_pos h, if_pos h2, if_pos (by rw [ba_toList]; rfl)]
      simp [may8, h]
    · rw [if_neg h]
      simp [may8, h]
  | d :: l, c, k => by
    have ih := id_loop l d k
    have h1 : 0 < ((tx (c :: d :: l)).size : Int) := by rw [tx_size]; simp only [List.length_cons]; omega
    have h2 : 1 ≤ ((tx (c :: d :: l)).size : Int) := by rw [tx_size]; simp only [List.length_cons]; omega
    rw [coord_Id.l0, if_pos h1, bt_head, letter_told, Option.bind_some, tx_tail]
    by_cases h : mayI (c.toNat : Int) = true
    · rw [if_pos h, if_pos h2, if_neg (by rw [ba_toList, tx_toList]; simp), List.length_cons, show k + (l.length + 1) = k + l.length + 1 from rfl, ih]
      simp [may8, h]
    · rw [if_neg h]
      simp [may8, h]
theorem id_told (a : ByteArray) (k : Nat) (hk : 502 ≤ k) : coord_Id.f k a = some (idOk a.data.toList) := by
  obtain ⟨k, rfl⟩ : ∃ j, k = j + 1 := ⟨k - 1, by omega⟩
  unfold coord_Id.f
  have hz := ba_size a
  by_cases h0 : a.toList = []
  · rw [if_pos h0, coord_Id.j0, if_pos rfl]
    rw [ba_toList] at h0
    rw [h0]; rfl
  · rw [if_neg h0]
    rw [ba_toList] at h0
    by_cases h1 : (a.size : Int) > 500
    · rw [decide_eq_true h1, coord_Id.j0, if_pos rfl]
      unfold idOk
      rw [decide_eq_false (show ¬ a.data.toList.length ≤ 500 by omega), Bool.and_false, Bool.false_and]
    · rw [decide_eq_false h1, coord_Id.j0, if_neg (by decide)]
      obtain ⟨c, l, hl⟩ : ∃ c l, a.data.toList = c :: l := by
        cases hq : a.data.toList with
        | nil => exact absurd hq h0
        | cons c l => exact ⟨c, l, rfl⟩
      have hll : l.length + 1 = a.size := by rw [hz, hl, List.length_cons]
      have := id_loop l c (k - (l.length + 1))
      rw [show k - (l.length + 1) + l.length + 1 = k from by omega, ← hl, tx_data] at this
      rw [this]
      unfold idOk
      rw [decide_eq_true (show a.data.toList.length ≤ 500 by omega)]
      rw [hl]; rfl
def orJar (t : List UInt8) : List UInt8 := if t = [] then [106, 97, 114] else t
theorem or_told (t : ByteArray) (k : Nat) : cmp_Or_string.f (k + 2) [t, (⟨#[106, 97, 114]⟩ : ByteArray)] = some (tx (orJar t.data.toList)) := by
  unfold cmp_Or_string.f
  have hw : wrap64 (0 + 1) = 1 := by unfold wrap64; omega
  rw [cmp_Or_string.l0, if_pos (by simp), if_pos (by omega), if_pos (by simp), hw]
  have e0 : rdOf ByteArray.empty [t, (⟨#[106, 97, 114]⟩ : ByteArray)] 0 = t := rfl
  have e1 : rdOf ByteArray.empty [t, (⟨#[106, 97, 114]⟩ : ByteArray)] 1 = (⟨#[106, 97, 114]⟩ : ByteArray) := rfl
  rw [e0, ba_toList, ba_toList]
  by_cases h : t.data.toList = []
  · rw [if_pos h, cmp_Or_string.l0, if_pos (by simp), if_pos (by omega), if_pos (by simp), e1, if_neg (by rw [ba_toList, ba_toList]; decide)]
    unfold orJar
    rw [if_pos h]; rfl
  · rw [if_neg h]
    unfold orJar
    rw [if_neg h, tx_data]
theorem awake_20 : newellaw09_awake.f 20 = some true := by kernel_rfl
theorem awake_ge (k : Nat) (h : 20 ≤ k) : newellaw09_awake.f k = some true := by
  obtain ⟨j, rfl⟩ := Nat.exists_eq_add_of_le h
  clear h
  induction j with
  | zero => exact awake_20
  | succ j ih => exact newellaw09_awake.mono _ _ ih
theorem cut_head {s sub : List UInt8} {c : UInt8} {j : Nat} (h : Lib.occAt s (c :: sub) j = true) : s[j]? = some c := by
  unfold Lib.occAt at h
  obtain ⟨t, ht⟩ := List.isPrefixOf_iff_prefix.1 h
  have : (s.drop j)[0]? = some c := by rw [← ht]; rfl
  simpa using this
theorem colon_parts : ∀ l : List UInt8, (∀ x ∈ l, x ≠ 58) ∨ ∃ t r, l = t ++ 58 :: r ∧ ∀ x ∈ t, x ≠ 58
  | [] => Or.inl (fun _ h => by cases h)
  | c :: l => by
    by_cases h : c = 58
    · exact Or.inr ⟨[], l, by rw [h]; rfl, fun _ h => by cases h⟩
    · rcases colon_parts l with q | ⟨t, r, q1, q2⟩
      · exact Or.inl (fun x hx => by rcases List.mem_cons.1 hx with z | z; · rw [z]; exact h
                                     · exact q x z)
      · exact Or.inr ⟨c :: t, r, by rw [q1]; rfl, fun x hx => by rcases List.mem_cons.1 hx with z | z; · rw [z]; exact h
                                                                 · exact q2 x z⟩
theorem idx_there (t r : List UInt8) (h : ∀ x ∈ t, x ≠ 58) : Lib.index (t ++ 58 :: r) [58] = (t.length : Int) := by
  refine Lib.index_first (by simp) ?_ ?_
  · unfold Lib.occAt
    rw [List.drop_left]
    exact List.isPrefixOf_iff_prefix.2 ⟨r, rfl⟩
  · intro j hj
    rw [Bool.eq_false_iff]
    intro ho
    have := cut_head ho
    rw [List.getElem?_append_left hj] at this
    exact h 58 (List.mem_of_getElem? this) rfl
theorem idx_away (t : List UInt8) (h : ∀ x ∈ t, x ≠ 58) : Lib.index t [58] = -1 := by
  refine Lib.index_none ?_
  intro j hj
  rw [Bool.eq_false_iff]
  intro ho
  exact h 58 (List.mem_of_getElem? (cut_head ho)) rfl
def spC (l : List UInt8) : List (List UInt8) := Lib.split l [58]
theorem spC_away (t : List UInt8) (h : ∀ x ∈ t, x ≠ 58) : spC t = [t] := by
  unfold spC Lib.split
  rw [Lib.count_miss (idx_away t h)]
  rfl
theorem spC_there (t r : List UInt8) (h : ∀ x ∈ t, x ≠ 58) : spC (t ++ 58 :: r) = t :: spC r := by
  have i := idx_there t r h
  unfold spC Lib.split
  rw [Lib.count_hit (by simp) i]
  have d : (t ++ 58 :: r).drop (t.length + ([58] : List UInt8).length) = r := by
    rw [show t.length + ([58] : List UInt8).length = (t ++ [58]).length by simp, show t ++ 58 :: r = (t ++ [58]) ++ r by simp, List.drop_left]
  rw [d, Nat.add_comm]
  show (if Lib.index (t ++ 58 :: r) [58] == -1 then [t ++ 58 :: r] else (t ++ 58 :: r).take ((Lib.index (t ++ 58 :: r) [58]).toNat + 0) :: Lib.splitK [58] 0 (Lib.count r [58]) ((t ++ 58 :: r).drop ((Lib.index (t ++ 58 :: r) [58]).toNat + ([58] : List UInt8).length))) = _
  rw [i, if_neg (by simp), Int.toNat_natCast, d, Nat.add_zero, List.take_left]
def joinC : List (List UInt8) → List UInt8
  | [] => []
  | [a] => a
  | a :: b :: l => a ++ 58 :: joinC (b :: l)
theorem spC_ne (l : List UInt8) : spC l ≠ [] := by
  rcases colon_parts l with h | ⟨t, r, rfl, h⟩
  · rw [spC_away l h]; simp
  · rw [spC_there t r h]; simp
theorem spC_join : ∀ (n : Nat) (l : List UInt8), l.length ≤ n → joinC (spC l) = l := by
  intro n
  induction n with
  | zero =>
    intro l h
    obtain rfl := List.eq_nil_of_length_eq_zero (Nat.le_zero.1 h)
    rw [spC_away [] (fun _ h => by cases h)]; rfl
  | succ n ih =>
    intro l h
    rcases colon_parts l with g | ⟨t, r, rfl, g⟩
    · rw [spC_away l g]; rfl
    · rw [spC_there t r g]
      have := ih r (by simp at h; omega)
      cases q : spC r with
      | nil => exact absurd q (spC_ne r)
      | cons a b => rw [q] at this; show t ++ 58 :: joinC (a :: b) = _; rw [this]
theorem split_cmp (l : List UInt8) (h : l.length < 4294967281) : ∃ L, strings_Split.f (tx l) (⟨#[58]⟩ : ByteArray) = some L ∧ L.map (fun x => x.data.toList) = spC l := by
  refine ⟨_, by unfold strings_Split.f; rw [if_pos ⟨by rw [tx_size]; exact h, by decide⟩], ?_⟩
  rw [Lib.splitB_data]
  rfl
def rightC (g n v : List UInt8) : Bool := idOk g && (idOk n && (rightB v && !(Lib.contains v [58])))
theorem right_cmp (g n v : ByteArray) (h : v.size < 4294967281) : Tot (fun k => coord_Right.f k g n v) (fun r => r = rightC g.data.toList n.data.toList v.data.toList) := by
  unfold coord_Right.f rightC
  refine tot_bind (tot_ge 502 (fun k hk => id_told g k hk)) (fun r hr => ?_)
  subst hr
  refine tot_if (fun a => ?_) (fun a => tot_some (by rw [Bool.eq_false_iff.2 a]; rfl))
  rw [a, Bool.true_and]
  refine tot_bind (tot_ge 502 (fun k hk => id_told n k hk)) (fun r hr => ?_)
  subst hr
  refine tot_if (fun a => ?_) (fun a => tot_some (by rw [Bool.eq_false_iff.2 a]; rfl))
  rw [a, Bool.true_and]
  refine tot_bind (tot_ge 101 (fun k hk => right_told v k hk)) (fun r hr => ?_)
  subst hr
  refine tot_if (fun a => ?_) (fun a => tot_some (by rw [Bool.eq_false_iff.2 a]; rfl))
  rw [a, Bool.true_and]
  have c : strings_Contains.f v (⟨#[58]⟩ : ByteArray) = some (Lib.contains v.data.toList [58]) := by
    unfold strings_Contains.f
    rw [if_pos h]
  rw [c]
  exact tot_some rfl
theorem id_no (l : List UInt8) (h : idOk l = true) : ∀ x ∈ l, x ≠ 58 := by
  intro x hx e
  unfold idOk at h
  simp only [Bool.and_eq_true] at h
  have := List.all_eq_true.1 h.2 x hx
  rw [e] at this
  exact absurd this (by decide)
theorem ver_no (v : List UInt8) (h : Lib.contains v [58] = false) : ∀ x ∈ v, x ≠ 58 := by
  rcases colon_parts v with q | ⟨t, r, rfl, q⟩
  · exact q
  · exfalso
    unfold Lib.contains at h
    rw [idx_there t r q] at h
    simp at h
def ParsC (l : List UInt8) (r : ByteArray × ByteArray × ByteArray × Bool) : Prop :=
  (r.2.2.2 = true → l = r.1.data.toList ++ 58 :: (r.2.1.data.toList ++ 58 :: r.2.2.1.data.toList) ∧ rightC r.1.data.toList r.2.1.data.toList r.2.2.1.data.toList = true) ∧
  (∀ g n v, l = g ++ 58 :: (n ++ 58 :: v) → rightC g n v = true → r = (tx g, tx n, tx v, true)) ∧
  (r.2.2.2 = false → r = ((⟨#[]⟩ : ByteArray), (⟨#[]⟩ : ByteArray), (⟨#[]⟩ : ByteArray), false))
theorem parse_cmpC (l : List UInt8) (h : l.length < 4294967281) : Tot (fun k => coord_Parse.f k (tx l)) (ParsC l) := by
  obtain ⟨L, hL, hM⟩ := split_cmp l h
  unfold coord_Parse.f
  rw [hL]
  simp only [Option.bind_some]
  have three : ∀ g n v, l = g ++ 58 :: (n ++ 58 :: v) → rightC g n v = true → spC l = [g, n, v] := by
    intro g n v e hr
    unfold rightC at hr
    simp only [Bool.and_eq_true, Bool.not_eq_true'] at hr
    rw [e, spC_there g _ (id_no g hr.1), spC_there n _ (id_no n hr.2.1), spC_away v (ver_no v hr.2.2.2)]
  have len : L.length = (spC l).length := by rw [← hM, List.length_map]
  refine tot_if (fun e => ?_) (fun e => tot_some ⟨(fun h => by cases h), fun g n v e1 hr => absurd (by rw [len, three g n v e1 hr]; rfl) e, fun _ => rfl⟩)
  have e3 : L.length = 3 := by omega
  match L, e3 with
  | [a, b, c], _ =>
    have hs : spC l = [a.data.toList, b.data.toList, c.data.toList] := hM.symm
    have jl : l = a.data.toList ++ 58 :: (b.data.toList ++ 58 :: c.data.toList) := by
      have := spC_join l.length l (Nat.le_refl _)
      rw [hs] at this
      exact this.symm
    have cz : c.size < 4294967281 := by
      have := congrArg List.length jl
      simp at this
      have z := ba_size c
      simp only [Array.length_toList] at z
      omega
    show Tot (fun k => if 0 < (3 : Int) then if 1 < (3 : Int) then if 2 < (3 : Int) then (coord_Right.f k a b c).bind fun t668 => (if t668 = true then (some (a, b, c, true)) else (some ((⟨#[]⟩ : ByteArray), (⟨#[]⟩ : ByteArray), (⟨#[]⟩ : ByteArray), false))) else none else none else none) _
    refine tot_guard (by decide) (tot_guard (by decide) (tot_guard (by decide) (tot_bind (right_cmp a b c cz) (fun r hr => ?_))))
    refine tot_if (fun g => tot_some ⟨fun _ => ⟨jl, by rw [← hr]; exact g⟩, fun g1 n1 v1 e1 h1 => ?_, (fun h => by cases h)⟩) (fun g => tot_some ⟨(fun h => by cases h), fun g1 n1 v1 e1 h1 => ?_, fun _ => rfl⟩)
    · have := three g1 n1 v1 e1 h1
      rw [hs] at this
      injection this with i1 i2
      injection i2 with i2 i3
      injection i3 with i3 _
      rw [← i1, ← i2, ← i3, tx_data, tx_data, tx_data]
    · have := three g1 n1 v1 e1 h1
      rw [hs] at this
      injection this with i1 i2
      injection i2 with i2 i3
      injection i3 with i3 _
      rw [← i1, ← i2, ← i3, ← hr] at h1
      exact absurd h1 g
theorem pars_one (l : List UInt8) (r r' : ByteArray × ByteArray × ByteArray × Bool) (h : ParsC l r) (h' : ParsC l r') : r = r' := by
  by_cases b : r.2.2.2 = true
  · obtain ⟨e1, e2⟩ := h.1 b
    exact (h.2.1 _ _ _ e1 e2).trans (h'.2.1 _ _ _ e1 e2).symm
  · by_cases b' : r'.2.2.2 = true
    · obtain ⟨e1, e2⟩ := h'.1 b'
      exact (h.2.1 _ _ _ e1 e2).trans (h'.2.1 _ _ _ e1 e2).symm
    · exact (h.2.2 (Bool.eq_false_iff.2 b)).trans (h'.2.2 (Bool.eq_false_iff.2 b')).symm
theorem or_four (a b c d : Int) (k : Nat) (hk : 6 ≤ k) : cmp_Or_int.f k [a, b, c, d] = some (if a = 0 then (if b = 0 then (if c = 0 then d else c) else b) else a) := by
  obtain ⟨k, rfl⟩ : ∃ j, k = j + 1 + 1 + 1 + 1 + 1 := ⟨k - 5, by omega⟩
  unfold cmp_Or_int.f
  have r0 : rd [a, b, c, d] 0 = a := rfl
  have r1 : rd [a, b, c, d] 1 = b := rfl
  have r2 : rd [a, b, c, d] 2 = c := rfl
  have r3 : rd [a, b, c, d] 3 = d := rfl
  have w0 : wrap64 ((0 : Int) + 1) = 1 := by unfold wrap64; omega
  have w1 : wrap64 ((1 : Int) + 1) = 2 := by unfold wrap64; omega
  have w2 : wrap64 ((2 : Int) + 1) = 3 := by unfold wrap64; omega
  have w3 : wrap64 ((3 : Int) + 1) = 4 := by unfold wrap64; omega
  have l4 : (([a, b, c, d] : List Int).length : Int) = 4 := rfl
  rw [l4, cmp_Or_int.l0, if_pos (by decide), if_pos (by decide), l4, if_pos (by decide), r0, w0]
  by_cases h : a = 0
  · rw [if_pos h, if_pos h, cmp_Or_int.l0, if_pos (by decide), if_pos (by decide), l4, if_pos (by decide), r1, w1]
    by_cases g : b = 0
    · rw [if_pos g, if_pos g, cmp_Or_int.l0, if_pos (by decide), if_pos (by decide), l4, if_pos (by decide), r2, w2]
      by_cases f : c = 0
      · rw [if_pos f, if_pos f, cmp_Or_int.l0, if_pos (by decide), if_pos (by decide), l4, if_pos (by decide), r3, w3]
        by_cases e : d = 0
        · rw [if_pos e, cmp_Or_int.l0, if_neg (by decide), e]
        · rw [if_neg e]
      · rw [if_neg f, if_neg f]
    · rw [if_neg g, if_neg g]
  · rw [if_neg h, if_neg h]
abbrev C3 := List UInt8 × List UInt8 × List UInt8
def cmpC (a b : C3) : Int := if cmpB a.1 b.1 = 0 then (if cmpB a.2.1 b.2.1 = 0 then (if cmpV a.2.2 b.2.2 = 0 then cmpB a.2.2 b.2.2 else cmpV a.2.2 b.2.2) else cmpB a.2.1 b.2.1) else cmpB a.1 b.1
theorem less_cmp (a0 a1 a2 b0 b1 b2 : List UInt8) (ha : a2.length ≤ 100000) (hb : b2.length ≤ 100000) : Tot (fun k => coord_Less.f k (ts a0) (ts a1) (ts a2) (ts b0) (ts b1) (ts b2)) (fun r => r = decide (cmpC (a0, a1, a2) (b0, b1, b2) < 0)) := by
  unfold coord_Less.f coord_Compare.f
  rw [cmp_told3, cmp_told3, cmp_told3]
  simp only [Option.bind_some]
  refine tot_bind (Q := fun r => r = cmpC (a0, a1, a2) (b0, b1, b2)) (tot_bind (compare_cmp a2 b2 ha hb) (fun c hc => ?_)) (fun r hr => tot_some (by rw [hr]))
  subst hc
  exact tot_bind (tot_ge 6 (fun k hk => or_four _ _ _ _ k hk)) (fun r hr => tot_some hr)
theorem ref_id_loop (l : List UInt8) (hl : l.length ≤ 4611686018427387000) : ∀ (d i k : Nat), i + d = l.length → newelref05_Id.l0 (k + d + 1) (ts l) (i : Int) = some (decide (1 ≤ l.length) && (decide (l.length ≤ 500) && (l.drop i).all may8)) := by
  intro d
  induction d with
  | zero =>
    intro i k h
    rw [newelref05_Id.l0, if_neg (by rw [ts_size]; omega), List.drop_eq_nil_of_le (by omega), ts_size, List.all_nil, Bool.and_true]
    by_cases a : 1 ≤ l.length
    · rw [if_pos (by omega), decide_eq_true a, Bool.true_and]
      by_cases b : l.length ≤ 500
      · rw [decide_eq_true b, decide_eq_true (by omega)]
      · rw [decide_eq_false b, decide_eq_false (by omega)]
    · rw [if_neg (by omega), decide_eq_false a, Bool.false_and]
  | succ d ih =>
    intro i k h
    have hi : i < l.length := by omega
    rw [show k + (d + 1) + 1 = (k + d + 1) + 1 from by omega, newelref05_Id.l0, if_pos (by rw [ts_size]; omega), if_pos (by omega), bt_nat l i hi, next_of i (by omega), List.drop_eq_getElem_cons hi, List.all_cons]
    have un : may8 l[i] = mayI ((l[i].toNat : Nat) : Int) := rfl
    have ih' := ih (i + 1) k (by omega)
    generalize newelref05_Id.l0 (k + d + 1) (ts l) ((i + 1 : Nat) : Int) = o at *
    rw [un]
    generalize ((l[i].toNat : Nat) : Int) = n at *
    have bad : mayI n = false → (some false : Option Bool) = some (decide (1 ≤ l.length) && (decide (l.length ≤ 500) && (mayI n && (l.drop (i + 1)).all may8))) := by
      intro e; rw [e, Bool.false_and, Bool.and_false, Bool.and_false]
    have good : mayI n = true → o = some (decide (1 ≤ l.length) && (decide (l.length ≤ 500) && (mayI n && (l.drop (i + 1)).all may8))) := by
      intro e; rw [e, Bool.true_and, ih']
    clear ih' ih un
    unfold newelref01_Digit.f
    generalize some (decide (1 ≤ l.length) && (decide (l.length ≤ 500) && (mayI n && (l.drop (i + 1)).all may8))) = R at *
    have y : ∀ {p : Prop}, p → (p → (97 ≤ n ∧ n ≤ 122) ∨ (65 ≤ n ∧ n ≤ 90) ∨ (48 ≤ n ∧ n ≤ 57) ∨ n = 95 ∨ n = 45 ∨ n = 46) → o = R := fun p q => good (decide_eq_true (q p))
    have no : (¬ ((97 ≤ n ∧ n ≤ 122) ∨ (65 ≤ n ∧ n ≤ 90) ∨ (48 ≤ n ∧ n ≤ 57) ∨ n = 95 ∨ n = 45 ∨ n = 46)) → (some false : Option Bool) = R := fun q => bad (decide_eq_false q)
    have tail : ∀ b : Bool, (b = true ↔ (48 ≤ n ∧ n ≤ 57)) → ¬ (97 ≤ n ∧ n ≤ 122) → ¬ (65 ≤ n ∧ n ≤ 90) → (if b = true then o else if n = 95 then o else if n = 45 then o else if n = 46 then o else some false) = R := by
      intro b hb p q
      by_cases c0 : b = true
      · rw [if_pos c0]; exact y (hb.1 c0) (fun h => Or.inr (Or.inr (Or.inl h)))
      rw [if_neg c0]
      by_cases c1 : n = 95
      · rw [if_pos c1]; exact y c1 (fun h => by omega)
      rw [if_neg c1]
      by_cases c2 : n = 45
      · rw [if_pos c2]; exact y c2 (fun h => by omega)
      rw [if_neg c2]
      by_cases c3 : n = 46
      · rw [if_pos c3]; exact y c3 (fun h => by omega)
      rw [if_neg c3]
      have c0' : ¬ (48 ≤ n ∧ n ≤ 57) := fun h => c0 (hb.2 h)
      exact no (by omega)
    have dg : ¬ (97 ≤ n ∧ n ≤ 122) → ¬ (65 ≤ n ∧ n ≤ 90) → ((if n ≥ 48 then (some (decide (n ≤ 57))) else (some false)) : Option Bool).bind (fun t => if t = true then o else if n = 95 then o else if n = 45 then o else if n = 46 then o else some false) = R := by
      intro p q
      by_cases c : n ≥ 48
      · rw [if_pos c, Option.bind_some]
        exact tail _ (by rw [decide_eq_true_eq]; omega) p q
      · rw [if_neg c, Option.bind_some]
        exact tail _ (by constructor; · intro h; cases h
                         · intro h; omega) p q
    by_cases a : n ≥ 97
    · rw [if_pos a]
      by_cases b : n ≤ 122
      · rw [if_pos b]; exact y (And.intro a b) (fun h => Or.inl h)
      rw [if_neg b, if_pos (by omega), if_neg (by omega)]
      exact dg (by omega) (by omega)
    · rw [if_neg a]
      by_cases b : n ≥ 65
      · rw [if_pos b]
        by_cases c : n ≤ 90
        · rw [if_pos c]; exact y (And.intro b c) (fun h => Or.inr (Or.inl h))
        rw [if_neg c]
        exact dg (by omega) (by omega)
      · rw [if_neg b]
        exact dg (by omega) (by omega)
theorem ref_id_told (l : List UInt8) (hl : l.length ≤ 4611686018427387000) : Tot (fun k => newelref05_Id.f k (ts l)) (fun r => r = idOk l) := by
  refine tot_ge (l.length + 1) (fun k hk => ?_)
  have := ref_id_loop l hl l.length 0 (k - l.length - 1) (by omega)
  rw [show k - l.length - 1 + l.length + 1 = k from by omega] at this
  unfold newelref05_Id.f
  refine this.trans ?_
  unfold idOk
  cases l with
  | nil => rfl
  | cons a m => simp
theorem colon_loop (l : List UInt8) (hl : l.length ≤ 4611686018427387000) : ∀ (d i k : Nat), i + d = l.length → newelref05_colon.l0 (k + d + 1) (ts l) (i : Int) = some ((l.drop i).any (fun x => x == 58)) := by
  intro d
  induction d with
  | zero =>
    intro i k h
    rw [newelref05_colon.l0, if_neg (by rw [ts_size]; omega), List.drop_eq_nil_of_le (by omega)]
    rfl
  | succ d ih =>
    intro i k h
    have hi : i < l.length := by omega
    rw [show k + (d + 1) + 1 = (k + d + 1) + 1 from by omega, newelref05_colon.l0, if_pos (by rw [ts_size]; omega), if_pos (by omega), bt_nat l i hi, next_of i (by omega), List.drop_eq_getElem_cons hi, List.any_cons]
    by_cases c : ((l[i].toNat : Nat) : Int) = 58
    · have : l[i] = 58 := UInt8.toNat_inj.1 (by show l[i].toNat = 58; omega)
      rw [if_pos c, this]; rfl
    · have : l[i] ≠ 58 := fun e => c (by rw [e]; rfl)
      rw [if_neg c, ih (i + 1) k (by omega), beq_eq_false_iff_ne.2 this, Bool.false_or]
theorem any_contains (l : List UInt8) : l.any (fun x => x == 58) = Lib.contains l [58] := by
  rcases colon_parts l with h | ⟨t, r, rfl, h⟩
  · have : Lib.contains l [58] = false := by
      unfold Lib.contains; rw [idx_away l h]; rfl
    rw [this, List.any_eq_false]
    intro x hx
    rw [beq_iff_eq]; exact h x hx
  · have : Lib.contains (t ++ 58 :: r) [58] = true := by
      unfold Lib.contains; rw [idx_there t r h]; simp
    rw [this, List.any_append]
    simp
theorem ref_plain_told (l : List UInt8) (hl : l.length ≤ 100000) : Tot (fun k => newelref05_Plain.f k (ts l)) (fun r => r = (rightB l && !(Lib.contains l [58]))) := by
  unfold newelref05_Plain.f
  refine tot_bind (ref_right_cmp l hl) (fun r hr => ?_)
  subst hr
  refine tot_if (fun a => ?_) (fun a => tot_some (by rw [Bool.eq_false_iff.2 a]; rfl))
  rw [a, Bool.true_and]
  refine tot_bind (Q := fun r => r = Lib.contains l [58]) (tot_ge (l.length + 1) (fun k hk => ?_)) (fun r hr => tot_some (by rw [hr]))
  have := colon_loop l (by omega) l.length 0 (k - l.length - 1) (by omega)
  rw [show k - l.length - 1 + l.length + 1 = k from by omega] at this
  unfold newelref05_colon.f
  refine this.trans ?_
  rw [List.drop_zero, any_contains]
theorem ref_coord_cmp (g n v : List UInt8) (hg : g.length ≤ 4611686018427387000) (hn : n.length ≤ 4611686018427387000) (hv : v.length ≤ 100000) : Tot (fun k => newelref05_Coord.f k (ts g) (ts n) (ts v)) (fun r => r = rightC g n v) := by
  unfold newelref05_Coord.f rightC
  refine tot_bind (ref_id_told g hg) (fun r hr => ?_)
  subst hr
  refine tot_if (fun a => ?_) (fun a => tot_some (by rw [Bool.eq_false_iff.2 a]; rfl))
  rw [a, Bool.true_and]
  refine tot_bind (ref_id_told n hn) (fun r hr => ?_)
  subst hr
  refine tot_if (fun a => ?_) (fun a => tot_some (by rw [Bool.eq_false_iff.2 a]; rfl))
  rw [a, Bool.true_and]
  exact tot_bind (ref_plain_told v hv) (fun r hr => tot_some hr)
theorem ref_key (g a v t c s : ByteArray) (o : Bool) (x : List S183) (hg : g.size ≤ 140737488351232) (ha : a.size ≤ 140737488351232) (ht : t.size ≤ 140737488351232) (hc : c.size ≤ 140737488351232) :
    ∃ r, (∀ k, 2 ≤ k → coord_Key.f k g a v t c s o x = some r) ∧ newelref05_Key.f g a v t c s o x = some r := by
  have ho : ∀ k, 2 ≤ k → cmp_Or_string.f k [t, (⟨#[106, 97, 114]⟩ : ByteArray)] = some (tx (orJar t.data.toList)) := fun k hk => by
    obtain ⟨j, rfl⟩ : ∃ j, k = j + 2 := ⟨k - 2, by omega⟩
    exact or_told t j
  have hy : newelref05_Type.f g a v t c s o x = some (tx (orJar t.data.toList)) := by
    unfold newelref05_Type.f orJar
    rw [ba_toList]
    by_cases h : t.data.toList = []
    · rw [if_pos h, if_pos h]; rfl
    · rw [if_neg h, if_neg h, tx_data]
  have zo : (tx (orJar t.data.toList)).size ≤ 140737488351235 := by
    rw [tx_size]; unfold orJar; split
    · simp
    · rw [← ba_size]; omega
  unfold coord_Key.f newelref05_Key.f
  rw [hy, Option.bind_some]
  generalize tx (orJar t.data.toList) = y at *
  have z1 : (g ++ (⟨#[58]⟩ : ByteArray)).size = g.size + 1 := by rw [ByteArray.size_append]; rfl
  have z2 : ((g ++ (⟨#[58]⟩ : ByteArray)) ++ a).size = g.size + 1 + a.size := by rw [ByteArray.size_append, z1]
  have z3 : (((g ++ (⟨#[58]⟩ : ByteArray)) ++ a) ++ (⟨#[58]⟩ : ByteArray)).size = g.size + 1 + a.size + 1 := by rw [ByteArray.size_append, z2]; rfl
  have z4 : ((((g ++ (⟨#[58]⟩ : ByteArray)) ++ a) ++ (⟨#[58]⟩ : ByteArray)) ++ y).size = g.size + 1 + a.size + 1 + y.size := by rw [ByteArray.size_append, z3]
  have z5 : (((((g ++ (⟨#[58]⟩ : ByteArray)) ++ a) ++ (⟨#[58]⟩ : ByteArray)) ++ y) ++ (⟨#[58]⟩ : ByteArray)).size = g.size + 1 + a.size + 1 + y.size + 1 := by rw [ByteArray.size_append, z4]; rfl
  have q1 : g.size + 1 ≤ 9223372036854775807 := by omega
  have q2 : (g ++ (⟨#[58]⟩ : ByteArray)).size + a.size ≤ 9223372036854775807 := by omega
  have q3 : ((g ++ (⟨#[58]⟩ : ByteArray)) ++ a).size + 1 ≤ 9223372036854775807 := by omega
  have q4 : (((g ++ (⟨#[58]⟩ : ByteArray)) ++ a) ++ (⟨#[58]⟩ : ByteArray)).size + y.size ≤ 9223372036854775807 := by omega
  have q5 : ((((g ++ (⟨#[58]⟩ : ByteArray)) ++ a) ++ (⟨#[58]⟩ : ByteArray)) ++ y).size + 1 ≤ 9223372036854775807 := by omega
  have q6 : (((((g ++ (⟨#[58]⟩ : ByteArray)) ++ a) ++ (⟨#[58]⟩ : ByteArray)) ++ y) ++ (⟨#[58]⟩ : ByteArray)).size + c.size ≤ 9223372036854775807 := by omega
  rw [if_pos q1, if_pos q2, if_pos q3, if_pos q4, if_pos q5, if_pos q6]
  exact ⟨_, fun k hk => by rw [if_pos q1, if_pos q2, if_pos q3, ho k hk, Option.bind_some, if_pos q4, if_pos q5, if_pos q6], rfl⟩
theorem cmpB_lt (a b : List UInt8) : decide (cmpB a b < 0) = Op.bytesLess a b := by
  unfold cmpB
  by_cases p : Op.bytesLess a b = true
  · rw [if_pos p, p]; rfl
  · rw [if_neg p, Bool.eq_false_iff.2 p]
    by_cases q : Op.bytesLess b a = true
    · rw [if_pos q]; rfl
    · rw [if_neg q]; rfl
theorem cmpB_self (a : List UInt8) : cmpB a a = 0 := ord_bytes.self a
theorem ref_less_cmp (a0 a1 a2 b0 b1 b2 : List UInt8) (ha : a2.length ≤ 100000) (hb : b2.length ≤ 100000) : Tot (fun k => newelref05_CoordLess.f k (ts a0) (ts a1) (ts a2) (ts b0) (ts b1) (ts b2)) (fun r => r = decide (cmpC (a0, a1, a2) (b0, b1, b2) < 0)) := by
  unfold newelref05_CoordLess.f newelref05_before.f
  simp only [ts_toList]
  refine tot_if (fun e0 => ?_) (fun e0 => tot_some ?_)
  · subst e0
    refine tot_if (fun e1 => ?_) (fun e1 => tot_some ?_)
    · subst e1
      have ec : cmpC (a0, a1, a2) (a0, a1, b2) = if cmpV a2 b2 = 0 then cmpB a2 b2 else cmpV a2 b2 := by
        unfold cmpC
        dsimp only
        rw [cmpB_self, cmpB_self, if_pos rfl, if_pos rfl]
      rw [ec]
      refine tot_bind (Q := fun r => r = decide ((if cmpV a2 b2 = 0 then cmpB a2 b2 else cmpV a2 b2) < 0)) (tot_bind (ref_compare_cmp a2 b2 ha hb) (fun c hc => ?_)) (fun r hr => tot_some hr)
      subst hc
      refine tot_if (fun n => tot_some ?_) (fun n => tot_if (fun z => tot_some ?_) (fun z => tot_some ?_))
      · rw [if_neg (by omega), decide_eq_true n]
      · rw [if_pos z, cmpB_lt]
      · rw [if_neg z, decide_eq_false n]
    · have ne : cmpB a1 b1 ≠ 0 := fun h => e1 (cmpB_zero _ _ h)
      unfold cmpC
      dsimp only
      rw [cmpB_self, if_pos rfl, if_neg ne, cmpB_lt]
  · have ne : cmpB a0 b0 ≠ 0 := fun h => e0 (cmpB_zero _ _ h)
    unfold cmpC
    dsimp only
    rw [if_neg ne, cmpB_lt]
def go3 : List UInt8 → Int → List UInt8 → List UInt8 → List UInt8 → Int × List UInt8 × List UInt8 × List UInt8
  | [], y, a, b, c => (y, a, b, c)
  | x :: r, y, a, b, c => if x = 58 ∧ y < 2 then go3 r (y + 1) a b c else if y = 0 then go3 r y (a ++ [x]) b c else if y = 1 then go3 r y a (b ++ [x]) c else go3 r y a b (c ++ [x])
def tell3 (y : Int) (a b c : List UInt8) : List UInt8 := if y = 0 then a else if y = 1 then a ++ 58 :: b else a ++ 58 :: (b ++ 58 :: c)
def fit3 (y : Int) (b c : List UInt8) : Prop := (y = 0 ∧ b = [] ∧ c = []) ∨ (y = 1 ∧ c = []) ∨ y = 2
theorem go3_tell : ∀ (l : List UInt8) (y : Int) (a b c : List UInt8), fit3 y b c → fit3 (go3 l y a b c).1 (go3 l y a b c).2.2.1 (go3 l y a b c).2.2.2 ∧ tell3 (go3 l y a b c).1 (go3 l y a b c).2.1 (go3 l y a b c).2.2.1 (go3 l y a b c).2.2.2 = tell3 y a b c ++ l
  | [], y, a, b, c, h => ⟨h, by rw [List.append_nil]; rfl⟩
  | x :: r, y, a, b, c, h => by
    rw [go3]
    by_cases g : x = 58 ∧ y < 2
    · rw [if_pos g]
      have hf : fit3 (y + 1) b c := by
        rcases h with ⟨h1, h2, h3⟩ | ⟨h1, h2⟩ | h1
        · exact Or.inr (Or.inl ⟨by omega, h3⟩)
        · exact Or.inr (Or.inr (by omega))
        · omega
      obtain ⟨i1, i2⟩ := go3_tell r (y + 1) a b c hf
      refine ⟨i1, i2.trans ?_⟩
      rw [g.1]
      rcases h with ⟨h1, h2, h3⟩ | ⟨h1, h2⟩ | h1
      · subst h1; subst h2; subst h3; simp [tell3]
      · subst h1; subst h2; simp [tell3]
      · omega
    · rw [if_neg g]
      by_cases g0 : y = 0
      · rw [if_pos g0]
        obtain ⟨i1, i2⟩ := go3_tell r y (a ++ [x]) b c h
        refine ⟨i1, i2.trans ?_⟩
        subst g0; simp [tell3]
      · rw [if_neg g0]
        by_cases g1 : y = 1
        · rw [if_pos g1]
          have hf : fit3 y (b ++ [x]) c := by
            rcases h with ⟨h1, h2, h3⟩ | ⟨h1, h2⟩ | h1
            · exact absurd h1 g0
            · exact Or.inr (Or.inl ⟨h1, h2⟩)
            · omega
          obtain ⟨i1, i2⟩ := go3_tell r y a (b ++ [x]) c hf
          refine ⟨i1, i2.trans ?_⟩
          subst g1; simp [tell3]
        · rw [if_neg g1]
          have g2 : y = 2 := by
            rcases h with ⟨h1, h2, h3⟩ | ⟨h1, h2⟩ | h1
            · exact absurd h1 g0
            · exact absurd h1 g1
            · exact h1
          obtain ⟨i1, i2⟩ := go3_tell r y a b (c ++ [x]) (Or.inr (Or.inr g2))
          refine ⟨i1, i2.trans ?_⟩
          subst g2; simp [tell3]
theorem go3_0 (r : List UInt8) : ∀ (g a : List UInt8), (∀ x ∈ g, x ≠ 58) → go3 (g ++ r) 0 a [] [] = go3 r 0 (a ++ g) [] []
  | [], a, _ => by rw [List.nil_append, List.append_nil]
  | x :: g, a, h => by
    rw [List.cons_append, go3, if_neg (fun q => h x (List.mem_cons_self ..) q.1), if_pos rfl, go3_0 r g (a ++ [x]) (fun y hy => h y (List.mem_cons_of_mem _ hy))]
    simp
theorem go3_1 (r a : List UInt8) : ∀ (g b : List UInt8), (∀ x ∈ g, x ≠ 58) → go3 (g ++ r) 1 a b [] = go3 r 1 a (b ++ g) []
  | [], b, _ => by rw [List.nil_append, List.append_nil]
  | x :: g, b, h => by
    rw [List.cons_append, go3, if_neg (fun q => h x (List.mem_cons_self ..) q.1), if_neg (by decide), if_pos rfl, go3_1 r a g (b ++ [x]) (fun y hy => h y (List.mem_cons_of_mem _ hy))]
    simp
theorem go3_2 (a b : List UInt8) : ∀ (g c : List UInt8), go3 g 2 a b c = (2, a, b, c ++ g)
  | [], c => by rw [go3, List.append_nil]
  | x :: g, c => by
    rw [go3, if_neg (fun q => by have := q.2; omega), if_neg (by decide), if_neg (by decide), go3_2 a b g (c ++ [x])]
    simp
theorem go3_three (g n v : List UInt8) (hg : ∀ x ∈ g, x ≠ 58) (hn : ∀ x ∈ n, x ≠ 58) : go3 (g ++ 58 :: (n ++ 58 :: v)) 0 [] [] [] = (2, g, n, v) := by
  rw [go3_0 _ g [] hg, List.nil_append, go3, if_pos ⟨rfl, by decide⟩]
  show go3 _ 1 _ _ _ = _
  rw [go3_1 _ g n [] hn, List.nil_append, go3, if_pos ⟨rfl, by decide⟩]
  show go3 _ 2 _ _ _ = _
  rw [go3_2, List.nil_append]
theorem cut_one (l : List UInt8) (i : Nat) (h : i < l.length) : (ts l).extract ((i : Int)).toNat (((i + 1 : Nat) : Int)).toNat = ts [l[i]] := by
  apply ba_ext
  rw [ba_extract, ts_list, ts_list, Int.toNat_natCast, Int.toNat_natCast, List.take_add_one, List.getElem?_eq_getElem h, List.drop_append, List.drop_take, Nat.sub_self, List.take_zero, List.nil_append, List.length_take, Nat.min_eq_left (by omega), Nat.sub_self]
  rfl
def end3 (k : Nat) (s : Int × List UInt8 × List UInt8 × List UInt8) : Option (ByteArray × ByteArray × ByteArray × Bool) :=
  if s.1 = 2 then (newelref05_Coord.f k (ts s.2.1) (ts s.2.2.1) (ts s.2.2.2)).bind fun t => if t = true then some (ts s.2.1, ts s.2.2.1, ts s.2.2.2, true) else some (⟨#[]⟩, ⟨#[]⟩, ⟨#[]⟩, false) else some (⟨#[]⟩, ⟨#[]⟩, ⟨#[]⟩, false)
theorem parse_loop (l : List UInt8) (hl : l.length ≤ 4611686018427387000) (P : ByteArray × ByteArray × ByteArray × Bool → Prop) : ∀ (d i : Nat) (y : Int) (a b c : List UInt8), i + d = l.length → 0 ≤ y → y ≤ 2 → Tot (fun k => end3 k (go3 (l.drop i) y a b c)) P →
    Tot (fun k => newelref05_CoordParse.l0 k (ts l) (i : Int) y (ts a) (ts b) (ts c)) P := by
  intro d
  induction d with
  | zero =>
    intro i y a b c h y0 y2 t
    rw [List.drop_eq_nil_of_le (by omega), go3] at t
    refine tot_succ t (fun k => ?_)
    rw [newelref05_CoordParse.l0, if_neg (by rw [ts_size]; omega)]
    rfl
  | succ d ih =>
    intro i y a b c h y0 y2 t
    have hi : i < l.length := by omega
    rw [List.drop_eq_getElem_cons hi, go3] at t
    have wy : y < 2 → wrap64 (y + 1) = y + 1 := fun h => by unfold wrap64; omega
    have by8 : ((l[i].toNat : Nat) : Int) = 58 ↔ l[i] = 58 := ⟨fun h => UInt8.toNat_inj.1 (by show l[i].toNat = 58; omega), fun e => by rw [e]; rfl⟩
    refine tot_succ (b := fun k => if ((l[i].toNat : Nat) : Int) = 58 ∧ y < 2 then newelref05_CoordParse.l0 k (ts l) ((i + 1 : Nat) : Int) (wrap64 (y + 1)) (ts a) (ts b) (ts c) else if y = 0 then newelref05_CoordParse.l0 k (ts l) ((i + 1 : Nat) : Int) y (ts (a ++ [l[i]])) (ts b) (ts c) else if y = 1 then newelref05_CoordParse.l0 k (ts l) ((i + 1 : Nat) : Int) y (ts a) (ts (b ++ [l[i]])) (ts c) else newelref05_CoordParse.l0 k (ts l) ((i + 1 : Nat) : Int) y (ts a) (ts b) (ts (c ++ [l[i]]))) ?_ (fun k => ?_)
    · refine tot_if (fun g => ?_) (fun g => ?_)
      · rw [if_pos ⟨by8.1 g.1, g.2⟩] at t
        rw [wy g.2]
        exact ih (i + 1) (y + 1) a b c (by omega) (by omega) (by omega) t
      · rw [if_neg (fun q => g ⟨by8.2 q.1, q.2⟩)] at t
        refine tot_if (fun g0 => ?_) (fun g0 => ?_)
        · rw [if_pos g0] at t
          exact ih (i + 1) y _ b c (by omega) y0 y2 t
        · rw [if_neg g0] at t
          refine tot_if (fun g1 => ?_) (fun g1 => ?_)
          · rw [if_pos g1] at t
            exact ih (i + 1) y a _ c (by omega) y0 y2 t
          · rw [if_neg g1] at t
            exact ih (i + 1) y a b _ (by omega) y0 y2 t
    · rw [newelref05_CoordParse.l0, if_pos (by rw [ts_size]; omega), bt_nat l i hi, next_of i (by omega), cut_one l i hi, ts_append, ts_append, ts_append]
theorem ref_parse_cmp (l : List UInt8) (h : l.length ≤ 100000) : Tot (fun k => newelref05_CoordParse.f k (ts l)) (ParsC l) := by
  unfold newelref05_CoordParse.f
  refine tot_guard (by rw [ts_size]; omega) ?_
  refine parse_loop l (by omega) _ l.length 0 0 [] [] [] (by omega) (by decide) (by decide) ?_
  rw [List.drop_zero]
  have tl := go3_tell l 0 [] [] [] (Or.inl ⟨rfl, rfl, rfl⟩)
  have three : ∀ g n v, l = g ++ 58 :: (n ++ 58 :: v) → rightC g n v = true → go3 l 0 [] [] [] = (2, g, n, v) := by
    intro g n v e hr
    unfold rightC at hr
    simp only [Bool.and_eq_true, Bool.not_eq_true'] at hr
    rw [e]
    exact go3_three g n v (id_no g hr.1) (id_no n hr.2.1)
  generalize go3 l 0 [] [] [] = s at *
  obtain ⟨y, a, b, c⟩ := s
  obtain ⟨_, e⟩ := tl
  dsimp only at e
  unfold end3
  dsimp only
  refine tot_if (fun y2 => ?_) (fun y2 => tot_some ⟨(fun h => by cases h), fun g n v e1 hr => ?_, fun _ => rfl⟩)
  · subst y2
    have e' : l = a ++ 58 :: (b ++ 58 :: c) := by rw [← List.nil_append l]; exact e.symm
    have le := congrArg List.length e'
    simp only [List.length_append, List.length_cons] at le
    refine tot_bind (ref_coord_cmp a b c (by omega) (by omega) (by omega)) (fun r hr => ?_)
    subst hr
    refine tot_if (fun g => tot_some ⟨fun _ => ⟨e', g⟩, fun g1 n1 v1 e1 h1 => ?_, (fun h => by cases h)⟩) (fun g => tot_some ⟨(fun h => by cases h), fun g1 n1 v1 e1 h1 => ?_, fun _ => rfl⟩)
    · have := three g1 n1 v1 e1 h1
      injection this with i0 this
      injection this with i1 this
      injection this with i2 i3
      rw [i1, i2, i3]; rfl
    · have := three g1 n1 v1 e1 h1
      injection this with i0 this
      injection this with i1 this
      injection this with i2 i3
      rw [← i1, ← i2, ← i3] at h1
      exact absurd h1 g
  · have := three g n v e1 hr
    injection this with i0 _
    exact absurd i0 y2
theorem tot_same {α : Type} {g : Nat → Option α} {F : Nat → α → Option Bool} {P : Bool → Prop} {v : α} (h : Tot g (fun r => r = v)) (hF : Tot (fun k => F k v) P) : Tot (fun k => (g k).bind (F k)) P :=
  tot_bind h (fun r hr => by rw [hr]; exact hF)
theorem text_two (a b c : List UInt8) (h : a.length + b.length + c.length ≤ 9000000000000000000) : coord_Text.f (ts a) (ts b) (ts c) = some (ts (a ++ 58 :: (b ++ 58 :: c))) ∧ newelref05_CoordText.f (ts a) (ts b) (ts c) = some (ts (a ++ 58 :: (b ++ 58 :: c))) := by
  have o : (⟨#[58]⟩ : ByteArray) = ts [58] := rfl
  unfold coord_Text.f newelref05_CoordText.f
  rw [o, ts_append, ts_append, ts_append, ts_append, ts_size, ts_size, ts_size, ts_size, ts_size, ts_size]
  simp only [List.length_append, List.length_cons, List.length_nil]
  rw [if_pos (by omega), if_pos (by omega), if_pos (by omega), if_pos (by omega)]
  constructor <;> (congr 1; show ts _ = ts _; simp)
theorem CoordTells : newellaw09_CoordTells.Pure := by
  intro a0 a1_0 a1_1 a1_2 a2_0 a2_1 a2_2 a3_0 a3_1 a3_2 a3_3 a3_4 a3_5 a3_6 l3_7 _ hx0 hx1 hx2 hy0 hy1 hy2 hk0 hk1 _ hk3 hk4 _ _
  have key : Tot (fun k => newellaw09_CoordTells.f k a0 a1_0 a1_1 a1_2 a2_0 a2_1 a2_2 a3_0 a3_1 a3_2 a3_3 a3_4 a3_5 a3_6 l3_7) (fun r => r = true) := by
    obtain ⟨s, rfl⟩ : ∃ v, a0 = ts v := ⟨_, (ts_data a0).symm⟩
    obtain ⟨x0, rfl⟩ : ∃ v, a1_0 = ts v := ⟨_, (ts_data a1_0).symm⟩
    obtain ⟨x1, rfl⟩ : ∃ v, a1_1 = ts v := ⟨_, (ts_data a1_1).symm⟩
    obtain ⟨xv, rfl⟩ : ∃ v, a1_2 = ts v := ⟨_, (ts_data a1_2).symm⟩
    obtain ⟨y0, rfl⟩ : ∃ v, a2_0 = ts v := ⟨_, (ts_data a2_0).symm⟩
    obtain ⟨y1, rfl⟩ : ∃ v, a2_1 = ts v := ⟨_, (ts_data a2_1).symm⟩
    obtain ⟨yv, rfl⟩ : ∃ v, a2_2 = ts v := ⟨_, (ts_data a2_2).symm⟩
    have aw : Tot (fun k => newellaw09_awake.f k) (fun r => r = true) := tot_ge 20 (fun k hk => awake_ge k hk)
    obtain ⟨ky, kh1, kh2⟩ := ref_key a3_0 a3_1 a3_2 a3_3 a3_4 a3_5 a3_6 l3_7 (by omega) (by omega) (by omega) (by omega)
    simp only [ts_size] at hx0 hx1 hx2 hy0 hy1 hy2
    have wake : Tot (fun k => newellaw09_CoordTells.j0 k (ts s) true (ts x0) (ts x1) (ts xv) (ts y0) (ts y1) (ts yv) a3_0 a3_1 a3_2 a3_3 a3_4 a3_5 a3_6 l3_7) (fun r => r = true) := by
      refine tot_succ ?_ (fun k => by rw [newellaw09_CoordTells.j0])
      exact tot_guard rfl (tot_bind aw (fun r hr => tot_some hr))
    unfold newellaw09_CoordTells.f
    rw [ts_size, ts_size, ts_size]
    refine tot_if (fun _ => wake) (fun hs => tot_if (fun _ => wake) (fun hxv => ?_))
    by_cases hyv : (yv.length : Int) > 200
    · rw [decide_eq_true hyv]; exact wake
    rw [decide_eq_false hyv]
    refine tot_succ ?_ (fun k => by rw [newellaw09_CoordTells.j0])
    refine tot_if (fun h => by cases h) (fun _ => ?_)
    refine tot_bind (parse_cmpC s (by omega)) (fun r hr => tot_bind (ref_parse_cmp s (by omega)) (fun r' hr' => tot_bind aw (fun w hw => tot_guard hw ?_)))
    obtain rfl := pars_one s r r' hr hr'
    refine tot_same (v := idOk s) (tot_ge 502 (fun k hk => id_told (ts s) k hk)) (tot_same (v := idOk s) (ref_id_told s (by omega)) (tot_guard (beq_self_eq_true _) ?_))
    refine tot_same (v := rightC x0 x1 xv) (right_cmp (ts x0) (ts x1) (ts xv) (by rw [ts_size]; omega)) (tot_same (v := rightC x0 x1 xv) (ref_coord_cmp x0 x1 xv (by omega) (by omega) (by omega)) (tot_guard (beq_self_eq_true _) ?_))
    obtain ⟨t1, t2⟩ := text_two x0 x1 xv (by omega)
    rw [t1, t2]
    simp only [Option.bind_some]
    refine tot_guard (by trivial) (tot_guard ?_ (tot_guard (beq_self_eq_true _) ?_))
    · rw [beq_self_eq_true, beq_self_eq_true, beq_self_eq_true]; rfl
    rw [kh2]
    refine tot_same (v := ky) (tot_ge 2 kh1) ?_
    simp only [Option.bind_some]
    refine tot_guard (by trivial) ?_
    exact tot_same (less_cmp x0 x1 xv y0 y1 yv (by omega) (by omega)) (tot_same (ref_less_cmp x0 x1 xv y0 y1 yv (by omega) (by omega)) (tot_some (beq_self_eq_true _)))
  obtain ⟨k, r, hr, h⟩ := tot_get key
  exact ⟨k, by rw [h k (Nat.le_refl _), hr]⟩
end Go.Proofs.YtgdjfcmmpjcaaaaDoor.Pure
