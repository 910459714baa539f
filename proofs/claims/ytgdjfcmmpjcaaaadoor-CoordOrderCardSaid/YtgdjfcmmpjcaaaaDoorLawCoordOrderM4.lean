/- Texts put together: what functions of the program compute, and plain words about them. -/
import Derived.Test.YtgdjfcmmpjcaaaaDoorLawCoordOrderM1
import Derived.Test.YtgdjfcmmpjcaaaaDoorLawCoordOrderM2
import Derived.Test.YtgdjfcmmpjcaaaaDoorLawCoordOrderM3
import Derived.Test.YtgdjfcmmpjcaaaaDoorProg
import Derived.Test.YtgdjfcmmpjcaaaaDoorRows
import Derived.ChangeArms
import Derived.Deep.DeepHandedRow
import Derived.Shelf.Vars
import Derived.Below
import Derived.Deep.Draws
import Derived.Deep.AppendLies
import Derived.Maps.AppendAt
import Derived.OwnWalk
import Derived.Laws.BytesArg
import Derived.Laws.MakeOwn
import Derived.Laws.OwnMore
import Derived.Deep.OwnRows
import Derived.Tactics
import Derived.Lib.ConvBytes
import Derived.Laws.Slices
import Derived.WalkKit
import Derived.KernelRfl
import Derived.RowKit3
import Derived.Deep.LoopGhost
import Derived.Deep.QuietTactic
import Derived.BigQuiet
import Derived.WideLaws
import Derived.Deep.DeepCutAuto
import Derived.Deep.CutBlock
import Derived.Deep.RegionHeld3
import Derived.Laws.Rows
import Derived.Lib.AppendStr
import Derived.ArgAppend
import Derived.Laws.IdiomCopy
import Derived.OrdersHeld
import Derived.Laws.BitsLemmas
import Derived.RowKit
import Derived.Lib.OthersKept
import Derived.Lib.Hide
import Derived.LoopN
import Derived.Lib.IndexAny
import Derived.Lib.IndexBytes
import Derived.Laws.RangeString
import Derived.Laws.Strings3
import Derived.Laws.Runes
import Derived.Lib.DecodeN
import Derived.Shelf.Strings.IndexAny
import Derived.Lib.IndexMore
namespace Go.Proofs.YtgdjfcmmpjcaaaaDoor.Q
open Go.RowKit Go.Proofs.YtgdjfcmmpjcaaaaDoorW.PrintWords Go.Proofs.YtgdjfcmmpjcaaaaDoorW.PrintLast Go.Proofs.YtgdjfcmmpjcaaaaDoorW.Own Go.Proofs.YtgdjfcmmpjcaaaaDoorW.PrintMore
attribute [local go_sem] max2_int min2_int max_two min_two max_three min_three max_four min_four   -- for this text's walks alone
set_option linter.unusedVariables false
set_option linter.unusedSimpArgs false
set_option maxHeartbeats 40000000
set_option maxRecDepth 100000
mutual
def newellaw09_CoordOrder.j0 : Nat → Bool → ByteArray → ByteArray → ByteArray → ByteArray → ByteArray → ByteArray → ByteArray → ByteArray → ByteArray → Option (Bool)
 | 0, _, _, _, _, _, _, _, _, _, _ => none
 | k + 1, x26, x759000, x759001, x759002, x760000, x760001, x760002, x761000, x761001, x761002 => if x26 = true then ((newellaw09_awake.f k).bind fun t761 => (some t761)) else ((coord_Less.f k x759000 x759001 x759002 x760000 x760001 x760002).bind fun t762 => ((coord_Less.f k x760000 x760001 x760002 x761000 x761001 x761002).bind fun t763 => ((coord_Less.f k x759000 x759001 x759002 x761000 x761001 x761002).bind fun t764 => ((newellaw09_awake.f k).bind fun t766 => (if t766 = true then (if t762 = true then (if t763 = true then (if t764 = true then ((coord_Less.f k x759000 x759001 x759002 x759000 x759001 x759002).bind fun t767 => (if t767 = true then (newellaw09_CoordOrder.j1 k false) else (if x759000.toList = x760000.toList then ((coord_Less.f k x759000 x759001 x759002 x759000 x759001 x760002).bind fun t768 => (if t768 = true then (newellaw09_CoordOrder.j1 k true) else ((coord_Less.f k x759000 x759001 x760002 x759000 x759001 x759002).bind fun t769 => (if t769 = true then (newellaw09_CoordOrder.j1 k true) else (newellaw09_CoordOrder.j1 k (x759002.toList == x760002.toList)))))) else (if (t762 == (Op.bytesLess x759000.toList x760000.toList)) = true then ((coord_Less.f k x759000 x759001 x759002 x759000 x759001 x760002).bind fun t770 => (if t770 = true then (newellaw09_CoordOrder.j1 k true) else ((coord_Less.f k x759000 x759001 x760002 x759000 x759001 x759002).bind fun t771 => (if t771 = true then (newellaw09_CoordOrder.j1 k true) else (newellaw09_CoordOrder.j1 k (x759002.toList == x760002.toList)))))) else (newellaw09_CoordOrder.j1 k false))))) else (newellaw09_CoordOrder.j1 k false)) else ((coord_Less.f k x759000 x759001 x759002 x759000 x759001 x759002).bind fun t772 => (if t772 = true then (newellaw09_CoordOrder.j1 k false) else (if x759000.toList = x760000.toList then ((coord_Less.f k x759000 x759001 x759002 x759000 x759001 x760002).bind fun t773 => (if t773 = true then (newellaw09_CoordOrder.j1 k true) else ((coord_Less.f k x759000 x759001 x760002 x759000 x759001 x759002).bind fun t774 => (if t774 = true then (newellaw09_CoordOrder.j1 k true) else (newellaw09_CoordOrder.j1 k (x759002.toList == x760002.toList)))))) else (if (t762 == (Op.bytesLess x759000.toList x760000.toList)) = true then ((coord_Less.f k x759000 x759001 x759002 x759000 x759001 x760002).bind fun t775 => (if t775 = true then (newellaw09_CoordOrder.j1 k true) else ((coord_Less.f k x759000 x759001 x760002 x759000 x759001 x759002).bind fun t776 => (if t776 = true then (newellaw09_CoordOrder.j1 k true) else (newellaw09_CoordOrder.j1 k (x759002.toList == x760002.toList)))))) else (newellaw09_CoordOrder.j1 k false)))))) else ((coord_Less.f k x759000 x759001 x759002 x759000 x759001 x759002).bind fun t777 => (if t777 = true then (newellaw09_CoordOrder.j1 k false) else (if x759000.toList = x760000.toList then ((coord_Less.f k x759000 x759001 x759002 x759000 x759001 x760002).bind fun t778 => (if t778 = true then (newellaw09_CoordOrder.j1 k true) else ((coord_Less.f k x759000 x759001 x760002 x759000 x759001 x759002).bind fun t779 => (if t779 = true then (newellaw09_CoordOrder.j1 k true) else (newellaw09_CoordOrder.j1 k (x759002.toList == x760002.toList)))))) else (if (t762 == (Op.bytesLess x759000.toList x760000.toList)) = true then ((coord_Less.f k x759000 x759001 x759002 x759000 x759001 x760002).bind fun t780 => (if t780 = true then (newellaw09_CoordOrder.j1 k true) else ((coord_Less.f k x759000 x759001 x760002 x759000 x759001 x759002).bind fun t781 => (if t781 = true then (newellaw09_CoordOrder.j1 k true) else (newellaw09_CoordOrder.j1 k (x759002.toList == x760002.toList)))))) else (newellaw09_CoordOrder.j1 k false)))))) else (newellaw09_CoordOrder.j1 k false))))))
def newellaw09_CoordOrder.j1 : Nat → Bool → Option (Bool)
 | 0, _ => none
 | k + 1, x6 => some x6
end
def newellaw09_CoordOrder.f (k : Nat) (a0_0 : ByteArray) (a0_1 : ByteArray) (a0_2 : ByteArray) (a1_0 : ByteArray) (a1_1 : ByteArray) (a1_2 : ByteArray) (a2_0 : ByteArray) (a2_1 : ByteArray) (a2_2 : ByteArray) : Option (Bool) := if (a0_2.size : Int) > 100 then (newellaw09_CoordOrder.j0 k true a0_0 a0_1 a0_2 a1_0 a1_1 a1_2 a2_0 a2_1 a2_2) else (if (a1_2.size : Int) > 100 then (newellaw09_CoordOrder.j0 k true a0_0 a0_1 a0_2 a1_0 a1_1 a1_2 a2_0 a2_1 a2_2) else (newellaw09_CoordOrder.j0 k (decide ((a2_2.size : Int) > 100)) a0_0 a0_1 a0_2 a1_0 a1_1 a1_2 a2_0 a2_1 a2_2))
def newellaw09_CoordOrder.T3 : Bool × List (List Nat × List Nat) := (true, [([], []), ([], []), ([0, 1], [0, 1]), ([], []), ([], []), ([3, 4, 2], [3, 4]), ([], []), ([], []), ([6, 7, 5], [6, 7]), ([2, 8, 0, 1, 2], [2]), ([5, 9, 0, 1, 2, 3, 4, 5, 9], [5]), ([8, 10, 0, 1, 2, 3, 4, 5, 6, 7, 8, 9, 10], [8])])
def newellaw09_CoordOrder.B3 : List Nat := [0, 0, 3, 0, 0, 31, 0, 0, 255, 511, 1023, 2047]
theorem newellaw09_CoordOrder.tab3 : rtab .any (opsOf Tryd.f13 3) = newellaw09_CoordOrder.T3 := by kernel_rfl
theorem newellaw09_CoordOrder.bits3 : waitsOk newellaw09_CoordOrder.T3.2 newellaw09_CoordOrder.B3 = true := by kernel_rfl
theorem newellaw09_CoordOrder.calls (k : Nat) (a0_0 : ByteArray) (a0_1 : ByteArray) (a0_2 : ByteArray) (a1_0 : ByteArray) (a1_1 : ByteArray) (a1_2 : ByteArray) (a2_0 : ByteArray) (a2_1 : ByteArray) (a2_2 : ByteArray) (r : Bool) (w : World) (hG : Glob w) (h : newellaw09_CoordOrder.f k a0_0 a0_1 a0_2 a1_0 a1_1 a1_2 a2_0 a2_1 a2_2 = some r) (hr_ : r = true) :
 Calls Tryd.prog 13 #[.agg #[.string a0_0, .string a0_1, .string a0_2], .agg #[.string a1_0, .string a1_1, .string a1_2], .agg #[.string a2_0, .string a2_1, .string a2_2]] w fun e w' => e = .returned (.bool r) ∧ Below w.heap.size w w' := by
 have hu32 := Tryd.underlying32
 have HG := Aside0.mk hG
 clear hG
 have HB := Aside0.mk (Below.refl w.heap.size w)
 have H : (if (a0_2.size : Int) > 100 then (newellaw09_CoordOrder.j0 k true a0_0 a0_1 a0_2 a1_0 a1_1 a1_2 a2_0 a2_1 a2_2) else (if (a1_2.size : Int) > 100 then (newellaw09_CoordOrder.j0 k true a0_0 a0_1 a0_2 a1_0 a1_1 a1_2 a2_0 a2_1 a2_2) else (newellaw09_CoordOrder.j0 k (decide ((a2_2.size : Int) > 100)) a0_0 a0_1 a0_2 a1_0 a1_1 a1_2 a2_0 a2_1 a2_2))) = some r := h
 clear h
 have HC4 := Aside0.mk H
 clear H
 go_enter Tryd.func13, Tryd.ntmps13
 go_upto_region 1 with (first | ((with_reducible refine gate_dst (N := 3) rfl ?_); (try (refine gate_guard (by rfl) ?_; dsimp only)); refine be 3 #[.string a0_0, .string a0_1, .string a0_2] 32 ?_; intro gb758 hg w5 hbox hb; have BK758 := Aside0.mk (hbox); have GW758 := gW hg; have GE758 := gW hg; replace HB := sB hb; clear hb hbox hg) | ((with_reducible refine gate_dst (N := 4) rfl ?_); (try (refine gate_guard (by rfl) ?_; dsimp only)); refine be 4 #[.string a1_0, .string a1_1, .string a1_2] 32 ?_; intro gb759 hg w6 hbox hb; have BK759 := Aside0.mk (hbox); have GW759 := gW hg; have GE759 := gW hg; replace HB := sB hb; have NB758_759 := nL BK758 hg; have NB759_758 := nG BK758 hg; replace BK758 := kB BK758 hb; clear hb hbox hg) | ((with_reducible refine gate_dst (N := 5) rfl ?_); (try (refine gate_guard (by rfl) ?_; dsimp only)); refine be 5 #[.string a2_0, .string a2_1, .string a2_2] 32 ?_; intro gb760 hg w7 hbox hb; have BK760 := Aside0.mk (hbox); have GW760 := gW hg; have GE760 := gW hg; replace HB := sB hb; have NB758_760 := nL BK758 hg; have NB760_758 := nG BK758 hg; replace BK758 := kB BK758 hb; have NB759_760 := nL BK759 hg; have NB760_759 := nG BK759 hg; replace BK759 := kB BK759 hb; clear hb hbox hg))
 (try simp only [Act.put, List.setIfInBounds_toArray, List.set_cons_zero, List.set_cons_succ])
 go_cut [26] (fun v26 wc => ∃ (kq : Nat) (x26_3 : Bool), v26 = .bool x26_3 ∧ Aside0 (newellaw09_CoordOrder.j0 kq x26_3 a0_0 a0_1 a0_2 a1_0 a1_1 a1_2 a2_0 a2_1 a2_2 = some r) ∧ Aside0 (kq ≤ k) ∧ Aside0 (wc.heap[gb758]? = some (.cells #[.string a0_0, .string a0_1, .string a0_2] 32 (0, 0))) ∧ Aside0 (wc.heap[gb759]? = some (.cells #[.string a1_0, .string a1_1, .string a1_2] 32 (0, 0))) ∧ Aside0 (wc.heap[gb760]? = some (.cells #[.string a2_0, .string a2_1, .string a2_2] 32 (0, 0))) ∧ Aside0 (Below w.heap.size w wc))
 case first =>
  have H := HC4.out
  clear HC4
  by_cases c8 : (a0_2.size : Int) > 100
  ·rw [if_pos c8] at H
   have c8b0 := dT c8
   have c8b1 : decide (100 < a0_2.size) = true := decide_eq_true (by omega)
   clear c8
   (first | rw [c8b0] | (simp only [i64_w, i32_w]; rw [c8b0]) | skip)
   have H' := Aside0.mk H
   clear H
   have hnb9 := NB758_759.out
   have hnc9 := NB759_758.out
   have hnb10 := NB758_760.out
   have hnc10 := NB760_758.out
   obtain ⟨hcz11_0, hcz11_1, hcz11_2, hfz11_0, hfz11_1, hfz11_2⟩ := cells3 BK758
   go_wp2
   go_meet
   case rel => exact ⟨_, (true), cA, H', ⟨by first | omega | exact Nat.le_refl _⟩, ⟨bK BK758⟩, ⟨bK BK759⟩, ⟨bK BK760⟩, ⟨bG⟩⟩
  rw [if_neg c8] at H
  have c8b0 := dF c8
  have c8b1 : decide (100 < a0_2.size) = false := decide_eq_false (by omega)
  clear c8
  (first | rw [c8b0] | (simp only [i64_w, i32_w]; rw [c8b0]) | skip)
  by_cases c12 : (a1_2.size : Int) > 100
  ·rw [if_pos c12] at H
   have c12b0 := dT c12
   have c12b1 : decide (100 < a1_2.size) = true := decide_eq_true (by omega)
   clear c12
   have H' := Aside0.mk H
   clear H
   have hnb13 := NB758_759.out
   have hnc13 := NB759_758.out
   have hnb14 := NB758_760.out
   have hnc14 := NB760_758.out
   obtain ⟨hcz15_0, hcz15_1, hcz15_2, hfz15_0, hfz15_1, hfz15_2⟩ := cells3 BK758
   have hnb16 := NB759_760.out
   have hnc16 := NB760_759.out
   obtain ⟨hcz17_0, hcz17_1, hcz17_2, hfz17_0, hfz17_1, hfz17_2⟩ := cells3 BK759
   go_wp2
   go_meet
   case rel => exact ⟨_, (true), cA, H', ⟨by first | omega | exact Nat.le_refl _⟩, ⟨bK BK758⟩, ⟨bK BK759⟩, ⟨bK BK760⟩, ⟨bG⟩⟩
  rw [if_neg c12] at H
  have c12b0 := dF c12
  have c12b1 : decide (100 < a1_2.size) = false := decide_eq_false (by omega)
  clear c12
  have H' := Aside0.mk H
  clear H
  have hnb18 := NB758_759.out
  have hnc18 := NB759_758.out
  have hnb19 := NB758_760.out
  have hnc19 := NB760_758.out
  obtain ⟨hcz20_0, hcz20_1, hcz20_2, hfz20_0, hfz20_1, hfz20_2⟩ := cells3 BK758
  have hnb21 := NB759_760.out
  have hnc21 := NB760_759.out
  obtain ⟨hcz22_0, hcz22_1, hcz22_2, hfz22_0, hfz22_1, hfz22_2⟩ := cells3 BK759
  obtain ⟨hcz23_0, hcz23_1, hcz23_2, hfz23_0, hfz23_1, hfz23_2⟩ := cells3 BK760
  go_wp2
  go_meet
  case rel => exact ⟨_, (decide ((a2_2.size : Int) > 100)), cA, H', ⟨by first | omega | exact Nat.le_refl _⟩, ⟨bK BK758⟩, ⟨bK BK759⟩, ⟨bK BK760⟩, ⟨bG⟩⟩
 clear HC4
 try clear c1
 try clear c2
 try clear p2
 try clear c8
 try clear c8b0
 try clear c8b1
 try clear c9
 try clear c10
 try clear c12
 try clear c12b0
 try clear c12b1
 try clear c13
 try clear c14
 try clear c16
 try clear c18
 try clear c19
 try clear c21
 try clear hcz11_0
 try clear hcz11_1
 try clear hcz11_2
 try clear hcz15_0
 try clear hcz15_1
 try clear hcz15_2
 try clear hcz17_0
 try clear hcz17_1
 try clear hcz17_2
 try clear hcz20_0
 try clear hcz20_1
 try clear hcz20_2
 try clear hcz22_0
 try clear hcz22_1
 try clear hcz22_2
 try clear hcz23_0
 try clear hcz23_1
 try clear hcz23_2
 try clear hfz11_0
 try clear hfz11_1
 try clear hfz11_2
 try clear hfz15_0
 try clear hfz15_1
 try clear hfz15_2
 try clear hfz17_0
 try clear hfz17_1
 try clear hfz17_2
 try clear hfz20_0
 try clear hfz20_1
 try clear hfz20_2
 try clear hfz22_0
 try clear hfz22_1
 try clear hfz22_2
 try clear hfz23_0
 try clear hfz23_1
 try clear hfz23_2
 obtain ⟨kq, x26_3, rfl, HA, HJ3, BK758, BK759, BK760, HB⟩ := hcut
 cases kq with
 | zero => exact absurd HA.out (by simp [newellaw09_CoordOrder.j0])
 | succ kj3 =>
  have H := HA.out
  clear HA
  simp only [newellaw09_CoordOrder.j0] at H
  by_cases c24 : x26_3 = true
  ·subst c24
   have H1 : ((newellaw09_awake.f kj3).bind fun t761 => (some t761)) = some r := by rw [if_pos rfl] at H; exact H
   clear H
   have H := H1
   clear H1
   replace H := bi H
   obtain ⟨t761, A250, H⟩ := H
   try dsimp only at H
   have A25 := Aside0.mk A250
   clear A250
   obtain rfl := Option.some.inj H
   go_wp2_with (first | ((with_reducible refine gate_callee (f := 24) rfl ?_); refine gl (some 27) Tryd.func24 #[] ?_; (with_reducible refine (newellaw09_awake.calls kj3  t761 _ (gS HG) A25.out).mono ?_); rintro e w26 ⟨rfl, hb⟩; refine ⟨_, rfl, ?_⟩; replace BK758 := kB BK758 hb; replace BK759 := kB BK759 hb; replace BK760 := kB BK760 hb; replace HB := sB hb; (try clear hb)))
   go_ret
   exact ⟨eA, bG⟩
  replace c24 := Bool.eq_false_iff.mpr c24
  subst c24
  have H1 : ((coord_Less.f kj3 a0_0 a0_1 a0_2 a1_0 a1_1 a1_2).bind fun t762 => ((coord_Less.f kj3 a1_0 a1_1 a1_2 a2_0 a2_1 a2_2).bind fun t763 => ((coord_Less.f kj3 a0_0 a0_1 a0_2 a2_0 a2_1 a2_2).bind fun t764 => ((newellaw09_awake.f kj3).bind fun t766 => (if t766 = true then (if t762 = true then (if t763 = true then (if t764 = true then ((coord_Less.f kj3 a0_0 a0_1 a0_2 a0_0 a0_1 a0_2).bind fun t767 => (if t767 = true then (newellaw09_CoordOrder.j1 kj3 false) else (if a0_0.toList = a1_0.toList then ((coord_Less.f kj3 a0_0 a0_1 a0_2 a0_0 a0_1 a1_2).bind fun t768 => (if t768 = true then (newellaw09_CoordOrder.j1 kj3 true) else ((coord_Less.f kj3 a0_0 a0_1 a1_2 a0_0 a0_1 a0_2).bind fun t769 => (if t769 = true then (newellaw09_CoordOrder.j1 kj3 true) else (newellaw09_CoordOrder.j1 kj3 (a0_2.toList == a1_2.toList)))))) else (if (t762 == (Op.bytesLess a0_0.toList a1_0.toList)) = true then ((coord_Less.f kj3 a0_0 a0_1 a0_2 a0_0 a0_1 a1_2).bind fun t770 => (if t770 = true then (newellaw09_CoordOrder.j1 kj3 true) else ((coord_Less.f kj3 a0_0 a0_1 a1_2 a0_0 a0_1 a0_2).bind fun t771 => (if t771 = true then (newellaw09_CoordOrder.j1 kj3 true) else (newellaw09_CoordOrder.j1 kj3 (a0_2.toList == a1_2.toList)))))) else (newellaw09_CoordOrder.j1 kj3 false))))) else (newellaw09_CoordOrder.j1 kj3 false)) else ((coord_Less.f kj3 a0_0 a0_1 a0_2 a0_0 a0_1 a0_2).bind fun t772 => (if t772 = true then (newellaw09_CoordOrder.j1 kj3 false) else (if a0_0.toList = a1_0.toList then ((coord_Less.f kj3 a0_0 a0_1 a0_2 a0_0 a0_1 a1_2).bind fun t773 => (if t773 = true then (newellaw09_CoordOrder.j1 kj3 true) else ((coord_Less.f kj3 a0_0 a0_1 a1_2 a0_0 a0_1 a0_2).bind fun t774 => (if t774 = true then (newellaw09_CoordOrder.j1 kj3 true) else (newellaw09_CoordOrder.j1 kj3 (a0_2.toList == a1_2.toList)))))) else (if (t762 == (Op.bytesLess a0_0.toList a1_0.toList)) = true then ((coord_Less.f kj3 a0_0 a0_1 a0_2 a0_0 a0_1 a1_2).bind fun t775 => (if t775 = true then (newellaw09_CoordOrder.j1 kj3 true) else ((coord_Less.f kj3 a0_0 a0_1 a1_2 a0_0 a0_1 a0_2).bind fun t776 => (if t776 = true then (newellaw09_CoordOrder.j1 kj3 true) else (newellaw09_CoordOrder.j1 kj3 (a0_2.toList == a1_2.toList)))))) else (newellaw09_CoordOrder.j1 kj3 false)))))) else ((coord_Less.f kj3 a0_0 a0_1 a0_2 a0_0 a0_1 a0_2).bind fun t777 => (if t777 = true then (newellaw09_CoordOrder.j1 kj3 false) else (if a0_0.toList = a1_0.toList then ((coord_Less.f kj3 a0_0 a0_1 a0_2 a0_0 a0_1 a1_2).bind fun t778 => (if t778 = true then (newellaw09_CoordOrder.j1 kj3 true) else ((coord_Less.f kj3 a0_0 a0_1 a1_2 a0_0 a0_1 a0_2).bind fun t779 => (if t779 = true then (newellaw09_CoordOrder.j1 kj3 true) else (newellaw09_CoordOrder.j1 kj3 (a0_2.toList == a1_2.toList)))))) else (if (t762 == (Op.bytesLess a0_0.toList a1_0.toList)) = true then ((coord_Less.f kj3 a0_0 a0_1 a0_2 a0_0 a0_1 a1_2).bind fun t780 => (if t780 = true then (newellaw09_CoordOrder.j1 kj3 true) else ((coord_Less.f kj3 a0_0 a0_1 a1_2 a0_0 a0_1 a0_2).bind fun t781 => (if t781 = true then (newellaw09_CoordOrder.j1 kj3 true) else (newellaw09_CoordOrder.j1 kj3 (a0_2.toList == a1_2.toList)))))) else (newellaw09_CoordOrder.j1 kj3 false)))))) else (newellaw09_CoordOrder.j1 kj3 false)))))) = some r := by rw [if_neg (show ¬ (false = true) by decide)] at H; exact H
  clear H
  have H := H1
  clear H1
  replace H := bi H
  obtain ⟨t762, A270, H⟩ := H
  try dsimp only at H
  have A27 := Aside0.mk A270
  clear A270
  replace H := bi H
  obtain ⟨t763, A280, H⟩ := H
  try dsimp only at H
  have A28 := Aside0.mk A280
  clear A280
  replace H := bi H
  obtain ⟨t764, A290, H⟩ := H
  try dsimp only at H
  have A29 := Aside0.mk A290
  clear A290
  have HC30 := Aside0.mk H
  clear H
  try go_wp2
  replace BK758 := Aside0.mk (blk_drew BK758.out)
  replace BK759 := Aside0.mk (blk_drew BK759.out)
  replace BK760 := Aside0.mk (blk_drew BK760.out)
  replace HB := Aside0.mk (below_drew1 HB.out)
  refine start_ (n := 12) (S := fun w' => w'.cell? ⟨gb758, 0, none⟩ = some (.string a0_0) ∧ w'.cell? ⟨gb758, 1, none⟩ = some (.string a0_1) ∧ w'.cell? ⟨gb758, 2, none⟩ = some (.string a0_2) ∧ w'.cell? ⟨gb759, 0, none⟩ = some (.string a1_0) ∧ w'.cell? ⟨gb759, 1, none⟩ = some (.string a1_1) ∧ w'.cell? ⟨gb759, 2, none⟩ = some (.string a1_2) ∧ w'.cell? ⟨gb760, 0, none⟩ = some (.string a2_0) ∧ w'.cell? ⟨gb760, 1, none⟩ = some (.string a2_1) ∧ w'.cell? ⟨gb760, 2, none⟩ = some (.string a2_2)) (ds := []) #[false, false, false, false, false, false, false, false, false, false, false, false] (by kernel_rfl) rfl rfl ⟨(blk_cell BK758.out 0).trans rfl, (blk_cell BK758.out 1).trans rfl, (blk_cell BK758.out 2).trans rfl, (blk_cell BK759.out 0).trans rfl, (blk_cell BK759.out 1).trans rfl, (blk_cell BK759.out 2).trans rfl, (blk_cell BK760.out 0).trans rfl, (blk_cell BK760.out 1).trans rfl, (blk_cell BK760.out 2).trans rfl⟩ (fun hHeld => ?_); refine with_tabW newellaw09_CoordOrder.tab3 newellaw09_CoordOrder.bits3 (fun HT_ HW_ => ?_)
  generalize wc.drew = w31 at BK758 BK759 BK760 HB hHeld ⊢
  refine tm 0 (some 28) HT_ HW_ hHeld ?_
  refine tm 1 (some 29) HT_ HW_ hHeld ?_
  refine tm 3 (some 31) HT_ HW_ hHeld ?_
  refine tm 4 (some 32) HT_ HW_ hHeld ?_
  refine tm 6 (some 34) HT_ HW_ hHeld ?_
  refine tm 7 (some 35) HT_ HW_ hHeld ?_
  refine on 2 (some 30) HT_ (fun K hK => ?_)
  refine goes_ Tryd.func41 (by kernel_rfl) rfl #[.agg #[.string a0_0, .string a0_1, .string a0_2], .agg #[.string a1_0, .string a1_1, .string a1_2]] (by rfl) rfl rfl mA ?_
  with_reducible refine (coord_Less.calls kj3 a0_0 a0_1 a0_2 a1_0 a1_1 a1_2 t762 _ (gS HG) A27.out).mono ?_
  rintro e w32 ⟨rfl, hb⟩
  refine ⟨_, rfl, ?_⟩
  replace BK758 := kB BK758 hb
  replace BK759 := kB BK759 hb
  replace BK760 := kB BK760 hb
  replace HB := sB hb
  (try clear hb)
  refine hK.out _ _ ⟨(blk_cell BK758.out 0).trans rfl, (blk_cell BK758.out 1).trans rfl, (blk_cell BK758.out 2).trans rfl, (blk_cell BK759.out 0).trans rfl, (blk_cell BK759.out 1).trans rfl, (blk_cell BK759.out 2).trans rfl, (blk_cell BK760.out 0).trans rfl, (blk_cell BK760.out 1).trans rfl, (blk_cell BK760.out 2).trans rfl⟩ (fun hHeld => ?_)
  clear hK K
  refine nz (some 30) ?_
  refine on 5 (some 33) HT_ (fun K hK => ?_)
  refine goes_ Tryd.func41 (by kernel_rfl) rfl #[.agg #[.string a1_0, .string a1_1, .string a1_2], .agg #[.string a2_0, .string a2_1, .string a2_2]] (by rfl) rfl rfl mA ?_
  with_reducible refine (coord_Less.calls kj3 a1_0 a1_1 a1_2 a2_0 a2_1 a2_2 t763 _ (gS HG) A28.out).mono ?_
  rintro e w33 ⟨rfl, hb⟩
  refine ⟨_, rfl, ?_⟩
  replace BK758 := kB BK758 hb
  replace BK759 := kB BK759 hb
  replace BK760 := kB BK760 hb
  replace HB := sB hb
  (try clear hb)
  refine hK.out _ _ ⟨(blk_cell BK758.out 0).trans rfl, (blk_cell BK758.out 1).trans rfl, (blk_cell BK758.out 2).trans rfl, (blk_cell BK759.out 0).trans rfl, (blk_cell BK759.out 1).trans rfl, (blk_cell BK759.out 2).trans rfl, (blk_cell BK760.out 0).trans rfl, (blk_cell BK760.out 1).trans rfl, (blk_cell BK760.out 2).trans rfl⟩ (fun hHeld => ?_)
  clear hK K
  refine nz (some 33) ?_
  refine on 8 (some 36) HT_ (fun K hK => ?_)
  refine goes_ Tryd.func41 (by kernel_rfl) rfl #[.agg #[.string a0_0, .string a0_1, .string a0_2], .agg #[.string a2_0, .string a2_1, .string a2_2]] (by rfl) rfl rfl mA ?_
  with_reducible refine (coord_Less.calls kj3 a0_0 a0_1 a0_2 a2_0 a2_1 a2_2 t764 _ (gS HG) A29.out).mono ?_
  rintro e w34 ⟨rfl, hb⟩
  refine ⟨_, rfl, ?_⟩
  replace BK758 := kB BK758 hb
  replace BK759 := kB BK759 hb
  replace BK760 := kB BK760 hb
  replace HB := sB hb
  (try clear hb)
  refine hK.out _ _ ⟨(blk_cell BK758.out 0).trans rfl, (blk_cell BK758.out 1).trans rfl, (blk_cell BK758.out 2).trans rfl, (blk_cell BK759.out 0).trans rfl, (blk_cell BK759.out 1).trans rfl, (blk_cell BK759.out 2).trans rfl, (blk_cell BK760.out 0).trans rfl, (blk_cell BK760.out 1).trans rfl, (blk_cell BK760.out 2).trans rfl⟩ (fun hHeld => ?_)
  clear hK K
  refine nz (some 36) ?_
  refine pz 9 (some 7) HT_ ?_
  refine pz 10 (some 8) HT_ ?_
  refine pz 11 (some 9) HT_ ?_
  refine done_ (done_of HT_.out (by kernel_rfl)) ?_
  have hnb35 := NB758_759.out
  have hnc35 := NB759_758.out
  have hnb36 := NB758_760.out
  have hnc36 := NB760_758.out
  obtain ⟨hcz37_0, hcz37_1, hcz37_2, hfz37_0, hfz37_1, hfz37_2⟩ := cells3 BK758
  go_upto_region 6 with (first | ((with_reducible refine gate_dst (N := 10) rfl ?_); (try (refine gate_guard (by rfl) ?_; dsimp only)); refine be 10 #[.string (⟨#[]⟩ : ByteArray), .string (⟨#[]⟩ : ByteArray), .string (⟨#[]⟩ : ByteArray)] 32 ?_; intro gb765 hg w38 hbox hb; have BK765 := Aside0.mk (hbox); have GW765 := gW hg; have GE765 := gW hg; replace HB := sB hb; have NB758_765 := nL BK758 hg; have NB765_758 := nG BK758 hg; replace BK758 := kB BK758 hb; have NB759_765 := nL BK759 hg; have NB765_759 := nG BK759 hg; replace BK759 := kB BK759 hb; have NB760_765 := nL BK760 hg; have NB765_760 := nG BK760 hg; replace BK760 := kB BK760 hb; clear hb hbox hg; have hnb39 := NB765_758.out; have hnc39 := NB758_765.out; have hnb40 := NB765_759.out; have hnc40 := NB759_765.out; have hnb41 := NB765_760.out; have hnc41 := NB760_765.out; have hcz42_0 : w38.cell? ⟨gb765, 0, none⟩ = some (.string (⟨#[]⟩ : ByteArray)) := (blk_cell BK765.out 0).trans rfl; have hcz42_1 : w38.cell? ⟨gb765, 1, none⟩ = some (.string (⟨#[]⟩ : ByteArray)) := (blk_cell BK765.out 1).trans rfl; have hcz42_2 : w38.cell? ⟨gb765, 2, none⟩ = some (.string (⟨#[]⟩ : ByteArray)) := (blk_cell BK765.out 2).trans rfl; have hfz42_0 := blk_frozen BK765.out 0; have hfz42_1 := blk_frozen BK765.out 1; have hfz42_2 := blk_frozen BK765.out 2; have hnb43 := NB759_760.out; have hnc43 := NB760_759.out; have hcz44_0 : w38.cell? ⟨gb759, 0, none⟩ = some (.string a1_0) := (blk_cell BK759.out 0).trans rfl; have hcz44_1 : w38.cell? ⟨gb759, 1, none⟩ = some (.string a1_1) := (blk_cell BK759.out 1).trans rfl; have hcz44_2 : w38.cell? ⟨gb759, 2, none⟩ = some (.string a1_2) := (blk_cell BK759.out 2).trans rfl; have hfz44_0 := blk_frozen BK759.out 0; have hfz44_1 := blk_frozen BK759.out 1; have hfz44_2 := blk_frozen BK759.out 2))
  (try simp only [Act.put, List.setIfInBounds_toArray, List.set_cons_zero, List.set_cons_succ])
  go_cut [6] (fun v6 wc => ∃ (kq : Nat) (x6_29 : Bool), v6 = .bool x6_29 ∧ Aside0 (newellaw09_CoordOrder.j1 kq x6_29 = some r) ∧ Aside0 (kq ≤ kj3) ∧ Aside0 (wc.heap[gb758]? = some (.cells #[.string a0_0, .string a0_1, .string a0_2] 32 (0, 0))) ∧ Aside0 (wc.heap[gb759]? = some (.cells #[.string a1_0, .string a1_1, .string a1_2] 32 (0, 0))) ∧ Aside0 (wc.heap[gb760]? = some (.cells #[.string a2_0, .string a2_1, .string a2_2] 32 (0, 0))) ∧ Aside0 (wc.heap[gb765]? = some (.cells #[.string a0_0, .string a0_1, .string a1_2] 32 (0, 0))) ∧ Aside0 (Below w.heap.size w wc))
  case first =>
   have H := HC30.out
   clear HC30
   replace H := bi H
   obtain ⟨t766, A450, H⟩ := H
   try dsimp only at H
   have A45 := Aside0.mk A450
   clear A450
   by_cases c46 : t766 = true
   rotate_left
   ·replace c46 := Bool.eq_false_iff.mpr c46
    subst c46
    have H1 : (newellaw09_CoordOrder.j1 kj3 false) = some r := by rw [if_neg (show ¬ (false = true) by decide)] at H; exact H
    clear H
    have H := H1
    clear H1
    have H' := Aside0.mk H
    clear H
    go_wp2_with (first | ((with_reducible refine gate_callee (f := 24) rfl ?_); refine gl (some 41) Tryd.func24 #[] ?_; (with_reducible refine (newellaw09_awake.calls kj3  false _ (gS HG) A45.out).mono ?_); rintro e w417 ⟨rfl, hb⟩; refine ⟨_, rfl, ?_⟩; replace BK758 := Aside0.mk (blk_below (g := gb758) (o := .cells #[.string a0_0, .string a0_1, .string a0_2] 32 (0, 0)) (by (with_reducible repeat (first | refine blk_drewN ?_ _ | refine blk_drew ?_ | refine blk_alloc ?_ _)); refine blk_far ?_ NB758_765.out _; (with_reducible repeat (first | refine blk_drewN ?_ _ | refine blk_drew ?_ | refine blk_alloc ?_ _)); refine blk_far ?_ NB758_765.out _; (with_reducible repeat (first | refine blk_drewN ?_ _ | refine blk_drew ?_ | refine blk_alloc ?_ _)); refine blk_far ?_ NB758_765.out _; (with_reducible repeat (first | refine blk_drewN ?_ _ | refine blk_drew ?_ | refine blk_alloc ?_ _)); refine blk_far ?_ NB758_765.out _; (with_reducible repeat (first | refine blk_drewN ?_ _ | refine blk_drew ?_ | refine blk_alloc ?_ _)); exact BK758.out) hb); replace BK759 := Aside0.mk (blk_below (g := gb759) (o := .cells #[.string a1_0, .string a1_1, .string a1_2] 32 (0, 0)) (by (with_reducible repeat (first | refine blk_drewN ?_ _ | refine blk_drew ?_ | refine blk_alloc ?_ _)); refine blk_far ?_ NB759_765.out _; (with_reducible repeat (first | refine blk_drewN ?_ _ | refine blk_drew ?_ | refine blk_alloc ?_ _)); refine blk_far ?_ NB759_765.out _; (with_reducible repeat (first | refine blk_drewN ?_ _ | refine blk_drew ?_ | refine blk_alloc ?_ _)); refine blk_far ?_ NB759_765.out _; (with_reducible repeat (first | refine blk_drewN ?_ _ | refine blk_drew ?_ | refine blk_alloc ?_ _)); refine blk_far ?_ NB759_765.out _; (with_reducible repeat (first | refine blk_drewN ?_ _ | refine blk_drew ?_ | refine blk_alloc ?_ _)); exact BK759.out) hb); replace BK760 := Aside0.mk (blk_below (g := gb760) (o := .cells #[.string a2_0, .string a2_1, .string a2_2] 32 (0, 0)) (by (with_reducible repeat (first | refine blk_drewN ?_ _ | refine blk_drew ?_ | refine blk_alloc ?_ _)); refine blk_far ?_ NB760_765.out _; (with_reducible repeat (first | refine blk_drewN ?_ _ | refine blk_drew ?_ | refine blk_alloc ?_ _)); refine blk_far ?_ NB760_765.out _; (with_reducible repeat (first | refine blk_drewN ?_ _ | refine blk_drew ?_ | refine blk_alloc ?_ _)); refine blk_far ?_ NB760_765.out _; (with_reducible repeat (first | refine blk_drewN ?_ _ | refine blk_drew ?_ | refine blk_alloc ?_ _)); refine blk_far ?_ NB760_765.out _; (with_reducible repeat (first | refine blk_drewN ?_ _ | refine blk_drew ?_ | refine blk_alloc ?_ _)); exact BK760.out) hb); replace BK765 := Aside0.mk (blk_below (g := gb765) (o := .cells #[.string a0_0, .string a0_1, .string a1_2] 32 (0, 0)) (bP BK765) hb); replace HB := sB hb; (try clear hb)))
    go_meet
    case rel => exact ⟨_, (false), cA, H', ⟨by have := HJ3.out; first | omega | exact Nat.le_refl _⟩, ⟨bK BK758⟩, ⟨bK BK759⟩, ⟨bK BK760⟩, ⟨bK BK765⟩, ⟨bG⟩⟩
   subst c46
   have H1 : (if t762 = true then (if t763 = true then (if t764 = true then ((coord_Less.f kj3 a0_0 a0_1 a0_2 a0_0 a0_1 a0_2).bind fun t767 => (if t767 = true then (newellaw09_CoordOrder.j1 kj3 false) else (if a0_0.toList = a1_0.toList then ((coord_Less.f kj3 a0_0 a0_1 a0_2 a0_0 a0_1 a1_2).bind fun t768 => (if t768 = true then (newellaw09_CoordOrder.j1 kj3 true) else ((coord_Less.f kj3 a0_0 a0_1 a1_2 a0_0 a0_1 a0_2).bind fun t769 => (if t769 = true then (newellaw09_CoordOrder.j1 kj3 true) else (newellaw09_CoordOrder.j1 kj3 (a0_2.toList == a1_2.toList)))))) else (if (t762 == (Op.bytesLess a0_0.toList a1_0.toList)) = true then ((coord_Less.f kj3 a0_0 a0_1 a0_2 a0_0 a0_1 a1_2).bind fun t770 => (if t770 = true then (newellaw09_CoordOrder.j1 kj3 true) else ((coord_Less.f kj3 a0_0 a0_1 a1_2 a0_0 a0_1 a0_2).bind fun t771 => (if t771 = true then (newellaw09_CoordOrder.j1 kj3 true) else (newellaw09_CoordOrder.j1 kj3 (a0_2.toList == a1_2.toList)))))) else (newellaw09_CoordOrder.j1 kj3 false))))) else (newellaw09_CoordOrder.j1 kj3 false)) else ((coord_Less.f kj3 a0_0 a0_1 a0_2 a0_0 a0_1 a0_2).bind fun t772 => (if t772 = true then (newellaw09_CoordOrder.j1 kj3 false) else (if a0_0.toList = a1_0.toList then ((coord_Less.f kj3 a0_0 a0_1 a0_2 a0_0 a0_1 a1_2).bind fun t773 => (if t773 = true then (newellaw09_CoordOrder.j1 kj3 true) else ((coord_Less.f kj3 a0_0 a0_1 a1_2 a0_0 a0_1 a0_2).bind fun t774 => (if t774 = true then (newellaw09_CoordOrder.j1 kj3 true) else (newellaw09_CoordOrder.j1 kj3 (a0_2.toList == a1_2.toList)))))) else (if (t762 == (Op.bytesLess a0_0.toList a1_0.toList)) = true then ((coord_Less.f kj3 a0_0 a0_1 a0_2 a0_0 a0_1 a1_2).bind fun t775 => (if t775 = true then (newellaw09_CoordOrder.j1 kj3 true) else ((coord_Less.f kj3 a0_0 a0_1 a1_2 a0_0 a0_1 a0_2).bind fun t776 => (if t776 = true then (newellaw09_CoordOrder.j1 kj3 true) else (newellaw09_CoordOrder.j1 kj3 (a0_2.toList == a1_2.toList)))))) else (newellaw09_CoordOrder.j1 kj3 false)))))) else ((coord_Less.f kj3 a0_0 a0_1 a0_2 a0_0 a0_1 a0_2).bind fun t777 => (if t777 = true then (newellaw09_CoordOrder.j1 kj3 false) else (if a0_0.toList = a1_0.toList then ((coord_Less.f kj3 a0_0 a0_1 a0_2 a0_0 a0_1 a1_2).bind fun t778 => (if t778 = true then (newellaw09_CoordOrder.j1 kj3 true) else ((coord_Less.f kj3 a0_0 a0_1 a1_2 a0_0 a0_1 a0_2).bind fun t779 => (if t779 = true then (newellaw09_CoordOrder.j1 kj3 true) else (newellaw09_CoordOrder.j1 kj3 (a0_2.toList == a1_2.toList)))))) else (if (t762 == (Op.bytesLess a0_0.toList a1_0.toList)) = true then ((coord_Less.f kj3 a0_0 a0_1 a0_2 a0_0 a0_1 a1_2).bind fun t780 => (if t780 = true then (newellaw09_CoordOrder.j1 kj3 true) else ((coord_Less.f kj3 a0_0 a0_1 a1_2 a0_0 a0_1 a0_2).bind fun t781 => (if t781 = true then (newellaw09_CoordOrder.j1 kj3 true) else (newellaw09_CoordOrder.j1 kj3 (a0_2.toList == a1_2.toList)))))) else (newellaw09_CoordOrder.j1 kj3 false)))))) = some r := by rw [if_pos rfl] at H; exact H
   clear H
   have H := H1
   clear H1
   by_cases c47 : t762 = true
   rotate_left
   ·replace c47 := Bool.eq_false_iff.mpr c47
    subst c47
    have H1 : ((coord_Less.f kj3 a0_0 a0_1 a0_2 a0_0 a0_1 a0_2).bind fun t777 => (if t777 = true then (newellaw09_CoordOrder.j1 kj3 false) else (if a0_0.toList = a1_0.toList then ((coord_Less.f kj3 a0_0 a0_1 a0_2 a0_0 a0_1 a1_2).bind fun t778 => (if t778 = true then (newellaw09_CoordOrder.j1 kj3 true) else ((coord_Less.f kj3 a0_0 a0_1 a1_2 a0_0 a0_1 a0_2).bind fun t779 => (if t779 = true then (newellaw09_CoordOrder.j1 kj3 true) else (newellaw09_CoordOrder.j1 kj3 (a0_2.toList == a1_2.toList)))))) else (if (false == (Op.bytesLess a0_0.toList a1_0.toList)) = true then ((coord_Less.f kj3 a0_0 a0_1 a0_2 a0_0 a0_1 a1_2).bind fun t780 => (if t780 = true then (newellaw09_CoordOrder.j1 kj3 true) else ((coord_Less.f kj3 a0_0 a0_1 a1_2 a0_0 a0_1 a0_2).bind fun t781 => (if t781 = true then (newellaw09_CoordOrder.j1 kj3 true) else (newellaw09_CoordOrder.j1 kj3 (a0_2.toList == a1_2.toList)))))) else (newellaw09_CoordOrder.j1 kj3 false))))) = some r := by rw [if_neg (show ¬ (false = true) by decide)] at H; exact H
    clear H
    have H := H1
    clear H1
    replace H := bi H
    obtain ⟨t777, A2950, H⟩ := H
    try dsimp only at H
    have A295 := Aside0.mk A2950
    clear A2950
    by_cases c296 : t777 = true
    ·subst c296
     have H1 : (newellaw09_CoordOrder.j1 kj3 false) = some r := by rw [if_pos rfl] at H; exact H
     clear H
     have H := H1
     clear H1
     have H' := Aside0.mk H
     clear H
     go_wp2_with (first | ((with_reducible refine gate_callee (f := 24) rfl ?_); refine gl (some 41) Tryd.func24 #[] ?_; (with_reducible refine (newellaw09_awake.calls kj3  true _ (gS HG) A45.out).mono ?_); rintro e w297 ⟨rfl, hb⟩; refine ⟨_, rfl, ?_⟩; replace BK758 := Aside0.mk (blk_below (g := gb758) (o := .cells #[.string a0_0, .string a0_1, .string a0_2] 32 (0, 0)) (by (with_reducible repeat (first | refine blk_drewN ?_ _ | refine blk_drew ?_ | refine blk_alloc ?_ _)); refine blk_far ?_ NB758_765.out _; (with_reducible repeat (first | refine blk_drewN ?_ _ | refine blk_drew ?_ | refine blk_alloc ?_ _)); refine blk_far ?_ NB758_765.out _; (with_reducible repeat (first | refine blk_drewN ?_ _ | refine blk_drew ?_ | refine blk_alloc ?_ _)); refine blk_far ?_ NB758_765.out _; (with_reducible repeat (first | refine blk_drewN ?_ _ | refine blk_drew ?_ | refine blk_alloc ?_ _)); refine blk_far ?_ NB758_765.out _; (with_reducible repeat (first | refine blk_drewN ?_ _ | refine blk_drew ?_ | refine blk_alloc ?_ _)); exact BK758.out) hb); replace BK759 := Aside0.mk (blk_below (g := gb759) (o := .cells #[.string a1_0, .string a1_1, .string a1_2] 32 (0, 0)) (by (with_reducible repeat (first | refine blk_drewN ?_ _ | refine blk_drew ?_ | refine blk_alloc ?_ _)); refine blk_far ?_ NB759_765.out _; (with_reducible repeat (first | refine blk_drewN ?_ _ | refine blk_drew ?_ | refine blk_alloc ?_ _)); refine blk_far ?_ NB759_765.out _; (with_reducible repeat (first | refine blk_drewN ?_ _ | refine blk_drew ?_ | refine blk_alloc ?_ _)); refine blk_far ?_ NB759_765.out _; (with_reducible repeat (first | refine blk_drewN ?_ _ | refine blk_drew ?_ | refine blk_alloc ?_ _)); refine blk_far ?_ NB759_765.out _; (with_reducible repeat (first | refine blk_drewN ?_ _ | refine blk_drew ?_ | refine blk_alloc ?_ _)); exact BK759.out) hb); replace BK760 := Aside0.mk (blk_below (g := gb760) (o := .cells #[.string a2_0, .string a2_1, .string a2_2] 32 (0, 0)) (by (with_reducible repeat (first | refine blk_drewN ?_ _ | refine blk_drew ?_ | refine blk_alloc ?_ _)); refine blk_far ?_ NB760_765.out _; (with_reducible repeat (first | refine blk_drewN ?_ _ | refine blk_drew ?_ | refine blk_alloc ?_ _)); refine blk_far ?_ NB760_765.out _; (with_reducible repeat (first | refine blk_drewN ?_ _ | refine blk_drew ?_ | refine blk_alloc ?_ _)); refine blk_far ?_ NB760_765.out _; (with_reducible repeat (first | refine blk_drewN ?_ _ | refine blk_drew ?_ | refine blk_alloc ?_ _)); refine blk_far ?_ NB760_765.out _; (with_reducible repeat (first | refine blk_drewN ?_ _ | refine blk_drew ?_ | refine blk_alloc ?_ _)); exact BK760.out) hb); replace BK765 := Aside0.mk (blk_below (g := gb765) (o := .cells #[.string a0_0, .string a0_1, .string a1_2] 32 (0, 0)) (bP BK765) hb); replace HB := sB hb; (try clear hb); have hnb298 := NB758_759.out; have hnc298 := NB759_758.out; have hnb299 := NB758_760.out; have hnc299 := NB760_758.out; have hnb300 := NB758_765.out; have hnc300 := NB765_758.out; have hcz301_0 : w297.cell? ⟨gb758, 0, none⟩ = some (.string a0_0) := (blk_cell BK758.out 0).trans rfl; have hcz301_1 : w297.cell? ⟨gb758, 1, none⟩ = some (.string a0_1) := (blk_cell BK758.out 1).trans rfl; have hcz301_2 : w297.cell? ⟨gb758, 2, none⟩ = some (.string a0_2) := (blk_cell BK758.out 2).trans rfl; have hfz301_0 := blk_frozen BK758.out 0; have hfz301_1 := blk_frozen BK758.out 1; have hfz301_2 := blk_frozen BK758.out 2) | (go_at_call 41; (with_reducible refine (coord_Less.calls kj3 a0_0 a0_1 a0_2 a0_0 a0_1 a0_2 true _ (gS HG) A295.out).mono ?_); rintro e w302 ⟨rfl, hb⟩; replace BK758 := kB BK758 hb; replace BK759 := kB BK759 hb; replace BK760 := kB BK760 hb; replace BK765 := kB BK765 hb; replace HB := sB hb; (try clear hb)))
     go_meet
     case rel => exact ⟨_, (false), cA, H', ⟨by have := HJ3.out; first | omega | exact Nat.le_refl _⟩, ⟨bK BK758⟩, ⟨bK BK759⟩, ⟨bK BK760⟩, ⟨bK BK765⟩, ⟨bG⟩⟩
    replace c296 := Bool.eq_false_iff.mpr c296
    subst c296
    have H1 : (if a0_0.toList = a1_0.toList then ((coord_Less.f kj3 a0_0 a0_1 a0_2 a0_0 a0_1 a1_2).bind fun t778 => (if t778 = true then (newellaw09_CoordOrder.j1 kj3 true) else ((coord_Less.f kj3 a0_0 a0_1 a1_2 a0_0 a0_1 a0_2).bind fun t779 => (if t779 = true then (newellaw09_CoordOrder.j1 kj3 true) else (newellaw09_CoordOrder.j1 kj3 (a0_2.toList == a1_2.toList)))))) else (if (false == (Op.bytesLess a0_0.toList a1_0.toList)) = true then ((coord_Less.f kj3 a0_0 a0_1 a0_2 a0_0 a0_1 a1_2).bind fun t780 => (if t780 = true then (newellaw09_CoordOrder.j1 kj3 true) else ((coord_Less.f kj3 a0_0 a0_1 a1_2 a0_0 a0_1 a0_2).bind fun t781 => (if t781 = true then (newellaw09_CoordOrder.j1 kj3 true) else (newellaw09_CoordOrder.j1 kj3 (a0_2.toList == a1_2.toList)))))) else (newellaw09_CoordOrder.j1 kj3 false))) = some r := by rw [if_neg (show ¬ (false = true) by decide)] at H; exact H
    clear H
    have H := H1
    clear H1
    by_cases c303 : a0_0.toList = a1_0.toList
    ·rw [if_pos c303] at H
     obtain ⟨c303b0, c303b1⟩ := eqT c303
     clear c303
     replace H := bi H
     obtain ⟨t778, A3040, H⟩ := H
     try dsimp only at H
     have A304 := Aside0.mk A3040
     clear A3040
     by_cases c305 : t778 = true
     ·subst c305
      have H1 : (newellaw09_CoordOrder.j1 kj3 true) = some r := by rw [if_pos rfl] at H; exact H
      clear H
      have H := H1
      clear H1
      have H' := Aside0.mk H
      clear H
      go_wp2_with (first | ((with_reducible refine gate_callee (f := 24) rfl ?_); refine gl (some 41) Tryd.func24 #[] ?_; (with_reducible refine (newellaw09_awake.calls kj3  true _ (gS HG) A45.out).mono ?_); rintro e w306 ⟨rfl, hb⟩; refine ⟨_, rfl, ?_⟩; replace BK758 := Aside0.mk (blk_below (g := gb758) (o := .cells #[.string a0_0, .string a0_1, .string a0_2] 32 (0, 0)) (by (with_reducible repeat (first | refine blk_drewN ?_ _ | refine blk_drew ?_ | refine blk_alloc ?_ _)); refine blk_far ?_ NB758_765.out _; (with_reducible repeat (first | refine blk_drewN ?_ _ | refine blk_drew ?_ | refine blk_alloc ?_ _)); refine blk_far ?_ NB758_765.out _; (with_reducible repeat (first | refine blk_drewN ?_ _ | refine blk_drew ?_ | refine blk_alloc ?_ _)); refine blk_far ?_ NB758_765.out _; (with_reducible repeat (first | refine blk_drewN ?_ _ | refine blk_drew ?_ | refine blk_alloc ?_ _)); refine blk_far ?_ NB758_765.out _; (with_reducible repeat (first | refine blk_drewN ?_ _ | refine blk_drew ?_ | refine blk_alloc ?_ _)); exact BK758.out) hb); replace BK759 := Aside0.mk (blk_below (g := gb759) (o := .cells #[.string a1_0, .string a1_1, .string a1_2] 32 (0, 0)) (by (with_reducible repeat (first | refine blk_drewN ?_ _ | refine blk_drew ?_ | refine blk_alloc ?_ _)); refine blk_far ?_ NB759_765.out _; (with_reducible repeat (first | refine blk_drewN ?_ _ | refine blk_drew ?_ | refine blk_alloc ?_ _)); refine blk_far ?_ NB759_765.out _; (with_reducible repeat (first | refine blk_drewN ?_ _ | refine blk_drew ?_ | refine blk_alloc ?_ _)); refine blk_far ?_ NB759_765.out _; (with_reducible repeat (first | refine blk_drewN ?_ _ | refine blk_drew ?_ | refine blk_alloc ?_ _)); refine blk_far ?_ NB759_765.out _; (with_reducible repeat (first | refine blk_drewN ?_ _ | refine blk_drew ?_ | refine blk_alloc ?_ _)); exact BK759.out) hb); replace BK760 := Aside0.mk (blk_below (g := gb760) (o := .cells #[.string a2_0, .string a2_1, .string a2_2] 32 (0, 0)) (by (with_reducible repeat (first | refine blk_drewN ?_ _ | refine blk_drew ?_ | refine blk_alloc ?_ _)); refine blk_far ?_ NB760_765.out _; (with_reducible repeat (first | refine blk_drewN ?_ _ | refine blk_drew ?_ | refine blk_alloc ?_ _)); refine blk_far ?_ NB760_765.out _; (with_reducible repeat (first | refine blk_drewN ?_ _ | refine blk_drew ?_ | refine blk_alloc ?_ _)); refine blk_far ?_ NB760_765.out _; (with_reducible repeat (first | refine blk_drewN ?_ _ | refine blk_drew ?_ | refine blk_alloc ?_ _)); refine blk_far ?_ NB760_765.out _; (with_reducible repeat (first | refine blk_drewN ?_ _ | refine blk_drew ?_ | refine blk_alloc ?_ _)); exact BK760.out) hb); replace BK765 := Aside0.mk (blk_below (g := gb765) (o := .cells #[.string a0_0, .string a0_1, .string a1_2] 32 (0, 0)) (bP BK765) hb); replace HB := sB hb; (try clear hb); have hnb307 := NB758_759.out; have hnc307 := NB759_758.out; have hnb308 := NB758_760.out; have hnc308 := NB760_758.out; have hnb309 := NB758_765.out; have hnc309 := NB765_758.out; have hcz310_0 : w306.cell? ⟨gb758, 0, none⟩ = some (.string a0_0) := (blk_cell BK758.out 0).trans rfl; have hcz310_1 : w306.cell? ⟨gb758, 1, none⟩ = some (.string a0_1) := (blk_cell BK758.out 1).trans rfl; have hcz310_2 : w306.cell? ⟨gb758, 2, none⟩ = some (.string a0_2) := (blk_cell BK758.out 2).trans rfl; have hfz310_0 := blk_frozen BK758.out 0; have hfz310_1 := blk_frozen BK758.out 1; have hfz310_2 := blk_frozen BK758.out 2) | (go_at_call 41; (with_reducible refine (coord_Less.calls kj3 a0_0 a0_1 a0_2 a0_0 a0_1 a0_2 false _ (gS HG) A295.out).mono ?_); rintro e w311 ⟨rfl, hb⟩; replace BK758 := kB BK758 hb; replace BK759 := kB BK759 hb; replace BK760 := kB BK760 hb; replace BK765 := kB BK765 hb; replace HB := sB hb; (try clear hb); have hcz312_0 : w311.cell? ⟨gb758, 0, none⟩ = some (.string a0_0) := (blk_cell BK758.out 0).trans rfl; have hcz312_1 : w311.cell? ⟨gb758, 1, none⟩ = some (.string a0_1) := (blk_cell BK758.out 1).trans rfl; have hcz312_2 : w311.cell? ⟨gb758, 2, none⟩ = some (.string a0_2) := (blk_cell BK758.out 2).trans rfl; have hfz312_0 := blk_frozen BK758.out 0; have hfz312_1 := blk_frozen BK758.out 1; have hfz312_2 := blk_frozen BK758.out 2; have hnb313 := NB759_760.out; have hnc313 := NB760_759.out; have hnb314 := NB759_765.out; have hnc314 := NB765_759.out; have hcz315_0 : w311.cell? ⟨gb759, 0, none⟩ = some (.string a1_0) := (blk_cell BK759.out 0).trans rfl; have hcz315_1 : w311.cell? ⟨gb759, 1, none⟩ = some (.string a1_1) := (blk_cell BK759.out 1).trans rfl; have hcz315_2 : w311.cell? ⟨gb759, 2, none⟩ = some (.string a1_2) := (blk_cell BK759.out 2).trans rfl; have hfz315_0 := blk_frozen BK759.out 0; have hfz315_1 := blk_frozen BK759.out 1; have hfz315_2 := blk_frozen BK759.out 2; have hnb316 := NB765_760.out; have hnc316 := NB760_765.out; have hcz317_0 : w311.cell? ⟨gb765, 0, none⟩ = some (.string a0_0) := (blk_cell BK765.out 0).trans rfl; have hcz317_1 : w311.cell? ⟨gb765, 1, none⟩ = some (.string a0_1) := (blk_cell BK765.out 1).trans rfl; have hcz317_2 : w311.cell? ⟨gb765, 2, none⟩ = some (.string a1_2) := (blk_cell BK765.out 2).trans rfl; have hfz317_0 := blk_frozen BK765.out 0; have hfz317_1 := blk_frozen BK765.out 1; have hfz317_2 := blk_frozen BK765.out 2) | (go_at_call 41; (with_reducible refine (coord_Less.calls kj3 a0_0 a0_1 a0_2 a0_0 a0_1 a1_2 true _ (gS HG) A304.out).mono ?_); rintro e w318 ⟨rfl, hb⟩; replace BK758 := kB BK758 hb; replace BK759 := kB BK759 hb; replace BK760 := kB BK760 hb; replace BK765 := kB BK765 hb; replace HB := sB hb; (try clear hb)))
      go_meet
      case rel => exact ⟨_, (true), cA, H', ⟨by have := HJ3.out; first | omega | exact Nat.le_refl _⟩, ⟨bK BK758⟩, ⟨bK BK759⟩, ⟨bK BK760⟩, ⟨bK BK765⟩, ⟨bG⟩⟩
     replace c305 := Bool.eq_false_iff.mpr c305
     subst c305
     have H1 : ((coord_Less.f kj3 a0_0 a0_1 a1_2 a0_0 a0_1 a0_2).bind fun t779 => (if t779 = true then (newellaw09_CoordOrder.j1 kj3 true) else (newellaw09_CoordOrder.j1 kj3 (a0_2.toList == a1_2.toList)))) = some r := by rw [if_neg (show ¬ (false = true) by decide)] at H; exact H
     clear H
     have H := H1
     clear H1
     replace H := bi H
     obtain ⟨t779, A3190, H⟩ := H
     try dsimp only at H
     have A319 := Aside0.mk A3190
     clear A3190
     by_cases c320 : t779 = true
     ·subst c320
      have H1 : (newellaw09_CoordOrder.j1 kj3 true) = some r := by rw [if_pos rfl] at H; exact H
      clear H
      have H := H1
      clear H1
      have H' := Aside0.mk H
      clear H
      go_wp2_with (first | ((with_reducible refine gate_callee (f := 24) rfl ?_); refine gl (some 41) Tryd.func24 #[] ?_; (with_reducible refine (newellaw09_awake.calls kj3  true _ (gS HG) A45.out).mono ?_); rintro e w321 ⟨rfl, hb⟩; refine ⟨_, rfl, ?_⟩; replace BK758 := Aside0.mk (blk_below (g := gb758) (o := .cells #[.string a0_0, .string a0_1, .string a0_2] 32 (0, 0)) (by (with_reducible repeat (first | refine blk_drewN ?_ _ | refine blk_drew ?_ | refine blk_alloc ?_ _)); refine blk_far ?_ NB758_765.out _; (with_reducible repeat (first | refine blk_drewN ?_ _ | refine blk_drew ?_ | refine blk_alloc ?_ _)); refine blk_far ?_ NB758_765.out _; (with_reducible repeat (first | refine blk_drewN ?_ _ | refine blk_drew ?_ | refine blk_alloc ?_ _)); refine blk_far ?_ NB758_765.out _; (with_reducible repeat (first | refine blk_drewN ?_ _ | refine blk_drew ?_ | refine blk_alloc ?_ _)); refine blk_far ?_ NB758_765.out _; (with_reducible repeat (first | refine blk_drewN ?_ _ | refine blk_drew ?_ | refine blk_alloc ?_ _)); exact BK758.out) hb); replace BK759 := Aside0.mk (blk_below (g := gb759) (o := .cells #[.string a1_0, .string a1_1, .string a1_2] 32 (0, 0)) (by (with_reducible repeat (first | refine blk_drewN ?_ _ | refine blk_drew ?_ | refine blk_alloc ?_ _)); refine blk_far ?_ NB759_765.out _; (with_reducible repeat (first | refine blk_drewN ?_ _ | refine blk_drew ?_ | refine blk_alloc ?_ _)); refine blk_far ?_ NB759_765.out _; (with_reducible repeat (first | refine blk_drewN ?_ _ | refine blk_drew ?_ | refine blk_alloc ?_ _)); refine blk_far ?_ NB759_765.out _; (with_reducible repeat (first | refine blk_drewN ?_ _ | refine blk_drew ?_ | refine blk_alloc ?_ _)); refine blk_far ?_ NB759_765.out _; (with_reducible repeat (first | refine blk_drewN ?_ _ | refine blk_drew ?_ | refine blk_alloc ?_ _)); exact BK759.out) hb); replace BK760 := Aside0.mk (blk_below (g := gb760) (o := .cells #[.string a2_0, .string a2_1, .string a2_2] 32 (0, 0)) (by (with_reducible repeat (first | refine blk_drewN ?_ _ | refine blk_drew ?_ | refine blk_alloc ?_ _)); refine blk_far ?_ NB760_765.out _; (with_reducible repeat (first | refine blk_drewN ?_ _ | refine blk_drew ?_ | refine blk_alloc ?_ _)); refine blk_far ?_ NB760_765.out _; (with_reducible repeat (first | refine blk_drewN ?_ _ | refine blk_drew ?_ | refine blk_alloc ?_ _)); refine blk_far ?_ NB760_765.out _; (with_reducible repeat (first | refine blk_drewN ?_ _ | refine blk_drew ?_ | refine blk_alloc ?_ _)); refine blk_far ?_ NB760_765.out _; (with_reducible repeat (first | refine blk_drewN ?_ _ | refine blk_drew ?_ | refine blk_alloc ?_ _)); exact BK760.out) hb); replace BK765 := Aside0.mk (blk_below (g := gb765) (o := .cells #[.string a0_0, .string a0_1, .string a1_2] 32 (0, 0)) (bP BK765) hb); replace HB := sB hb; (try clear hb); have hnb322 := NB758_759.out; have hnc322 := NB759_758.out; have hnb323 := NB758_760.out; have hnc323 := NB760_758.out; have hnb324 := NB758_765.out; have hnc324 := NB765_758.out; have hcz325_0 : w321.cell? ⟨gb758, 0, none⟩ = some (.string a0_0) := (blk_cell BK758.out 0).trans rfl; have hcz325_1 : w321.cell? ⟨gb758, 1, none⟩ = some (.string a0_1) := (blk_cell BK758.out 1).trans rfl; have hcz325_2 : w321.cell? ⟨gb758, 2, none⟩ = some (.string a0_2) := (blk_cell BK758.out 2).trans rfl; have hfz325_0 := blk_frozen BK758.out 0; have hfz325_1 := blk_frozen BK758.out 1; have hfz325_2 := blk_frozen BK758.out 2) | (go_at_call 41; (with_reducible refine (coord_Less.calls kj3 a0_0 a0_1 a0_2 a0_0 a0_1 a0_2 false _ (gS HG) A295.out).mono ?_); rintro e w326 ⟨rfl, hb⟩; replace BK758 := kB BK758 hb; replace BK759 := kB BK759 hb; replace BK760 := kB BK760 hb; replace BK765 := kB BK765 hb; replace HB := sB hb; (try clear hb); have hcz327_0 : w326.cell? ⟨gb758, 0, none⟩ = some (.string a0_0) := (blk_cell BK758.out 0).trans rfl; have hcz327_1 : w326.cell? ⟨gb758, 1, none⟩ = some (.string a0_1) := (blk_cell BK758.out 1).trans rfl; have hcz327_2 : w326.cell? ⟨gb758, 2, none⟩ = some (.string a0_2) := (blk_cell BK758.out 2).trans rfl; have hfz327_0 := blk_frozen BK758.out 0; have hfz327_1 := blk_frozen BK758.out 1; have hfz327_2 := blk_frozen BK758.out 2; have hnb328 := NB759_760.out; have hnc328 := NB760_759.out; have hnb329 := NB759_765.out; have hnc329 := NB765_759.out; have hcz330_0 : w326.cell? ⟨gb759, 0, none⟩ = some (.string a1_0) := (blk_cell BK759.out 0).trans rfl; have hcz330_1 : w326.cell? ⟨gb759, 1, none⟩ = some (.string a1_1) := (blk_cell BK759.out 1).trans rfl; have hcz330_2 : w326.cell? ⟨gb759, 2, none⟩ = some (.string a1_2) := (blk_cell BK759.out 2).trans rfl; have hfz330_0 := blk_frozen BK759.out 0; have hfz330_1 := blk_frozen BK759.out 1; have hfz330_2 := blk_frozen BK759.out 2; have hnb331 := NB765_760.out; have hnc331 := NB760_765.out; have hcz332_0 : w326.cell? ⟨gb765, 0, none⟩ = some (.string a0_0) := (blk_cell BK765.out 0).trans rfl; have hcz332_1 : w326.cell? ⟨gb765, 1, none⟩ = some (.string a0_1) := (blk_cell BK765.out 1).trans rfl; have hcz332_2 : w326.cell? ⟨gb765, 2, none⟩ = some (.string a1_2) := (blk_cell BK765.out 2).trans rfl; have hfz332_0 := blk_frozen BK765.out 0; have hfz332_1 := blk_frozen BK765.out 1; have hfz332_2 := blk_frozen BK765.out 2) | (go_at_call 41; (with_reducible refine (coord_Less.calls kj3 a0_0 a0_1 a0_2 a0_0 a0_1 a1_2 false _ (gS HG) A304.out).mono ?_); rintro e w333 ⟨rfl, hb⟩; replace BK758 := kB BK758 hb; replace BK759 := kB BK759 hb; replace BK760 := kB BK760 hb; replace BK765 := kB BK765 hb; replace HB := sB hb; (try clear hb); have hcz334_0 : w333.cell? ⟨gb765, 0, none⟩ = some (.string a0_0) := (blk_cell BK765.out 0).trans rfl; have hcz334_1 : w333.cell? ⟨gb765, 1, none⟩ = some (.string a0_1) := (blk_cell BK765.out 1).trans rfl; have hcz334_2 : w333.cell? ⟨gb765, 2, none⟩ = some (.string a1_2) := (blk_cell BK765.out 2).trans rfl; have hfz334_0 := blk_frozen BK765.out 0; have hfz334_1 := blk_frozen BK765.out 1; have hfz334_2 := blk_frozen BK765.out 2; have hcz335_0 : w333.cell? ⟨gb758, 0, none⟩ = some (.string a0_0) := (blk_cell BK758.out 0).trans rfl; have hcz335_1 : w333.cell? ⟨gb758, 1, none⟩ = some (.string a0_1) := (blk_cell BK758.out 1).trans rfl; have hcz335_2 : w333.cell? ⟨gb758, 2, none⟩ = some (.string a0_2) := (blk_cell BK758.out 2).trans rfl; have hfz335_0 := blk_frozen BK758.out 0; have hfz335_1 := blk_frozen BK758.out 1; have hfz335_2 := blk_frozen BK758.out 2) | (go_at_call 41; (with_reducible refine (coord_Less.calls kj3 a0_0 a0_1 a1_2 a0_0 a0_1 a0_2 true _ (gS HG) A319.out).mono ?_); rintro e w336 ⟨rfl, hb⟩; replace BK758 := kB BK758 hb; replace BK759 := kB BK759 hb; replace BK760 := kB BK760 hb; replace BK765 := kB BK765 hb; replace HB := sB hb; (try clear hb)))
      go_meet
      case rel => exact ⟨_, (true), cA, H', ⟨by have := HJ3.out; first | omega | exact Nat.le_refl _⟩, ⟨bK BK758⟩, ⟨bK BK759⟩, ⟨bK BK760⟩, ⟨bK BK765⟩, ⟨bG⟩⟩
     replace c320 := Bool.eq_false_iff.mpr c320
     subst c320
     have H1 : (newellaw09_CoordOrder.j1 kj3 (a0_2.toList == a1_2.toList)) = some r := by rw [if_neg (show ¬ (false = true) by decide)] at H; exact H
     clear H
     have H := H1
     clear H1
     have H' := Aside0.mk H
     clear H
     go_wp2_with (first | ((with_reducible refine gate_callee (f := 24) rfl ?_); refine gl (some 41) Tryd.func24 #[] ?_; (with_reducible refine (newellaw09_awake.calls kj3  true _ (gS HG) A45.out).mono ?_); rintro e w337 ⟨rfl, hb⟩; refine ⟨_, rfl, ?_⟩; replace BK758 := Aside0.mk (blk_below (g := gb758) (o := .cells #[.string a0_0, .string a0_1, .string a0_2] 32 (0, 0)) (by (with_reducible repeat (first | refine blk_drewN ?_ _ | refine blk_drew ?_ | refine blk_alloc ?_ _)); refine blk_far ?_ NB758_765.out _; (with_reducible repeat (first | refine blk_drewN ?_ _ | refine blk_drew ?_ | refine blk_alloc ?_ _)); refine blk_far ?_ NB758_765.out _; (with_reducible repeat (first | refine blk_drewN ?_ _ | refine blk_drew ?_ | refine blk_alloc ?_ _)); refine blk_far ?_ NB758_765.out _; (with_reducible repeat (first | refine blk_drewN ?_ _ | refine blk_drew ?_ | refine blk_alloc ?_ _)); refine blk_far ?_ NB758_765.out _; (with_reducible repeat (first | refine blk_drewN ?_ _ | refine blk_drew ?_ | refine blk_alloc ?_ _)); exact BK758.out) hb); replace BK759 := Aside0.mk (blk_below (g := gb759) (o := .cells #[.string a1_0, .string a1_1, .string a1_2] 32 (0, 0)) (by (with_reducible repeat (first | refine blk_drewN ?_ _ | refine blk_drew ?_ | refine blk_alloc ?_ _)); refine blk_far ?_ NB759_765.out _; (with_reducible repeat (first | refine blk_drewN ?_ _ | refine blk_drew ?_ | refine blk_alloc ?_ _)); refine blk_far ?_ NB759_765.out _; (with_reducible repeat (first | refine blk_drewN ?_ _ | refine blk_drew ?_ | refine blk_alloc ?_ _)); refine blk_far ?_ NB759_765.out _; (with_reducible repeat (first | refine blk_drewN ?_ _ | refine blk_drew ?_ | refine blk_alloc ?_ _)); refine blk_far ?_ NB759_765.out _; (with_reducible repeat (first | refine blk_drewN ?_ _ | refine blk_drew ?_ | refine blk_alloc ?_ _)); exact BK759.out) hb); replace BK760 := Aside0.mk (blk_below (g := gb760) (o := .cells #[.string a2_0, .string a2_1, .string a2_2] 32 (0, 0)) (by (with_reducible repeat (first | refine blk_drewN ?_ _ | refine blk_drew ?_ | refine blk_alloc ?_ _)); refine blk_far ?_ NB760_765.out _; (with_reducible repeat (first | refine blk_drewN ?_ _ | refine blk_drew ?_ | refine blk_alloc ?_ _)); refine blk_far ?_ NB760_765.out _; (with_reducible repeat (first | refine blk_drewN ?_ _ | refine blk_drew ?_ | refine blk_alloc ?_ _)); refine blk_far ?_ NB760_765.out _; (with_reducible repeat (first | refine blk_drewN ?_ _ | refine blk_drew ?_ | refine blk_alloc ?_ _)); refine blk_far ?_ NB760_765.out _; (with_reducible repeat (first | refine blk_drewN ?_ _ | refine blk_drew ?_ | refine blk_alloc ?_ _)); exact BK760.out) hb); replace BK765 := Aside0.mk (blk_below (g := gb765) (o := .cells #[.string a0_0, .string a0_1, .string a1_2] 32 (0, 0)) (bP BK765) hb); replace HB := sB hb; (try clear hb); have hnb338 := NB758_759.out; have hnc338 := NB759_758.out; have hnb339 := NB758_760.out; have hnc339 := NB760_758.out; have hnb340 := NB758_765.out; have hnc340 := NB765_758.out; have hcz341_0 : w337.cell? ⟨gb758, 0, none⟩ = some (.string a0_0) := (blk_cell BK758.out 0).trans rfl; have hcz341_1 : w337.cell? ⟨gb758, 1, none⟩ = some (.string a0_1) := (blk_cell BK758.out 1).trans rfl; have hcz341_2 : w337.cell? ⟨gb758, 2, none⟩ = some (.string a0_2) := (blk_cell BK758.out 2).trans rfl; have hfz341_0 := blk_frozen BK758.out 0; have hfz341_1 := blk_frozen BK758.out 1; have hfz341_2 := blk_frozen BK758.out 2) | (go_at_call 41; (with_reducible refine (coord_Less.calls kj3 a0_0 a0_1 a0_2 a0_0 a0_1 a0_2 false _ (gS HG) A295.out).mono ?_); rintro e w342 ⟨rfl, hb⟩; replace BK758 := kB BK758 hb; replace BK759 := kB BK759 hb; replace BK760 := kB BK760 hb; replace BK765 := kB BK765 hb; replace HB := sB hb; (try clear hb); have hcz343_0 : w342.cell? ⟨gb758, 0, none⟩ = some (.string a0_0) := (blk_cell BK758.out 0).trans rfl; have hcz343_1 : w342.cell? ⟨gb758, 1, none⟩ = some (.string a0_1) := (blk_cell BK758.out 1).trans rfl; have hcz343_2 : w342.cell? ⟨gb758, 2, none⟩ = some (.string a0_2) := (blk_cell BK758.out 2).trans rfl; have hfz343_0 := blk_frozen BK758.out 0; have hfz343_1 := blk_frozen BK758.out 1; have hfz343_2 := blk_frozen BK758.out 2; have hnb344 := NB759_760.out; have hnc344 := NB760_759.out; have hnb345 := NB759_765.out; have hnc345 := NB765_759.out; have hcz346_0 : w342.cell? ⟨gb759, 0, none⟩ = some (.string a1_0) := (blk_cell BK759.out 0).trans rfl; have hcz346_1 : w342.cell? ⟨gb759, 1, none⟩ = some (.string a1_1) := (blk_cell BK759.out 1).trans rfl; have hcz346_2 : w342.cell? ⟨gb759, 2, none⟩ = some (.string a1_2) := (blk_cell BK759.out 2).trans rfl; have hfz346_0 := blk_frozen BK759.out 0; have hfz346_1 := blk_frozen BK759.out 1; have hfz346_2 := blk_frozen BK759.out 2; have hnb347 := NB765_760.out; have hnc347 := NB760_765.out; have hcz348_0 : w342.cell? ⟨gb765, 0, none⟩ = some (.string a0_0) := (blk_cell BK765.out 0).trans rfl; have hcz348_1 : w342.cell? ⟨gb765, 1, none⟩ = some (.string a0_1) := (blk_cell BK765.out 1).trans rfl; have hcz348_2 : w342.cell? ⟨gb765, 2, none⟩ = some (.string a1_2) := (blk_cell BK765.out 2).trans rfl; have hfz348_0 := blk_frozen BK765.out 0; have hfz348_1 := blk_frozen BK765.out 1; have hfz348_2 := blk_frozen BK765.out 2) | (go_at_call 41; (with_reducible refine (coord_Less.calls kj3 a0_0 a0_1 a0_2 a0_0 a0_1 a1_2 false _ (gS HG) A304.out).mono ?_); rintro e w349 ⟨rfl, hb⟩; replace BK758 := kB BK758 hb; replace BK759 := kB BK759 hb; replace BK760 := kB BK760 hb; replace BK765 := kB BK765 hb; replace HB := sB hb; (try clear hb); have hcz350_0 : w349.cell? ⟨gb765, 0, none⟩ = some (.string a0_0) := (blk_cell BK765.out 0).trans rfl; have hcz350_1 : w349.cell? ⟨gb765, 1, none⟩ = some (.string a0_1) := (blk_cell BK765.out 1).trans rfl; have hcz350_2 : w349.cell? ⟨gb765, 2, none⟩ = some (.string a1_2) := (blk_cell BK765.out 2).trans rfl; have hfz350_0 := blk_frozen BK765.out 0; have hfz350_1 := blk_frozen BK765.out 1; have hfz350_2 := blk_frozen BK765.out 2; have hcz351_0 : w349.cell? ⟨gb758, 0, none⟩ = some (.string a0_0) := (blk_cell BK758.out 0).trans rfl; have hcz351_1 : w349.cell? ⟨gb758, 1, none⟩ = some (.string a0_1) := (blk_cell BK758.out 1).trans rfl; have hcz351_2 : w349.cell? ⟨gb758, 2, none⟩ = some (.string a0_2) := (blk_cell BK758.out 2).trans rfl; have hfz351_0 := blk_frozen BK758.out 0; have hfz351_1 := blk_frozen BK758.out 1; have hfz351_2 := blk_frozen BK758.out 2) | (go_at_call 41; (with_reducible refine (coord_Less.calls kj3 a0_0 a0_1 a1_2 a0_0 a0_1 a0_2 false _ (gS HG) A319.out).mono ?_); rintro e w352 ⟨rfl, hb⟩; replace BK758 := kB BK758 hb; replace BK759 := kB BK759 hb; replace BK760 := kB BK760 hb; replace BK765 := kB BK765 hb; replace HB := sB hb; (try clear hb); have hcz353_0 : w352.cell? ⟨gb758, 0, none⟩ = some (.string a0_0) := (blk_cell BK758.out 0).trans rfl; have hcz353_1 : w352.cell? ⟨gb758, 1, none⟩ = some (.string a0_1) := (blk_cell BK758.out 1).trans rfl; have hcz353_2 : w352.cell? ⟨gb758, 2, none⟩ = some (.string a0_2) := (blk_cell BK758.out 2).trans rfl; have hfz353_0 := blk_frozen BK758.out 0; have hfz353_1 := blk_frozen BK758.out 1; have hfz353_2 := blk_frozen BK758.out 2; have hcz354_0 : w352.cell? ⟨gb759, 0, none⟩ = some (.string a1_0) := (blk_cell BK759.out 0).trans rfl; have hcz354_1 : w352.cell? ⟨gb759, 1, none⟩ = some (.string a1_1) := (blk_cell BK759.out 1).trans rfl; have hcz354_2 : w352.cell? ⟨gb759, 2, none⟩ = some (.string a1_2) := (blk_cell BK759.out 2).trans rfl; have hfz354_0 := blk_frozen BK759.out 0; have hfz354_1 := blk_frozen BK759.out 1; have hfz354_2 := blk_frozen BK759.out 2))
     go_meet
     case rel => exact ⟨_, ((a0_2.toList == a1_2.toList)), cA, H', ⟨by have := HJ3.out; first | omega | exact Nat.le_refl _⟩, ⟨bK BK758⟩, ⟨bK BK759⟩, ⟨bK BK760⟩, ⟨bK BK765⟩, ⟨bG⟩⟩
    rw [if_neg c303] at H
    obtain ⟨c303b0, c303b1⟩ := eqF c303
    by_cases c355 : (false == (Op.bytesLess a0_0.toList a1_0.toList)) = true
    rotate_left
    ·rw [if_neg c355] at H
     have c355b0 : (false == (Op.bytesLess a0_0.toList a1_0.toList)) = false := by simpa using c355
     (try (have c355b1 : decide (false = (Op.bytesLess a0_0.toList a1_0.toList)) = false := by simpa using c355))
     (try (have c355b2 : (false == (Op.bytesLess a0_0.toList a1_0.toList)) = false := by simpa using c355))
     (try (have c355b3 : ¬ (false = (Op.bytesLess a0_0.toList a1_0.toList)) := by simpa using c355))
     clear c355
     have H' := Aside0.mk H
     clear H
     go_wp2_with (first | ((with_reducible refine gate_callee (f := 24) rfl ?_); refine gl (some 41) Tryd.func24 #[] ?_; (with_reducible refine (newellaw09_awake.calls kj3  true _ (gS HG) A45.out).mono ?_); rintro e w407 ⟨rfl, hb⟩; refine ⟨_, rfl, ?_⟩; replace BK758 := Aside0.mk (blk_below (g := gb758) (o := .cells #[.string a0_0, .string a0_1, .string a0_2] 32 (0, 0)) (by (with_reducible repeat (first | refine blk_drewN ?_ _ | refine blk_drew ?_ | refine blk_alloc ?_ _)); refine blk_far ?_ NB758_765.out _; (with_reducible repeat (first | refine blk_drewN ?_ _ | refine blk_drew ?_ | refine blk_alloc ?_ _)); refine blk_far ?_ NB758_765.out _; (with_reducible repeat (first | refine blk_drewN ?_ _ | refine blk_drew ?_ | refine blk_alloc ?_ _)); refine blk_far ?_ NB758_765.out _; (with_reducible repeat (first | refine blk_drewN ?_ _ | refine blk_drew ?_ | refine blk_alloc ?_ _)); refine blk_far ?_ NB758_765.out _; (with_reducible repeat (first | refine blk_drewN ?_ _ | refine blk_drew ?_ | refine blk_alloc ?_ _)); exact BK758.out) hb); replace BK759 := Aside0.mk (blk_below (g := gb759) (o := .cells #[.string a1_0, .string a1_1, .string a1_2] 32 (0, 0)) (by (with_reducible repeat (first | refine blk_drewN ?_ _ | refine blk_drew ?_ | refine blk_alloc ?_ _)); refine blk_far ?_ NB759_765.out _; (with_reducible repeat (first | refine blk_drewN ?_ _ | refine blk_drew ?_ | refine blk_alloc ?_ _)); refine blk_far ?_ NB759_765.out _; (with_reducible repeat (first | refine blk_drewN ?_ _ | refine blk_drew ?_ | refine blk_alloc ?_ _)); refine blk_far ?_ NB759_765.out _; (with_reducible repeat (first | refine blk_drewN ?_ _ | refine blk_drew ?_ | refine blk_alloc ?_ _)); refine blk_far ?_ NB759_765.out _; (with_reducible repeat (first | refine blk_drewN ?_ _ | refine blk_drew ?_ | refine blk_alloc ?_ _)); exact BK759.out) hb); replace BK760 := Aside0.mk (blk_below (g := gb760) (o := .cells #[.string a2_0, .string a2_1, .string a2_2] 32 (0, 0)) (by (with_reducible repeat (first | refine blk_drewN ?_ _ | refine blk_drew ?_ | refine blk_alloc ?_ _)); refine blk_far ?_ NB760_765.out _; (with_reducible repeat (first | refine blk_drewN ?_ _ | refine blk_drew ?_ | refine blk_alloc ?_ _)); refine blk_far ?_ NB760_765.out _; (with_reducible repeat (first | refine blk_drewN ?_ _ | refine blk_drew ?_ | refine blk_alloc ?_ _)); refine blk_far ?_ NB760_765.out _; (with_reducible repeat (first | refine blk_drewN ?_ _ | refine blk_drew ?_ | refine blk_alloc ?_ _)); refine blk_far ?_ NB760_765.out _; (with_reducible repeat (first | refine blk_drewN ?_ _ | refine blk_drew ?_ | refine blk_alloc ?_ _)); exact BK760.out) hb); replace BK765 := Aside0.mk (blk_below (g := gb765) (o := .cells #[.string a0_0, .string a0_1, .string a1_2] 32 (0, 0)) (bP BK765) hb); replace HB := sB hb; (try clear hb); have hnb408 := NB758_759.out; have hnc408 := NB759_758.out; have hnb409 := NB758_760.out; have hnc409 := NB760_758.out; have hnb410 := NB758_765.out; have hnc410 := NB765_758.out; have hcz411_0 : w407.cell? ⟨gb758, 0, none⟩ = some (.string a0_0) := (blk_cell BK758.out 0).trans rfl; have hcz411_1 : w407.cell? ⟨gb758, 1, none⟩ = some (.string a0_1) := (blk_cell BK758.out 1).trans rfl; have hcz411_2 : w407.cell? ⟨gb758, 2, none⟩ = some (.string a0_2) := (blk_cell BK758.out 2).trans rfl; have hfz411_0 := blk_frozen BK758.out 0; have hfz411_1 := blk_frozen BK758.out 1; have hfz411_2 := blk_frozen BK758.out 2) | (go_at_call 41; (with_reducible refine (coord_Less.calls kj3 a0_0 a0_1 a0_2 a0_0 a0_1 a0_2 false _ (gS HG) A295.out).mono ?_); rintro e w412 ⟨rfl, hb⟩; replace BK758 := kB BK758 hb; replace BK759 := kB BK759 hb; replace BK760 := kB BK760 hb; replace BK765 := kB BK765 hb; replace HB := sB hb; (try clear hb); have hcz413_0 : w412.cell? ⟨gb758, 0, none⟩ = some (.string a0_0) := (blk_cell BK758.out 0).trans rfl; have hcz413_1 : w412.cell? ⟨gb758, 1, none⟩ = some (.string a0_1) := (blk_cell BK758.out 1).trans rfl; have hcz413_2 : w412.cell? ⟨gb758, 2, none⟩ = some (.string a0_2) := (blk_cell BK758.out 2).trans rfl; have hfz413_0 := blk_frozen BK758.out 0; have hfz413_1 := blk_frozen BK758.out 1; have hfz413_2 := blk_frozen BK758.out 2; have hnb414 := NB759_760.out; have hnc414 := NB760_759.out; have hnb415 := NB759_765.out; have hnc415 := NB765_759.out; have hcz416_0 : w412.cell? ⟨gb759, 0, none⟩ = some (.string a1_0) := (blk_cell BK759.out 0).trans rfl; have hcz416_1 : w412.cell? ⟨gb759, 1, none⟩ = some (.string a1_1) := (blk_cell BK759.out 1).trans rfl; have hcz416_2 : w412.cell? ⟨gb759, 2, none⟩ = some (.string a1_2) := (blk_cell BK759.out 2).trans rfl; have hfz416_0 := blk_frozen BK759.out 0; have hfz416_1 := blk_frozen BK759.out 1; have hfz416_2 := blk_frozen BK759.out 2))
     go_meet
     case rel => exact ⟨_, (false), cA, H', ⟨by have := HJ3.out; first | omega | exact Nat.le_refl _⟩, ⟨bK BK758⟩, ⟨bK BK759⟩, ⟨bK BK760⟩, ⟨bK BK765⟩, ⟨bG⟩⟩
    rw [if_pos c355] at H
    have c355b0 : (false == (Op.bytesLess a0_0.toList a1_0.toList)) = true := c355
    (try (have c355b1 : decide (false = (Op.bytesLess a0_0.toList a1_0.toList)) = true := by simpa using c355))
    (try (have c355b2 : (false == (Op.bytesLess a0_0.toList a1_0.toList)) = true := by simpa using c355))
    clear c355
    replace H := bi H
    obtain ⟨t780, A3560, H⟩ := H
    try dsimp only at H
    have A356 := Aside0.mk A3560
    clear A3560
    by_cases c357 : t780 = true
    ·subst c357
     have H1 : (newellaw09_CoordOrder.j1 kj3 true) = some r := by rw [if_pos rfl] at H; exact H
     clear H
     have H := H1
     clear H1
     have H' := Aside0.mk H
     clear H
     go_wp2_with (first | ((with_reducible refine gate_callee (f := 24) rfl ?_); refine gl (some 41) Tryd.func24 #[] ?_; (with_reducible refine (newellaw09_awake.calls kj3  true _ (gS HG) A45.out).mono ?_); rintro e w358 ⟨rfl, hb⟩; refine ⟨_, rfl, ?_⟩; replace BK758 := Aside0.mk (blk_below (g := gb758) (o := .cells #[.string a0_0, .string a0_1, .string a0_2] 32 (0, 0)) (by (with_reducible repeat (first | refine blk_drewN ?_ _ | refine blk_drew ?_ | refine blk_alloc ?_ _)); refine blk_far ?_ NB758_765.out _; (with_reducible repeat (first | refine blk_drewN ?_ _ | refine blk_drew ?_ | refine blk_alloc ?_ _)); refine blk_far ?_ NB758_765.out _; (with_reducible repeat (first | refine blk_drewN ?_ _ | refine blk_drew ?_ | refine blk_alloc ?_ _)); refine blk_far ?_ NB758_765.out _; (with_reducible repeat (first | refine blk_drewN ?_ _ | refine blk_drew ?_ | refine blk_alloc ?_ _)); refine blk_far ?_ NB758_765.out _; (with_reducible repeat (first | refine blk_drewN ?_ _ | refine blk_drew ?_ | refine blk_alloc ?_ _)); exact BK758.out) hb); replace BK759 := Aside0.mk (blk_below (g := gb759) (o := .cells #[.string a1_0, .string a1_1, .string a1_2] 32 (0, 0)) (by (with_reducible repeat (first | refine blk_drewN ?_ _ | refine blk_drew ?_ | refine blk_alloc ?_ _)); refine blk_far ?_ NB759_765.out _; (with_reducible repeat (first | refine blk_drewN ?_ _ | refine blk_drew ?_ | refine blk_alloc ?_ _)); refine blk_far ?_ NB759_765.out _; (with_reducible repeat (first | refine blk_drewN ?_ _ | refine blk_drew ?_ | refine blk_alloc ?_ _)); refine blk_far ?_ NB759_765.out _; (with_reducible repeat (first | refine blk_drewN ?_ _ | refine blk_drew ?_ | refine blk_alloc ?_ _)); refine blk_far ?_ NB759_765.out _; (with_reducible repeat (first | refine blk_drewN ?_ _ | refine blk_drew ?_ | refine blk_alloc ?_ _)); exact BK759.out) hb); replace BK760 := Aside0.mk (blk_below (g := gb760) (o := .cells #[.string a2_0, .string a2_1, .string a2_2] 32 (0, 0)) (by (with_reducible repeat (first | refine blk_drewN ?_ _ | refine blk_drew ?_ | refine blk_alloc ?_ _)); refine blk_far ?_ NB760_765.out _; (with_reducible repeat (first | refine blk_drewN ?_ _ | refine blk_drew ?_ | refine blk_alloc ?_ _)); refine blk_far ?_ NB760_765.out _; (with_reducible repeat (first | refine blk_drewN ?_ _ | refine blk_drew ?_ | refine blk_alloc ?_ _)); refine blk_far ?_ NB760_765.out _; (with_reducible repeat (first | refine blk_drewN ?_ _ | refine blk_drew ?_ | refine blk_alloc ?_ _)); refine blk_far ?_ NB760_765.out _; (with_reducible repeat (first | refine blk_drewN ?_ _ | refine blk_drew ?_ | refine blk_alloc ?_ _)); exact BK760.out) hb); replace BK765 := Aside0.mk (blk_below (g := gb765) (o := .cells #[.string a0_0, .string a0_1, .string a1_2] 32 (0, 0)) (bP BK765) hb); replace HB := sB hb; (try clear hb); have hnb359 := NB758_759.out; have hnc359 := NB759_758.out; have hnb360 := NB758_760.out; have hnc360 := NB760_758.out; have hnb361 := NB758_765.out; have hnc361 := NB765_758.out; have hcz362_0 : w358.cell? ⟨gb758, 0, none⟩ = some (.string a0_0) := (blk_cell BK758.out 0).trans rfl; have hcz362_1 : w358.cell? ⟨gb758, 1, none⟩ = some (.string a0_1) := (blk_cell BK758.out 1).trans rfl; have hcz362_2 : w358.cell? ⟨gb758, 2, none⟩ = some (.string a0_2) := (blk_cell BK758.out 2).trans rfl; have hfz362_0 := blk_frozen BK758.out 0; have hfz362_1 := blk_frozen BK758.out 1; have hfz362_2 := blk_frozen BK758.out 2) | (go_at_call 41; (with_reducible refine (coord_Less.calls kj3 a0_0 a0_1 a0_2 a0_0 a0_1 a0_2 false _ (gS HG) A295.out).mono ?_); rintro e w363 ⟨rfl, hb⟩; replace BK758 := kB BK758 hb; replace BK759 := kB BK759 hb; replace BK760 := kB BK760 hb; replace BK765 := kB BK765 hb; replace HB := sB hb; (try clear hb); have hcz364_0 : w363.cell? ⟨gb758, 0, none⟩ = some (.string a0_0) := (blk_cell BK758.out 0).trans rfl; have hcz364_1 : w363.cell? ⟨gb758, 1, none⟩ = some (.string a0_1) := (blk_cell BK758.out 1).trans rfl; have hcz364_2 : w363.cell? ⟨gb758, 2, none⟩ = some (.string a0_2) := (blk_cell BK758.out 2).trans rfl; have hfz364_0 := blk_frozen BK758.out 0; have hfz364_1 := blk_frozen BK758.out 1; have hfz364_2 := blk_frozen BK758.out 2; have hnb365 := NB759_760.out; have hnc365 := NB760_759.out; have hnb366 := NB759_765.out; have hnc366 := NB765_759.out; have hcz367_0 : w363.cell? ⟨gb759, 0, none⟩ = some (.string a1_0) := (blk_cell BK759.out 0).trans rfl; have hcz367_1 : w363.cell? ⟨gb759, 1, none⟩ = some (.string a1_1) := (blk_cell BK759.out 1).trans rfl; have hcz367_2 : w363.cell? ⟨gb759, 2, none⟩ = some (.string a1_2) := (blk_cell BK759.out 2).trans rfl; have hfz367_0 := blk_frozen BK759.out 0; have hfz367_1 := blk_frozen BK759.out 1; have hfz367_2 := blk_frozen BK759.out 2; have hnb368 := NB765_760.out; have hnc368 := NB760_765.out; have hcz369_0 : w363.cell? ⟨gb765, 0, none⟩ = some (.string a0_0) := (blk_cell BK765.out 0).trans rfl; have hcz369_1 : w363.cell? ⟨gb765, 1, none⟩ = some (.string a0_1) := (blk_cell BK765.out 1).trans rfl; have hcz369_2 : w363.cell? ⟨gb765, 2, none⟩ = some (.string a1_2) := (blk_cell BK765.out 2).trans rfl; have hfz369_0 := blk_frozen BK765.out 0; have hfz369_1 := blk_frozen BK765.out 1; have hfz369_2 := blk_frozen BK765.out 2) | (go_at_call 41; (with_reducible refine (coord_Less.calls kj3 a0_0 a0_1 a0_2 a0_0 a0_1 a1_2 true _ (gS HG) A356.out).mono ?_); rintro e w370 ⟨rfl, hb⟩; replace BK758 := kB BK758 hb; replace BK759 := kB BK759 hb; replace BK760 := kB BK760 hb; replace BK765 := kB BK765 hb; replace HB := sB hb; (try clear hb)))
     go_meet
     case rel => exact ⟨_, (true), cA, H', ⟨by have := HJ3.out; first | omega | exact Nat.le_refl _⟩, ⟨bK BK758⟩, ⟨bK BK759⟩, ⟨bK BK760⟩, ⟨bK BK765⟩, ⟨bG⟩⟩
    replace c357 := Bool.eq_false_iff.mpr c357
    subst c357
    have H1 : ((coord_Less.f kj3 a0_0 a0_1 a1_2 a0_0 a0_1 a0_2).bind fun t781 => (if t781 = true then (newellaw09_CoordOrder.j1 kj3 true) else (newellaw09_CoordOrder.j1 kj3 (a0_2.toList == a1_2.toList)))) = some r := by rw [if_neg (show ¬ (false = true) by decide)] at H; exact H
    clear H
    have H := H1
    clear H1
    replace H := bi H
    obtain ⟨t781, A3710, H⟩ := H
    try dsimp only at H
    have A371 := Aside0.mk A3710
    clear A3710
    by_cases c372 : t781 = true
    ·subst c372
     have H1 : (newellaw09_CoordOrder.j1 kj3 true) = some r := by rw [if_pos rfl] at H; exact H
     clear H
     have H := H1
     clear H1
     have H' := Aside0.mk H
     clear H
     go_wp2_with (first | ((with_reducible refine gate_callee (f := 24) rfl ?_); refine gl (some 41) Tryd.func24 #[] ?_; (with_reducible refine (newellaw09_awake.calls kj3  true _ (gS HG) A45.out).mono ?_); rintro e w373 ⟨rfl, hb⟩; refine ⟨_, rfl, ?_⟩; replace BK758 := Aside0.mk (blk_below (g := gb758) (o := .cells #[.string a0_0, .string a0_1, .string a0_2] 32 (0, 0)) (by (with_reducible repeat (first | refine blk_drewN ?_ _ | refine blk_drew ?_ | refine blk_alloc ?_ _)); refine blk_far ?_ NB758_765.out _; (with_reducible repeat (first | refine blk_drewN ?_ _ | refine blk_drew ?_ | refine blk_alloc ?_ _)); refine blk_far ?_ NB758_765.out _; (with_reducible repeat (first | refine blk_drewN ?_ _ | refine blk_drew ?_ | refine blk_alloc ?_ _)); refine blk_far ?_ NB758_765.out _; (with_reducible repeat (first | refine blk_drewN ?_ _ | refine blk_drew ?_ | refine blk_alloc ?_ _)); refine blk_far ?_ NB758_765.out _; (with_reducible repeat (first | refine blk_drewN ?_ _ | refine blk_drew ?_ | refine blk_alloc ?_ _)); exact BK758.out) hb); replace BK759 := Aside0.mk (blk_below (g := gb759) (o := .cells #[.string a1_0, .string a1_1, .string a1_2] 32 (0, 0)) (by (with_reducible repeat (first | refine blk_drewN ?_ _ | refine blk_drew ?_ | refine blk_alloc ?_ _)); refine blk_far ?_ NB759_765.out _; (with_reducible repeat (first | refine blk_drewN ?_ _ | refine blk_drew ?_ | refine blk_alloc ?_ _)); refine blk_far ?_ NB759_765.out _; (with_reducible repeat (first | refine blk_drewN ?_ _ | refine blk_drew ?_ | refine blk_alloc ?_ _)); refine blk_far ?_ NB759_765.out _; (with_reducible repeat (first | refine blk_drewN ?_ _ | refine blk_drew ?_ | refine blk_alloc ?_ _)); refine blk_far ?_ NB759_765.out _; (with_reducible repeat (first | refine blk_drewN ?_ _ | refine blk_drew ?_ | refine blk_alloc ?_ _)); exact BK759.out) hb); replace BK760 := Aside0.mk (blk_below (g := gb760) (o := .cells #[.string a2_0, .string a2_1, .string a2_2] 32 (0, 0)) (by (with_reducible repeat (first | refine blk_drewN ?_ _ | refine blk_drew ?_ | refine blk_alloc ?_ _)); refine blk_far ?_ NB760_765.out _; (with_reducible repeat (first | refine blk_drewN ?_ _ | refine blk_drew ?_ | refine blk_alloc ?_ _)); refine blk_far ?_ NB760_765.out _; (with_reducible repeat (first | refine blk_drewN ?_ _ | refine blk_drew ?_ | refine blk_alloc ?_ _)); refine blk_far ?_ NB760_765.out _; (with_reducible repeat (first | refine blk_drewN ?_ _ | refine blk_drew ?_ | refine blk_alloc ?_ _)); refine blk_far ?_ NB760_765.out _; (with_reducible repeat (first | refine blk_drewN ?_ _ | refine blk_drew ?_ | refine blk_alloc ?_ _)); exact BK760.out) hb); replace BK765 := Aside0.mk (blk_below (g := gb765) (o := .cells #[.string a0_0, .string a0_1, .string a1_2] 32 (0, 0)) (bP BK765) hb); replace HB := sB hb; (try clear hb); have hnb374 := NB758_759.out; have hnc374 := NB759_758.out; have hnb375 := NB758_760.out; have hnc375 := NB760_758.out; have hnb376 := NB758_765.out; have hnc376 := NB765_758.out; have hcz377_0 : w373.cell? ⟨gb758, 0, none⟩ = some (.string a0_0) := (blk_cell BK758.out 0).trans rfl; have hcz377_1 : w373.cell? ⟨gb758, 1, none⟩ = some (.string a0_1) := (blk_cell BK758.out 1).trans rfl; have hcz377_2 : w373.cell? ⟨gb758, 2, none⟩ = some (.string a0_2) := (blk_cell BK758.out 2).trans rfl; have hfz377_0 := blk_frozen BK758.out 0; have hfz377_1 := blk_frozen BK758.out 1; have hfz377_2 := blk_frozen BK758.out 2) | (go_at_call 41; (with_reducible refine (coord_Less.calls kj3 a0_0 a0_1 a0_2 a0_0 a0_1 a0_2 false _ (gS HG) A295.out).mono ?_); rintro e w378 ⟨rfl, hb⟩; replace BK758 := kB BK758 hb; replace BK759 := kB BK759 hb; replace BK760 := kB BK760 hb; replace BK765 := kB BK765 hb; replace HB := sB hb; (try clear hb); have hcz379_0 : w378.cell? ⟨gb758, 0, none⟩ = some (.string a0_0) := (blk_cell BK758.out 0).trans rfl; have hcz379_1 : w378.cell? ⟨gb758, 1, none⟩ = some (.string a0_1) := (blk_cell BK758.out 1).trans rfl; have hcz379_2 : w378.cell? ⟨gb758, 2, none⟩ = some (.string a0_2) := (blk_cell BK758.out 2).trans rfl; have hfz379_0 := blk_frozen BK758.out 0; have hfz379_1 := blk_frozen BK758.out 1; have hfz379_2 := blk_frozen BK758.out 2; have hnb380 := NB759_760.out; have hnc380 := NB760_759.out; have hnb381 := NB759_765.out; have hnc381 := NB765_759.out; have hcz382_0 : w378.cell? ⟨gb759, 0, none⟩ = some (.string a1_0) := (blk_cell BK759.out 0).trans rfl; have hcz382_1 : w378.cell? ⟨gb759, 1, none⟩ = some (.string a1_1) := (blk_cell BK759.out 1).trans rfl; have hcz382_2 : w378.cell? ⟨gb759, 2, none⟩ = some (.string a1_2) := (blk_cell BK759.out 2).trans rfl; have hfz382_0 := blk_frozen BK759.out 0; have hfz382_1 := blk_frozen BK759.out 1; have hfz382_2 := blk_frozen BK759.out 2; have hnb383 := NB765_760.out; have hnc383 := NB760_765.out; have hcz384_0 : w378.cell? ⟨gb765, 0, none⟩ = some (.string a0_0) := (blk_cell BK765.out 0).trans rfl; have hcz384_1 : w378.cell? ⟨gb765, 1, none⟩ = some (.string a0_1) := (blk_cell BK765.out 1).trans rfl; have hcz384_2 : w378.cell? ⟨gb765, 2, none⟩ = some (.string a1_2) := (blk_cell BK765.out 2).trans rfl; have hfz384_0 := blk_frozen BK765.out 0; have hfz384_1 := blk_frozen BK765.out 1; have hfz384_2 := blk_frozen BK765.out 2) | (go_at_call 41; (with_reducible refine (coord_Less.calls kj3 a0_0 a0_1 a0_2 a0_0 a0_1 a1_2 false _ (gS HG) A356.out).mono ?_); rintro e w385 ⟨rfl, hb⟩; replace BK758 := kB BK758 hb; replace BK759 := kB BK759 hb; replace BK760 := kB BK760 hb; replace BK765 := kB BK765 hb; replace HB := sB hb; (try clear hb); have hcz386_0 : w385.cell? ⟨gb765, 0, none⟩ = some (.string a0_0) := (blk_cell BK765.out 0).trans rfl; have hcz386_1 : w385.cell? ⟨gb765, 1, none⟩ = some (.string a0_1) := (blk_cell BK765.out 1).trans rfl; have hcz386_2 : w385.cell? ⟨gb765, 2, none⟩ = some (.string a1_2) := (blk_cell BK765.out 2).trans rfl; have hfz386_0 := blk_frozen BK765.out 0; have hfz386_1 := blk_frozen BK765.out 1; have hfz386_2 := blk_frozen BK765.out 2; have hcz387_0 : w385.cell? ⟨gb758, 0, none⟩ = some (.string a0_0) := (blk_cell BK758.out 0).trans rfl; have hcz387_1 : w385.cell? ⟨gb758, 1, none⟩ = some (.string a0_1) := (blk_cell BK758.out 1).trans rfl; have hcz387_2 : w385.cell? ⟨gb758, 2, none⟩ = some (.string a0_2) := (blk_cell BK758.out 2).trans rfl; have hfz387_0 := blk_frozen BK758.out 0; have hfz387_1 := blk_frozen BK758.out 1; have hfz387_2 := blk_frozen BK758.out 2) | (go_at_call 41; (with_reducible refine (coord_Less.calls kj3 a0_0 a0_1 a1_2 a0_0 a0_1 a0_2 true _ (gS HG) A371.out).mono ?_); rintro e w388 ⟨rfl, hb⟩; replace BK758 := kB BK758 hb; replace BK759 := kB BK759 hb; replace BK760 := kB BK760 hb; replace BK765 := kB BK765 hb; replace HB := sB hb; (try clear hb)))
     go_meet
     case rel => exact ⟨_, (true), cA, H', ⟨by have := HJ3.out; first | omega | exact Nat.le_refl _⟩, ⟨bK BK758⟩, ⟨bK BK759⟩, ⟨bK BK760⟩, ⟨bK BK765⟩, ⟨bG⟩⟩
    replace c372 := Bool.eq_false_iff.mpr c372
    subst c372
    have H1 : (newellaw09_CoordOrder.j1 kj3 (a0_2.toList == a1_2.toList)) = some r := by rw [if_neg (show ¬ (false = true) by decide)] at H; exact H
    clear H
    have H := H1
    clear H1
    have H' := Aside0.mk H
    clear H
    go_wp2_with (first | ((with_reducible refine gate_callee (f := 24) rfl ?_); refine gl (some 41) Tryd.func24 #[] ?_; (with_reducible refine (newellaw09_awake.calls kj3  true _ (gS HG) A45.out).mono ?_); rintro e w389 ⟨rfl, hb⟩; refine ⟨_, rfl, ?_⟩; replace BK758 := Aside0.mk (blk_below (g := gb758) (o := .cells #[.string a0_0, .string a0_1, .string a0_2] 32 (0, 0)) (by (with_reducible repeat (first | refine blk_drewN ?_ _ | refine blk_drew ?_ | refine blk_alloc ?_ _)); refine blk_far ?_ NB758_765.out _; (with_reducible repeat (first | refine blk_drewN ?_ _ | refine blk_drew ?_ | refine blk_alloc ?_ _)); refine blk_far ?_ NB758_765.out _; (with_reducible repeat (first | refine blk_drewN ?_ _ | refine blk_drew ?_ | refine blk_alloc ?_ _)); refine blk_far ?_ NB758_765.out _; (with_reducible repeat (first | refine blk_drewN ?_ _ | refine blk_drew ?_ | refine blk_alloc ?_ _)); refine blk_far ?_ NB758_765.out _; (with_reducible repeat (first | refine blk_drewN ?_ _ | refine blk_drew ?_ | refine blk_alloc ?_ _)); exact BK758.out) hb); replace BK759 := Aside0.mk (blk_below (g := gb759) (o := .cells #[.string a1_0, .string a1_1, .string a1_2] 32 (0, 0)) (by (with_reducible repeat (first | refine blk_drewN ?_ _ | refine blk_drew ?_ | refine blk_alloc ?_ _)); refine blk_far ?_ NB759_765.out _; (with_reducible repeat (first | refine blk_drewN ?_ _ | refine blk_drew ?_ | refine blk_alloc ?_ _)); refine blk_far ?_ NB759_765.out _; (with_reducible repeat (first | refine blk_drewN ?_ _ | refine blk_drew ?_ | refine blk_alloc ?_ _)); refine blk_far ?_ NB759_765.out _; (with_reducible repeat (first | refine blk_drewN ?_ _ | refine blk_drew ?_ | refine blk_alloc ?_ _)); refine blk_far ?_ NB759_765.out _; (with_reducible repeat (first | refine blk_drewN ?_ _ | refine blk_drew ?_ | refine blk_alloc ?_ _)); exact BK759.out) hb); replace BK760 := Aside0.mk (blk_below (g := gb760) (o := .cells #[.string a2_0, .string a2_1, .string a2_2] 32 (0, 0)) (by (with_reducible repeat (first | refine blk_drewN ?_ _ | refine blk_drew ?_ | refine blk_alloc ?_ _)); refine blk_far ?_ NB760_765.out _; (with_reducible repeat (first | refine blk_drewN ?_ _ | refine blk_drew ?_ | refine blk_alloc ?_ _)); refine blk_far ?_ NB760_765.out _; (with_reducible repeat (first | refine blk_drewN ?_ _ | refine blk_drew ?_ | refine blk_alloc ?_ _)); refine blk_far ?_ NB760_765.out _; (with_reducible repeat (first | refine blk_drewN ?_ _ | refine blk_drew ?_ | refine blk_alloc ?_ _)); refine blk_far ?_ NB760_765.out _; (with_reducible repeat (first | refine blk_drewN ?_ _ | refine blk_drew ?_ | refine blk_alloc ?_ _)); exact BK760.out) hb); replace BK765 := Aside0.mk (blk_below (g := gb765) (o := .cells #[.string a0_0, .string a0_1, .string a1_2] 32 (0, 0)) (bP BK765) hb); replace HB := sB hb; (try clear hb); have hnb390 := NB758_759.out; have hnc390 := NB759_758.out; have hnb391 := NB758_760.out; have hnc391 := NB760_758.out; have hnb392 := NB758_765.out; have hnc392 := NB765_758.out; have hcz393_0 : w389.cell? ⟨gb758, 0, none⟩ = some (.string a0_0) := (blk_cell BK758.out 0).trans rfl; have hcz393_1 : w389.cell? ⟨gb758, 1, none⟩ = some (.string a0_1) := (blk_cell BK758.out 1).trans rfl; have hcz393_2 : w389.cell? ⟨gb758, 2, none⟩ = some (.string a0_2) := (blk_cell BK758.out 2).trans rfl; have hfz393_0 := blk_frozen BK758.out 0; have hfz393_1 := blk_frozen BK758.out 1; have hfz393_2 := blk_frozen BK758.out 2) | (go_at_call 41; (with_reducible refine (coord_Less.calls kj3 a0_0 a0_1 a0_2 a0_0 a0_1 a0_2 false _ (gS HG) A295.out).mono ?_); rintro e w394 ⟨rfl, hb⟩; replace BK758 := kB BK758 hb; replace BK759 := kB BK759 hb; replace BK760 := kB BK760 hb; replace BK765 := kB BK765 hb; replace HB := sB hb; (try clear hb); have hcz395_0 : w394.cell? ⟨gb758, 0, none⟩ = some (.string a0_0) := (blk_cell BK758.out 0).trans rfl; have hcz395_1 : w394.cell? ⟨gb758, 1, none⟩ = some (.string a0_1) := (blk_cell BK758.out 1).trans rfl; have hcz395_2 : w394.cell? ⟨gb758, 2, none⟩ = some (.string a0_2) := (blk_cell BK758.out 2).trans rfl; have hfz395_0 := blk_frozen BK758.out 0; have hfz395_1 := blk_frozen BK758.out 1; have hfz395_2 := blk_frozen BK758.out 2; have hnb396 := NB759_760.out; have hnc396 := NB760_759.out; have hnb397 := NB759_765.out; have hnc397 := NB765_759.out; have hcz398_0 : w394.cell? ⟨gb759, 0, none⟩ = some (.string a1_0) := (blk_cell BK759.out 0).trans rfl; have hcz398_1 : w394.cell? ⟨gb759, 1, none⟩ = some (.string a1_1) := (blk_cell BK759.out 1).trans rfl; have hcz398_2 : w394.cell? ⟨gb759, 2, none⟩ = some (.string a1_2) := (blk_cell BK759.out 2).trans rfl; have hfz398_0 := blk_frozen BK759.out 0; have hfz398_1 := blk_frozen BK759.out 1; have hfz398_2 := blk_frozen BK759.out 2; have hnb399 := NB765_760.out; have hnc399 := NB760_765.out; have hcz400_0 : w394.cell? ⟨gb765, 0, none⟩ = some (.string a0_0) := (blk_cell BK765.out 0).trans rfl; have hcz400_1 : w394.cell? ⟨gb765, 1, none⟩ = some (.string a0_1) := (blk_cell BK765.out 1).trans rfl; have hcz400_2 : w394.cell? ⟨gb765, 2, none⟩ = some (.string a1_2) := (blk_cell BK765.out 2).trans rfl; have hfz400_0 := blk_frozen BK765.out 0; have hfz400_1 := blk_frozen BK765.out 1; have hfz400_2 := blk_frozen BK765.out 2) | (go_at_call 41; (with_reducible refine (coord_Less.calls kj3 a0_0 a0_1 a0_2 a0_0 a0_1 a1_2 false _ (gS HG) A356.out).mono ?_); rintro e w401 ⟨rfl, hb⟩; replace BK758 := kB BK758 hb; replace BK759 := kB BK759 hb; replace BK760 := kB BK760 hb; replace BK765 := kB BK765 hb; replace HB := sB hb; (try clear hb); have hcz402_0 : w401.cell? ⟨gb765, 0, none⟩ = some (.string a0_0) := (blk_cell BK765.out 0).trans rfl; have hcz402_1 : w401.cell? ⟨gb765, 1, none⟩ = some (.string a0_1) := (blk_cell BK765.out 1).trans rfl; have hcz402_2 : w401.cell? ⟨gb765, 2, none⟩ = some (.string a1_2) := (blk_cell BK765.out 2).trans rfl; have hfz402_0 := blk_frozen BK765.out 0; have hfz402_1 := blk_frozen BK765.out 1; have hfz402_2 := blk_frozen BK765.out 2; have hcz403_0 : w401.cell? ⟨gb758, 0, none⟩ = some (.string a0_0) := (blk_cell BK758.out 0).trans rfl; have hcz403_1 : w401.cell? ⟨gb758, 1, none⟩ = some (.string a0_1) := (blk_cell BK758.out 1).trans rfl; have hcz403_2 : w401.cell? ⟨gb758, 2, none⟩ = some (.string a0_2) := (blk_cell BK758.out 2).trans rfl; have hfz403_0 := blk_frozen BK758.out 0; have hfz403_1 := blk_frozen BK758.out 1; have hfz403_2 := blk_frozen BK758.out 2) | (go_at_call 41; (with_reducible refine (coord_Less.calls kj3 a0_0 a0_1 a1_2 a0_0 a0_1 a0_2 false _ (gS HG) A371.out).mono ?_); rintro e w404 ⟨rfl, hb⟩; replace BK758 := kB BK758 hb; replace BK759 := kB BK759 hb; replace BK760 := kB BK760 hb; replace BK765 := kB BK765 hb; replace HB := sB hb; (try clear hb); have hcz405_0 : w404.cell? ⟨gb758, 0, none⟩ = some (.string a0_0) := (blk_cell BK758.out 0).trans rfl; have hcz405_1 : w404.cell? ⟨gb758, 1, none⟩ = some (.string a0_1) := (blk_cell BK758.out 1).trans rfl; have hcz405_2 : w404.cell? ⟨gb758, 2, none⟩ = some (.string a0_2) := (blk_cell BK758.out 2).trans rfl; have hfz405_0 := blk_frozen BK758.out 0; have hfz405_1 := blk_frozen BK758.out 1; have hfz405_2 := blk_frozen BK758.out 2; have hcz406_0 : w404.cell? ⟨gb759, 0, none⟩ = some (.string a1_0) := (blk_cell BK759.out 0).trans rfl; have hcz406_1 : w404.cell? ⟨gb759, 1, none⟩ = some (.string a1_1) := (blk_cell BK759.out 1).trans rfl; have hcz406_2 : w404.cell? ⟨gb759, 2, none⟩ = some (.string a1_2) := (blk_cell BK759.out 2).trans rfl; have hfz406_0 := blk_frozen BK759.out 0; have hfz406_1 := blk_frozen BK759.out 1; have hfz406_2 := blk_frozen BK759.out 2))
    go_meet
    case rel => exact ⟨_, ((a0_2.toList == a1_2.toList)), cA, H', ⟨by have := HJ3.out; first | omega | exact Nat.le_refl _⟩, ⟨bK BK758⟩, ⟨bK BK759⟩, ⟨bK BK760⟩, ⟨bK BK765⟩, ⟨bG⟩⟩
   subst c47
   have H1 : (if t763 = true then (if t764 = true then ((coord_Less.f kj3 a0_0 a0_1 a0_2 a0_0 a0_1 a0_2).bind fun t767 => (if t767 = true then (newellaw09_CoordOrder.j1 kj3 false) else (if a0_0.toList = a1_0.toList then ((coord_Less.f kj3 a0_0 a0_1 a0_2 a0_0 a0_1 a1_2).bind fun t768 => (if t768 = true then (newellaw09_CoordOrder.j1 kj3 true) else ((coord_Less.f kj3 a0_0 a0_1 a1_2 a0_0 a0_1 a0_2).bind fun t769 => (if t769 = true then (newellaw09_CoordOrder.j1 kj3 true) else (newellaw09_CoordOrder.j1 kj3 (a0_2.toList == a1_2.toList)))))) else (if (true == (Op.bytesLess a0_0.toList a1_0.toList)) = true then ((coord_Less.f kj3 a0_0 a0_1 a0_2 a0_0 a0_1 a1_2).bind fun t770 => (if t770 = true then (newellaw09_CoordOrder.j1 kj3 true) else ((coord_Less.f kj3 a0_0 a0_1 a1_2 a0_0 a0_1 a0_2).bind fun t771 => (if t771 = true then (newellaw09_CoordOrder.j1 kj3 true) else (newellaw09_CoordOrder.j1 kj3 (a0_2.toList == a1_2.toList)))))) else (newellaw09_CoordOrder.j1 kj3 false))))) else (newellaw09_CoordOrder.j1 kj3 false)) else ((coord_Less.f kj3 a0_0 a0_1 a0_2 a0_0 a0_1 a0_2).bind fun t772 => (if t772 = true then (newellaw09_CoordOrder.j1 kj3 false) else (if a0_0.toList = a1_0.toList then ((coord_Less.f kj3 a0_0 a0_1 a0_2 a0_0 a0_1 a1_2).bind fun t773 => (if t773 = true then (newellaw09_CoordOrder.j1 kj3 true) else ((coord_Less.f kj3 a0_0 a0_1 a1_2 a0_0 a0_1 a0_2).bind fun t774 => (if t774 = true then (newellaw09_CoordOrder.j1 kj3 true) else (newellaw09_CoordOrder.j1 kj3 (a0_2.toList == a1_2.toList)))))) else (if (true == (Op.bytesLess a0_0.toList a1_0.toList)) = true then ((coord_Less.f kj3 a0_0 a0_1 a0_2 a0_0 a0_1 a1_2).bind fun t775 => (if t775 = true then (newellaw09_CoordOrder.j1 kj3 true) else ((coord_Less.f kj3 a0_0 a0_1 a1_2 a0_0 a0_1 a0_2).bind fun t776 => (if t776 = true then (newellaw09_CoordOrder.j1 kj3 true) else (newellaw09_CoordOrder.j1 kj3 (a0_2.toList == a1_2.toList)))))) else (newellaw09_CoordOrder.j1 kj3 false)))))) = some r := by rw [if_pos rfl] at H; exact H
   clear H
   have H := H1
   clear H1
   by_cases c48 : t763 = true
   rotate_left
   ·replace c48 := Bool.eq_false_iff.mpr c48
    subst c48
    have H1 : ((coord_Less.f kj3 a0_0 a0_1 a0_2 a0_0 a0_1 a0_2).bind fun t772 => (if t772 = true then (newellaw09_CoordOrder.j1 kj3 false) else (if a0_0.toList = a1_0.toList then ((coord_Less.f kj3 a0_0 a0_1 a0_2 a0_0 a0_1 a1_2).bind fun t773 => (if t773 = true then (newellaw09_CoordOrder.j1 kj3 true) else ((coord_Less.f kj3 a0_0 a0_1 a1_2 a0_0 a0_1 a0_2).bind fun t774 => (if t774 = true then (newellaw09_CoordOrder.j1 kj3 true) else (newellaw09_CoordOrder.j1 kj3 (a0_2.toList == a1_2.toList)))))) else (if (true == (Op.bytesLess a0_0.toList a1_0.toList)) = true then ((coord_Less.f kj3 a0_0 a0_1 a0_2 a0_0 a0_1 a1_2).bind fun t775 => (if t775 = true then (newellaw09_CoordOrder.j1 kj3 true) else ((coord_Less.f kj3 a0_0 a0_1 a1_2 a0_0 a0_1 a0_2).bind fun t776 => (if t776 = true then (newellaw09_CoordOrder.j1 kj3 true) else (newellaw09_CoordOrder.j1 kj3 (a0_2.toList == a1_2.toList)))))) else (newellaw09_CoordOrder.j1 kj3 false))))) = some r := by rw [if_neg (show ¬ (false = true) by decide)] at H; exact H
    clear H
    have H := H1
    clear H1
    replace H := bi H
    obtain ⟨t772, A1730, H⟩ := H
    try dsimp only at H
    have A173 := Aside0.mk A1730
    clear A1730
    by_cases c174 : t772 = true
    ·subst c174
     have H1 : (newellaw09_CoordOrder.j1 kj3 false) = some r := by rw [if_pos rfl] at H; exact H
     clear H
     have H := H1
     clear H1
     have H' := Aside0.mk H
     clear H
     go_wp2_with (first | ((with_reducible refine gate_callee (f := 24) rfl ?_); refine gl (some 41) Tryd.func24 #[] ?_; (with_reducible refine (newellaw09_awake.calls kj3  true _ (gS HG) A45.out).mono ?_); rintro e w175 ⟨rfl, hb⟩; refine ⟨_, rfl, ?_⟩; replace BK758 := Aside0.mk (blk_below (g := gb758) (o := .cells #[.string a0_0, .string a0_1, .string a0_2] 32 (0, 0)) (by (with_reducible repeat (first | refine blk_drewN ?_ _ | refine blk_drew ?_ | refine blk_alloc ?_ _)); refine blk_far ?_ NB758_765.out _; (with_reducible repeat (first | refine blk_drewN ?_ _ | refine blk_drew ?_ | refine blk_alloc ?_ _)); refine blk_far ?_ NB758_765.out _; (with_reducible repeat (first | refine blk_drewN ?_ _ | refine blk_drew ?_ | refine blk_alloc ?_ _)); refine blk_far ?_ NB758_765.out _; (with_reducible repeat (first | refine blk_drewN ?_ _ | refine blk_drew ?_ | refine blk_alloc ?_ _)); refine blk_far ?_ NB758_765.out _; (with_reducible repeat (first | refine blk_drewN ?_ _ | refine blk_drew ?_ | refine blk_alloc ?_ _)); exact BK758.out) hb); replace BK759 := Aside0.mk (blk_below (g := gb759) (o := .cells #[.string a1_0, .string a1_1, .string a1_2] 32 (0, 0)) (by (with_reducible repeat (first | refine blk_drewN ?_ _ | refine blk_drew ?_ | refine blk_alloc ?_ _)); refine blk_far ?_ NB759_765.out _; (with_reducible repeat (first | refine blk_drewN ?_ _ | refine blk_drew ?_ | refine blk_alloc ?_ _)); refine blk_far ?_ NB759_765.out _; (with_reducible repeat (first | refine blk_drewN ?_ _ | refine blk_drew ?_ | refine blk_alloc ?_ _)); refine blk_far ?_ NB759_765.out _; (with_reducible repeat (first | refine blk_drewN ?_ _ | refine blk_drew ?_ | refine blk_alloc ?_ _)); refine blk_far ?_ NB759_765.out _; (with_reducible repeat (first | refine blk_drewN ?_ _ | refine blk_drew ?_ | refine blk_alloc ?_ _)); exact BK759.out) hb); replace BK760 := Aside0.mk (blk_below (g := gb760) (o := .cells #[.string a2_0, .string a2_1, .string a2_2] 32 (0, 0)) (by (with_reducible repeat (first | refine blk_drewN ?_ _ | refine blk_drew ?_ | refine blk_alloc ?_ _)); refine blk_far ?_ NB760_765.out _; (with_reducible repeat (first | refine blk_drewN ?_ _ | refine blk_drew ?_ | refine blk_alloc ?_ _)); refine blk_far ?_ NB760_765.out _; (with_reducible repeat (first | refine blk_drewN ?_ _ | refine blk_drew ?_ | refine blk_alloc ?_ _)); refine blk_far ?_ NB760_765.out _; (with_reducible repeat (first | refine blk_drewN ?_ _ | refine blk_drew ?_ | refine blk_alloc ?_ _)); refine blk_far ?_ NB760_765.out _; (with_reducible repeat (first | refine blk_drewN ?_ _ | refine blk_drew ?_ | refine blk_alloc ?_ _)); exact BK760.out) hb); replace BK765 := Aside0.mk (blk_below (g := gb765) (o := .cells #[.string a0_0, .string a0_1, .string a1_2] 32 (0, 0)) (bP BK765) hb); replace HB := sB hb; (try clear hb); have hnb176 := NB758_759.out; have hnc176 := NB759_758.out; have hnb177 := NB758_760.out; have hnc177 := NB760_758.out; have hnb178 := NB758_765.out; have hnc178 := NB765_758.out; have hcz179_0 : w175.cell? ⟨gb758, 0, none⟩ = some (.string a0_0) := (blk_cell BK758.out 0).trans rfl; have hcz179_1 : w175.cell? ⟨gb758, 1, none⟩ = some (.string a0_1) := (blk_cell BK758.out 1).trans rfl; have hcz179_2 : w175.cell? ⟨gb758, 2, none⟩ = some (.string a0_2) := (blk_cell BK758.out 2).trans rfl; have hfz179_0 := blk_frozen BK758.out 0; have hfz179_1 := blk_frozen BK758.out 1; have hfz179_2 := blk_frozen BK758.out 2) | (go_at_call 41; (with_reducible refine (coord_Less.calls kj3 a0_0 a0_1 a0_2 a0_0 a0_1 a0_2 true _ (gS HG) A173.out).mono ?_); rintro e w180 ⟨rfl, hb⟩; replace BK758 := kB BK758 hb; replace BK759 := kB BK759 hb; replace BK760 := kB BK760 hb; replace BK765 := kB BK765 hb; replace HB := sB hb; (try clear hb)))
     go_meet
     case rel => exact ⟨_, (false), cA, H', ⟨by have := HJ3.out; first | omega | exact Nat.le_refl _⟩, ⟨bK BK758⟩, ⟨bK BK759⟩, ⟨bK BK760⟩, ⟨bK BK765⟩, ⟨bG⟩⟩
    replace c174 := Bool.eq_false_iff.mpr c174
    subst c174
    have H1 : (if a0_0.toList = a1_0.toList then ((coord_Less.f kj3 a0_0 a0_1 a0_2 a0_0 a0_1 a1_2).bind fun t773 => (if t773 = true then (newellaw09_CoordOrder.j1 kj3 true) else ((coord_Less.f kj3 a0_0 a0_1 a1_2 a0_0 a0_1 a0_2).bind fun t774 => (if t774 = true then (newellaw09_CoordOrder.j1 kj3 true) else (newellaw09_CoordOrder.j1 kj3 (a0_2.toList == a1_2.toList)))))) else (if (true == (Op.bytesLess a0_0.toList a1_0.toList)) = true then ((coord_Less.f kj3 a0_0 a0_1 a0_2 a0_0 a0_1 a1_2).bind fun t775 => (if t775 = true then (newellaw09_CoordOrder.j1 kj3 true) else ((coord_Less.f kj3 a0_0 a0_1 a1_2 a0_0 a0_1 a0_2).bind fun t776 => (if t776 = true then (newellaw09_CoordOrder.j1 kj3 true) else (newellaw09_CoordOrder.j1 kj3 (a0_2.toList == a1_2.toList)))))) else (newellaw09_CoordOrder.j1 kj3 false))) = some r := by rw [if_neg (show ¬ (false = true) by decide)] at H; exact H
    clear H
    have H := H1
    clear H1
    by_cases c181 : a0_0.toList = a1_0.toList
    ·rw [if_pos c181] at H
     obtain ⟨c181b0, c181b1⟩ := eqT c181
     clear c181
     replace H := bi H
     obtain ⟨t773, A1820, H⟩ := H
     try dsimp only at H
     have A182 := Aside0.mk A1820
     clear A1820
     by_cases c183 : t773 = true
     ·subst c183
      have H1 : (newellaw09_CoordOrder.j1 kj3 true) = some r := by rw [if_pos rfl] at H; exact H
      clear H
      have H := H1
      clear H1
      have H' := Aside0.mk H
      clear H
      go_wp2_with (first | ((with_reducible refine gate_callee (f := 24) rfl ?_); refine gl (some 41) Tryd.func24 #[] ?_; (with_reducible refine (newellaw09_awake.calls kj3  true _ (gS HG) A45.out).mono ?_); rintro e w184 ⟨rfl, hb⟩; refine ⟨_, rfl, ?_⟩; replace BK758 := Aside0.mk (blk_below (g := gb758) (o := .cells #[.string a0_0, .string a0_1, .string a0_2] 32 (0, 0)) (by (with_reducible repeat (first | refine blk_drewN ?_ _ | refine blk_drew ?_ | refine blk_alloc ?_ _)); refine blk_far ?_ NB758_765.out _; (with_reducible repeat (first | refine blk_drewN ?_ _ | refine blk_drew ?_ | refine blk_alloc ?_ _)); refine blk_far ?_ NB758_765.out _; (with_reducible repeat (first | refine blk_drewN ?_ _ | refine blk_drew ?_ | refine blk_alloc ?_ _)); refine blk_far ?_ NB758_765.out _; (with_reducible repeat (first | refine blk_drewN ?_ _ | refine blk_drew ?_ | refine blk_alloc ?_ _)); refine blk_far ?_ NB758_765.out _; (with_reducible repeat (first | refine blk_drewN ?_ _ | refine blk_drew ?_ | refine blk_alloc ?_ _)); exact BK758.out) hb); replace BK759 := Aside0.mk (blk_below (g := gb759) (o := .cells #[.string a1_0, .string a1_1, .string a1_2] 32 (0, 0)) (by (with_reducible repeat (first | refine blk_drewN ?_ _ | refine blk_drew ?_ | refine blk_alloc ?_ _)); refine blk_far ?_ NB759_765.out _; (with_reducible repeat (first | refine blk_drewN ?_ _ | refine blk_drew ?_ | refine blk_alloc ?_ _)); refine blk_far ?_ NB759_765.out _; (with_reducible repeat (first | refine blk_drewN ?_ _ | refine blk_drew ?_ | refine blk_alloc ?_ _)); refine blk_far ?_ NB759_765.out _; (with_reducible repeat (first | refine blk_drewN ?_ _ | refine blk_drew ?_ | refine blk_alloc ?_ _)); refine blk_far ?_ NB759_765.out _; (with_reducible repeat (first | refine blk_drewN ?_ _ | refine blk_drew ?_ | refine blk_alloc ?_ _)); exact BK759.out) hb); replace BK760 := Aside0.mk (blk_below (g := gb760) (o := .cells #[.string a2_0, .string a2_1, .string a2_2] 32 (0, 0)) (by (with_reducible repeat (first | refine blk_drewN ?_ _ | refine blk_drew ?_ | refine blk_alloc ?_ _)); refine blk_far ?_ NB760_765.out _; (with_reducible repeat (first | refine blk_drewN ?_ _ | refine blk_drew ?_ | refine blk_alloc ?_ _)); refine blk_far ?_ NB760_765.out _; (with_reducible repeat (first | refine blk_drewN ?_ _ | refine blk_drew ?_ | refine blk_alloc ?_ _)); refine blk_far ?_ NB760_765.out _; (with_reducible repeat (first | refine blk_drewN ?_ _ | refine blk_drew ?_ | refine blk_alloc ?_ _)); refine blk_far ?_ NB760_765.out _; (with_reducible repeat (first | refine blk_drewN ?_ _ | refine blk_drew ?_ | refine blk_alloc ?_ _)); exact BK760.out) hb); replace BK765 := Aside0.mk (blk_below (g := gb765) (o := .cells #[.string a0_0, .string a0_1, .string a1_2] 32 (0, 0)) (bP BK765) hb); replace HB := sB hb; (try clear hb); have hnb185 := NB758_759.out; have hnc185 := NB759_758.out; have hnb186 := NB758_760.out; have hnc186 := NB760_758.out; have hnb187 := NB758_765.out; have hnc187 := NB765_758.out; have hcz188_0 : w184.cell? ⟨gb758, 0, none⟩ = some (.string a0_0) := (blk_cell BK758.out 0).trans rfl; have hcz188_1 : w184.cell? ⟨gb758, 1, none⟩ = some (.string a0_1) := (blk_cell BK758.out 1).trans rfl; have hcz188_2 : w184.cell? ⟨gb758, 2, none⟩ = some (.string a0_2) := (blk_cell BK758.out 2).trans rfl; have hfz188_0 := blk_frozen BK758.out 0; have hfz188_1 := blk_frozen BK758.out 1; have hfz188_2 := blk_frozen BK758.out 2) | (go_at_call 41; (with_reducible refine (coord_Less.calls kj3 a0_0 a0_1 a0_2 a0_0 a0_1 a0_2 false _ (gS HG) A173.out).mono ?_); rintro e w189 ⟨rfl, hb⟩; replace BK758 := kB BK758 hb; replace BK759 := kB BK759 hb; replace BK760 := kB BK760 hb; replace BK765 := kB BK765 hb; replace HB := sB hb; (try clear hb); have hcz190_0 : w189.cell? ⟨gb758, 0, none⟩ = some (.string a0_0) := (blk_cell BK758.out 0).trans rfl; have hcz190_1 : w189.cell? ⟨gb758, 1, none⟩ = some (.string a0_1) := (blk_cell BK758.out 1).trans rfl; have hcz190_2 : w189.cell? ⟨gb758, 2, none⟩ = some (.string a0_2) := (blk_cell BK758.out 2).trans rfl; have hfz190_0 := blk_frozen BK758.out 0; have hfz190_1 := blk_frozen BK758.out 1; have hfz190_2 := blk_frozen BK758.out 2; have hnb191 := NB759_760.out; have hnc191 := NB760_759.out; have hnb192 := NB759_765.out; have hnc192 := NB765_759.out; have hcz193_0 : w189.cell? ⟨gb759, 0, none⟩ = some (.string a1_0) := (blk_cell BK759.out 0).trans rfl; have hcz193_1 : w189.cell? ⟨gb759, 1, none⟩ = some (.string a1_1) := (blk_cell BK759.out 1).trans rfl; have hcz193_2 : w189.cell? ⟨gb759, 2, none⟩ = some (.string a1_2) := (blk_cell BK759.out 2).trans rfl; have hfz193_0 := blk_frozen BK759.out 0; have hfz193_1 := blk_frozen BK759.out 1; have hfz193_2 := blk_frozen BK759.out 2; have hnb194 := NB765_760.out; have hnc194 := NB760_765.out; have hcz195_0 : w189.cell? ⟨gb765, 0, none⟩ = some (.string a0_0) := (blk_cell BK765.out 0).trans rfl; have hcz195_1 : w189.cell? ⟨gb765, 1, none⟩ = some (.string a0_1) := (blk_cell BK765.out 1).trans rfl; have hcz195_2 : w189.cell? ⟨gb765, 2, none⟩ = some (.string a1_2) := (blk_cell BK765.out 2).trans rfl; have hfz195_0 := blk_frozen BK765.out 0; have hfz195_1 := blk_frozen BK765.out 1; have hfz195_2 := blk_frozen BK765.out 2) | (go_at_call 41; (with_reducible refine (coord_Less.calls kj3 a0_0 a0_1 a0_2 a0_0 a0_1 a1_2 true _ (gS HG) A182.out).mono ?_); rintro e w196 ⟨rfl, hb⟩; replace BK758 := kB BK758 hb; replace BK759 := kB BK759 hb; replace BK760 := kB BK760 hb; replace BK765 := kB BK765 hb; replace HB := sB hb; (try clear hb)))
      go_meet
      case rel => exact ⟨_, (true), cA, H', ⟨by have := HJ3.out; first | omega | exact Nat.le_refl _⟩, ⟨bK BK758⟩, ⟨bK BK759⟩, ⟨bK BK760⟩, ⟨bK BK765⟩, ⟨bG⟩⟩
     replace c183 := Bool.eq_false_iff.mpr c183
     subst c183
     have H1 : ((coord_Less.f kj3 a0_0 a0_1 a1_2 a0_0 a0_1 a0_2).bind fun t774 => (if t774 = true then (newellaw09_CoordOrder.j1 kj3 true) else (newellaw09_CoordOrder.j1 kj3 (a0_2.toList == a1_2.toList)))) = some r := by rw [if_neg (show ¬ (false = true) by decide)] at H; exact H
     clear H
     have H := H1
     clear H1
     replace H := bi H
     obtain ⟨t774, A1970, H⟩ := H
     try dsimp only at H
     have A197 := Aside0.mk A1970
     clear A1970
     by_cases c198 : t774 = true
     ·subst c198
      have H1 : (newellaw09_CoordOrder.j1 kj3 true) = some r := by rw [if_pos rfl] at H; exact H
      clear H
      have H := H1
      clear H1
      have H' := Aside0.mk H
      clear H
      go_wp2_with (first | ((with_reducible refine gate_callee (f := 24) rfl ?_); refine gl (some 41) Tryd.func24 #[] ?_; (with_reducible refine (newellaw09_awake.calls kj3  true _ (gS HG) A45.out).mono ?_); rintro e w199 ⟨rfl, hb⟩; refine ⟨_, rfl, ?_⟩; replace BK758 := Aside0.mk (blk_below (g := gb758) (o := .cells #[.string a0_0, .string a0_1, .string a0_2] 32 (0, 0)) (by (with_reducible repeat (first | refine blk_drewN ?_ _ | refine blk_drew ?_ | refine blk_alloc ?_ _)); refine blk_far ?_ NB758_765.out _; (with_reducible repeat (first | refine blk_drewN ?_ _ | refine blk_drew ?_ | refine blk_alloc ?_ _)); refine blk_far ?_ NB758_765.out _; (with_reducible repeat (first | refine blk_drewN ?_ _ | refine blk_drew ?_ | refine blk_alloc ?_ _)); refine blk_far ?_ NB758_765.out _; (with_reducible repeat (first | refine blk_drewN ?_ _ | refine blk_drew ?_ | refine blk_alloc ?_ _)); refine blk_far ?_ NB758_765.out _; (with_reducible repeat (first | refine blk_drewN ?_ _ | refine blk_drew ?_ | refine blk_alloc ?_ _)); exact BK758.out) hb); replace BK759 := Aside0.mk (blk_below (g := gb759) (o := .cells #[.string a1_0, .string a1_1, .string a1_2] 32 (0, 0)) (by (with_reducible repeat (first | refine blk_drewN ?_ _ | refine blk_drew ?_ | refine blk_alloc ?_ _)); refine blk_far ?_ NB759_765.out _; (with_reducible repeat (first | refine blk_drewN ?_ _ | refine blk_drew ?_ | refine blk_alloc ?_ _)); refine blk_far ?_ NB759_765.out _; (with_reducible repeat (first | refine blk_drewN ?_ _ | refine blk_drew ?_ | refine blk_alloc ?_ _)); refine blk_far ?_ NB759_765.out _; (with_reducible repeat (first | refine blk_drewN ?_ _ | refine blk_drew ?_ | refine blk_alloc ?_ _)); refine blk_far ?_ NB759_765.out _; (with_reducible repeat (first | refine blk_drewN ?_ _ | refine blk_drew ?_ | refine blk_alloc ?_ _)); exact BK759.out) hb); replace BK760 := Aside0.mk (blk_below (g := gb760) (o := .cells #[.string a2_0, .string a2_1, .string a2_2] 32 (0, 0)) (by (with_reducible repeat (first | refine blk_drewN ?_ _ | refine blk_drew ?_ | refine blk_alloc ?_ _)); refine blk_far ?_ NB760_765.out _; (with_reducible repeat (first | refine blk_drewN ?_ _ | refine blk_drew ?_ | refine blk_alloc ?_ _)); refine blk_far ?_ NB760_765.out _; (with_reducible repeat (first | refine blk_drewN ?_ _ | refine blk_drew ?_ | refine blk_alloc ?_ _)); refine blk_far ?_ NB760_765.out _; (with_reducible repeat (first | refine blk_drewN ?_ _ | refine blk_drew ?_ | refine blk_alloc ?_ _)); refine blk_far ?_ NB760_765.out _; (with_reducible repeat (first | refine blk_drewN ?_ _ | refine blk_drew ?_ | refine blk_alloc ?_ _)); exact BK760.out) hb); replace BK765 := Aside0.mk (blk_below (g := gb765) (o := .cells #[.string a0_0, .string a0_1, .string a1_2] 32 (0, 0)) (bP BK765) hb); replace HB := sB hb; (try clear hb); have hnb200 := NB758_759.out; have hnc200 := NB759_758.out; have hnb201 := NB758_760.out; have hnc201 := NB760_758.out; have hnb202 := NB758_765.out; have hnc202 := NB765_758.out; have hcz203_0 : w199.cell? ⟨gb758, 0, none⟩ = some (.string a0_0) := (blk_cell BK758.out 0).trans rfl; have hcz203_1 : w199.cell? ⟨gb758, 1, none⟩ = some (.string a0_1) := (blk_cell BK758.out 1).trans rfl; have hcz203_2 : w199.cell? ⟨gb758, 2, none⟩ = some (.string a0_2) := (blk_cell BK758.out 2).trans rfl; have hfz203_0 := blk_frozen BK758.out 0; have hfz203_1 := blk_frozen BK758.out 1; have hfz203_2 := blk_frozen BK758.out 2) | (go_at_call 41; (with_reducible refine (coord_Less.calls kj3 a0_0 a0_1 a0_2 a0_0 a0_1 a0_2 false _ (gS HG) A173.out).mono ?_); rintro e w204 ⟨rfl, hb⟩; replace BK758 := kB BK758 hb; replace BK759 := kB BK759 hb; replace BK760 := kB BK760 hb; replace BK765 := kB BK765 hb; replace HB := sB hb; (try clear hb); have hcz205_0 : w204.cell? ⟨gb758, 0, none⟩ = some (.string a0_0) := (blk_cell BK758.out 0).trans rfl; have hcz205_1 : w204.cell? ⟨gb758, 1, none⟩ = some (.string a0_1) := (blk_cell BK758.out 1).trans rfl; have hcz205_2 : w204.cell? ⟨gb758, 2, none⟩ = some (.string a0_2) := (blk_cell BK758.out 2).trans rfl; have hfz205_0 := blk_frozen BK758.out 0; have hfz205_1 := blk_frozen BK758.out 1; have hfz205_2 := blk_frozen BK758.out 2; have hnb206 := NB759_760.out; have hnc206 := NB760_759.out; have hnb207 := NB759_765.out; have hnc207 := NB765_759.out; have hcz208_0 : w204.cell? ⟨gb759, 0, none⟩ = some (.string a1_0) := (blk_cell BK759.out 0).trans rfl; have hcz208_1 : w204.cell? ⟨gb759, 1, none⟩ = some (.string a1_1) := (blk_cell BK759.out 1).trans rfl; have hcz208_2 : w204.cell? ⟨gb759, 2, none⟩ = some (.string a1_2) := (blk_cell BK759.out 2).trans rfl; have hfz208_0 := blk_frozen BK759.out 0; have hfz208_1 := blk_frozen BK759.out 1; have hfz208_2 := blk_frozen BK759.out 2; have hnb209 := NB765_760.out; have hnc209 := NB760_765.out; have hcz210_0 : w204.cell? ⟨gb765, 0, none⟩ = some (.string a0_0) := (blk_cell BK765.out 0).trans rfl; have hcz210_1 : w204.cell? ⟨gb765, 1, none⟩ = some (.string a0_1) := (blk_cell BK765.out 1).trans rfl; have hcz210_2 : w204.cell? ⟨gb765, 2, none⟩ = some (.string a1_2) := (blk_cell BK765.out 2).trans rfl; have hfz210_0 := blk_frozen BK765.out 0; have hfz210_1 := blk_frozen BK765.out 1; have hfz210_2 := blk_frozen BK765.out 2) | (go_at_call 41; (with_reducible refine (coord_Less.calls kj3 a0_0 a0_1 a0_2 a0_0 a0_1 a1_2 false _ (gS HG) A182.out).mono ?_); rintro e w211 ⟨rfl, hb⟩; replace BK758 := kB BK758 hb; replace BK759 := kB BK759 hb; replace BK760 := kB BK760 hb; replace BK765 := kB BK765 hb; replace HB := sB hb; (try clear hb); have hcz212_0 : w211.cell? ⟨gb765, 0, none⟩ = some (.string a0_0) := (blk_cell BK765.out 0).trans rfl; have hcz212_1 : w211.cell? ⟨gb765, 1, none⟩ = some (.string a0_1) := (blk_cell BK765.out 1).trans rfl; have hcz212_2 : w211.cell? ⟨gb765, 2, none⟩ = some (.string a1_2) := (blk_cell BK765.out 2).trans rfl; have hfz212_0 := blk_frozen BK765.out 0; have hfz212_1 := blk_frozen BK765.out 1; have hfz212_2 := blk_frozen BK765.out 2; have hcz213_0 : w211.cell? ⟨gb758, 0, none⟩ = some (.string a0_0) := (blk_cell BK758.out 0).trans rfl; have hcz213_1 : w211.cell? ⟨gb758, 1, none⟩ = some (.string a0_1) := (blk_cell BK758.out 1).trans rfl; have hcz213_2 : w211.cell? ⟨gb758, 2, none⟩ = some (.string a0_2) := (blk_cell BK758.out 2).trans rfl; have hfz213_0 := blk_frozen BK758.out 0; have hfz213_1 := blk_frozen BK758.out 1; have hfz213_2 := blk_frozen BK758.out 2) | (go_at_call 41; (with_reducible refine (coord_Less.calls kj3 a0_0 a0_1 a1_2 a0_0 a0_1 a0_2 true _ (gS HG) A197.out).mono ?_); rintro e w214 ⟨rfl, hb⟩; replace BK758 := kB BK758 hb; replace BK759 := kB BK759 hb; replace BK760 := kB BK760 hb; replace BK765 := kB BK765 hb; replace HB := sB hb; (try clear hb)))
      go_meet
      case rel => exact ⟨_, (true), cA, H', ⟨by have := HJ3.out; first | omega | exact Nat.le_refl _⟩, ⟨bK BK758⟩, ⟨bK BK759⟩, ⟨bK BK760⟩, ⟨bK BK765⟩, ⟨bG⟩⟩
     replace c198 := Bool.eq_false_iff.mpr c198
     subst c198
     have H1 : (newellaw09_CoordOrder.j1 kj3 (a0_2.toList == a1_2.toList)) = some r := by rw [if_neg (show ¬ (false = true) by decide)] at H; exact H
     clear H
     have H := H1
     clear H1
     have H' := Aside0.mk H
     clear H
     go_wp2_with (first | ((with_reducible refine gate_callee (f := 24) rfl ?_); refine gl (some 41) Tryd.func24 #[] ?_; (with_reducible refine (newellaw09_awake.calls kj3  true _ (gS HG) A45.out).mono ?_); rintro e w215 ⟨rfl, hb⟩; refine ⟨_, rfl, ?_⟩; replace BK758 := Aside0.mk (blk_below (g := gb758) (o := .cells #[.string a0_0, .string a0_1, .string a0_2] 32 (0, 0)) (by (with_reducible repeat (first | refine blk_drewN ?_ _ | refine blk_drew ?_ | refine blk_alloc ?_ _)); refine blk_far ?_ NB758_765.out _; (with_reducible repeat (first | refine blk_drewN ?_ _ | refine blk_drew ?_ | refine blk_alloc ?_ _)); refine blk_far ?_ NB758_765.out _; (with_reducible repeat (first | refine blk_drewN ?_ _ | refine blk_drew ?_ | refine blk_alloc ?_ _)); refine blk_far ?_ NB758_765.out _; (with_reducible repeat (first | refine blk_drewN ?_ _ | refine blk_drew ?_ | refine blk_alloc ?_ _)); refine blk_far ?_ NB758_765.out _; (with_reducible repeat (first | refine blk_drewN ?_ _ | refine blk_drew ?_ | refine blk_alloc ?_ _)); exact BK758.out) hb); replace BK759 := Aside0.mk (blk_below (g := gb759) (o := .cells #[.string a1_0, .string a1_1, .string a1_2] 32 (0, 0)) (by (with_reducible repeat (first | refine blk_drewN ?_ _ | refine blk_drew ?_ | refine blk_alloc ?_ _)); refine blk_far ?_ NB759_765.out _; (with_reducible repeat (first | refine blk_drewN ?_ _ | refine blk_drew ?_ | refine blk_alloc ?_ _)); refine blk_far ?_ NB759_765.out _; (with_reducible repeat (first | refine blk_drewN ?_ _ | refine blk_drew ?_ | refine blk_alloc ?_ _)); refine blk_far ?_ NB759_765.out _; (with_reducible repeat (first | refine blk_drewN ?_ _ | refine blk_drew ?_ | refine blk_alloc ?_ _)); refine blk_far ?_ NB759_765.out _; (with_reducible repeat (first | refine blk_drewN ?_ _ | refine blk_drew ?_ | refine blk_alloc ?_ _)); exact BK759.out) hb); replace BK760 := Aside0.mk (blk_below (g := gb760) (o := .cells #[.string a2_0, .string a2_1, .string a2_2] 32 (0, 0)) (by (with_reducible repeat (first | refine blk_drewN ?_ _ | refine blk_drew ?_ | refine blk_alloc ?_ _)); refine blk_far ?_ NB760_765.out _; (with_reducible repeat (first | refine blk_drewN ?_ _ | refine blk_drew ?_ | refine blk_alloc ?_ _)); refine blk_far ?_ NB760_765.out _; (with_reducible repeat (first | refine blk_drewN ?_ _ | refine blk_drew ?_ | refine blk_alloc ?_ _)); refine blk_far ?_ NB760_765.out _; (with_reducible repeat (first | refine blk_drewN ?_ _ | refine blk_drew ?_ | refine blk_alloc ?_ _)); refine blk_far ?_ NB760_765.out _; (with_reducible repeat (first | refine blk_drewN ?_ _ | refine blk_drew ?_ | refine blk_alloc ?_ _)); exact BK760.out) hb); replace BK765 := Aside0.mk (blk_below (g := gb765) (o := .cells #[.string a0_0, .string a0_1, .string a1_2] 32 (0, 0)) (bP BK765) hb); replace HB := sB hb; (try clear hb); have hnb216 := NB758_759.out; have hnc216 := NB759_758.out; have hnb217 := NB758_760.out; have hnc217 := NB760_758.out; have hnb218 := NB758_765.out; have hnc218 := NB765_758.out; have hcz219_0 : w215.cell? ⟨gb758, 0, none⟩ = some (.string a0_0) := (blk_cell BK758.out 0).trans rfl; have hcz219_1 : w215.cell? ⟨gb758, 1, none⟩ = some (.string a0_1) := (blk_cell BK758.out 1).trans rfl; have hcz219_2 : w215.cell? ⟨gb758, 2, none⟩ = some (.string a0_2) := (blk_cell BK758.out 2).trans rfl; have hfz219_0 := blk_frozen BK758.out 0; have hfz219_1 := blk_frozen BK758.out 1; have hfz219_2 := blk_frozen BK758.out 2) | (go_at_call 41; (with_reducible refine (coord_Less.calls kj3 a0_0 a0_1 a0_2 a0_0 a0_1 a0_2 false _ (gS HG) A173.out).mono ?_); rintro e w220 ⟨rfl, hb⟩; replace BK758 := kB BK758 hb; replace BK759 := kB BK759 hb; replace BK760 := kB BK760 hb; replace BK765 := kB BK765 hb; replace HB := sB hb; (try clear hb); have hcz221_0 : w220.cell? ⟨gb758, 0, none⟩ = some (.string a0_0) := (blk_cell BK758.out 0).trans rfl; have hcz221_1 : w220.cell? ⟨gb758, 1, none⟩ = some (.string a0_1) := (blk_cell BK758.out 1).trans rfl; have hcz221_2 : w220.cell? ⟨gb758, 2, none⟩ = some (.string a0_2) := (blk_cell BK758.out 2).trans rfl; have hfz221_0 := blk_frozen BK758.out 0; have hfz221_1 := blk_frozen BK758.out 1; have hfz221_2 := blk_frozen BK758.out 2; have hnb222 := NB759_760.out; have hnc222 := NB760_759.out; have hnb223 := NB759_765.out; have hnc223 := NB765_759.out; have hcz224_0 : w220.cell? ⟨gb759, 0, none⟩ = some (.string a1_0) := (blk_cell BK759.out 0).trans rfl; have hcz224_1 : w220.cell? ⟨gb759, 1, none⟩ = some (.string a1_1) := (blk_cell BK759.out 1).trans rfl; have hcz224_2 : w220.cell? ⟨gb759, 2, none⟩ = some (.string a1_2) := (blk_cell BK759.out 2).trans rfl; have hfz224_0 := blk_frozen BK759.out 0; have hfz224_1 := blk_frozen BK759.out 1; have hfz224_2 := blk_frozen BK759.out 2; have hnb225 := NB765_760.out; have hnc225 := NB760_765.out; have hcz226_0 : w220.cell? ⟨gb765, 0, none⟩ = some (.string a0_0) := (blk_cell BK765.out 0).trans rfl; have hcz226_1 : w220.cell? ⟨gb765, 1, none⟩ = some (.string a0_1) := (blk_cell BK765.out 1).trans rfl; have hcz226_2 : w220.cell? ⟨gb765, 2, none⟩ = some (.string a1_2) := (blk_cell BK765.out 2).trans rfl; have hfz226_0 := blk_frozen BK765.out 0; have hfz226_1 := blk_frozen BK765.out 1; have hfz226_2 := blk_frozen BK765.out 2) | (go_at_call 41; (with_reducible refine (coord_Less.calls kj3 a0_0 a0_1 a0_2 a0_0 a0_1 a1_2 false _ (gS HG) A182.out).mono ?_); rintro e w227 ⟨rfl, hb⟩; replace BK758 := kB BK758 hb; replace BK759 := kB BK759 hb; replace BK760 := kB BK760 hb; replace BK765 := kB BK765 hb; replace HB := sB hb; (try clear hb); have hcz228_0 : w227.cell? ⟨gb765, 0, none⟩ = some (.string a0_0) := (blk_cell BK765.out 0).trans rfl; have hcz228_1 : w227.cell? ⟨gb765, 1, none⟩ = some (.string a0_1) := (blk_cell BK765.out 1).trans rfl; have hcz228_2 : w227.cell? ⟨gb765, 2, none⟩ = some (.string a1_2) := (blk_cell BK765.out 2).trans rfl; have hfz228_0 := blk_frozen BK765.out 0; have hfz228_1 := blk_frozen BK765.out 1; have hfz228_2 := blk_frozen BK765.out 2; have hcz229_0 : w227.cell? ⟨gb758, 0, none⟩ = some (.string a0_0) := (blk_cell BK758.out 0).trans rfl; have hcz229_1 : w227.cell? ⟨gb758, 1, none⟩ = some (.string a0_1) := (blk_cell BK758.out 1).trans rfl; have hcz229_2 : w227.cell? ⟨gb758, 2, none⟩ = some (.string a0_2) := (blk_cell BK758.out 2).trans rfl; have hfz229_0 := blk_frozen BK758.out 0; have hfz229_1 := blk_frozen BK758.out 1; have hfz229_2 := blk_frozen BK758.out 2) | (go_at_call 41; (with_reducible refine (coord_Less.calls kj3 a0_0 a0_1 a1_2 a0_0 a0_1 a0_2 false _ (gS HG) A197.out).mono ?_); rintro e w230 ⟨rfl, hb⟩; replace BK758 := kB BK758 hb; replace BK759 := kB BK759 hb; replace BK760 := kB BK760 hb; replace BK765 := kB BK765 hb; replace HB := sB hb; (try clear hb); have hcz231_0 : w230.cell? ⟨gb758, 0, none⟩ = some (.string a0_0) := (blk_cell BK758.out 0).trans rfl; have hcz231_1 : w230.cell? ⟨gb758, 1, none⟩ = some (.string a0_1) := (blk_cell BK758.out 1).trans rfl; have hcz231_2 : w230.cell? ⟨gb758, 2, none⟩ = some (.string a0_2) := (blk_cell BK758.out 2).trans rfl; have hfz231_0 := blk_frozen BK758.out 0; have hfz231_1 := blk_frozen BK758.out 1; have hfz231_2 := blk_frozen BK758.out 2; have hcz232_0 : w230.cell? ⟨gb759, 0, none⟩ = some (.string a1_0) := (blk_cell BK759.out 0).trans rfl; have hcz232_1 : w230.cell? ⟨gb759, 1, none⟩ = some (.string a1_1) := (blk_cell BK759.out 1).trans rfl; have hcz232_2 : w230.cell? ⟨gb759, 2, none⟩ = some (.string a1_2) := (blk_cell BK759.out 2).trans rfl; have hfz232_0 := blk_frozen BK759.out 0; have hfz232_1 := blk_frozen BK759.out 1; have hfz232_2 := blk_frozen BK759.out 2))
     go_meet
     case rel => exact ⟨_, ((a0_2.toList == a1_2.toList)), cA, H', ⟨by have := HJ3.out; first | omega | exact Nat.le_refl _⟩, ⟨bK BK758⟩, ⟨bK BK759⟩, ⟨bK BK760⟩, ⟨bK BK765⟩, ⟨bG⟩⟩
    rw [if_neg c181] at H
    obtain ⟨c181b0, c181b1⟩ := eqF c181
    by_cases c233 : (true == (Op.bytesLess a0_0.toList a1_0.toList)) = true
    rotate_left
    ·rw [if_neg c233] at H
     have c233b0 : (true == (Op.bytesLess a0_0.toList a1_0.toList)) = false := by simpa using c233
     (try (have c233b1 : decide (true = (Op.bytesLess a0_0.toList a1_0.toList)) = false := by simpa using c233))
     (try (have c233b2 : (true == (Op.bytesLess a0_0.toList a1_0.toList)) = false := by simpa using c233))
     (try (have c233b3 : ¬ (true = (Op.bytesLess a0_0.toList a1_0.toList)) := by simpa using c233))
     clear c233
     have H' := Aside0.mk H
     clear H
     go_wp2_with (first | ((with_reducible refine gate_callee (f := 24) rfl ?_); refine gl (some 41) Tryd.func24 #[] ?_; (with_reducible refine (newellaw09_awake.calls kj3  true _ (gS HG) A45.out).mono ?_); rintro e w285 ⟨rfl, hb⟩; refine ⟨_, rfl, ?_⟩; replace BK758 := Aside0.mk (blk_below (g := gb758) (o := .cells #[.string a0_0, .string a0_1, .string a0_2] 32 (0, 0)) (by (with_reducible repeat (first | refine blk_drewN ?_ _ | refine blk_drew ?_ | refine blk_alloc ?_ _)); refine blk_far ?_ NB758_765.out _; (with_reducible repeat (first | refine blk_drewN ?_ _ | refine blk_drew ?_ | refine blk_alloc ?_ _)); refine blk_far ?_ NB758_765.out _; (with_reducible repeat (first | refine blk_drewN ?_ _ | refine blk_drew ?_ | refine blk_alloc ?_ _)); refine blk_far ?_ NB758_765.out _; (with_reducible repeat (first | refine blk_drewN ?_ _ | refine blk_drew ?_ | refine blk_alloc ?_ _)); refine blk_far ?_ NB758_765.out _; (with_reducible repeat (first | refine blk_drewN ?_ _ | refine blk_drew ?_ | refine blk_alloc ?_ _)); exact BK758.out) hb); replace BK759 := Aside0.mk (blk_below (g := gb759) (o := .cells #[.string a1_0, .string a1_1, .string a1_2] 32 (0, 0)) (by (with_reducible repeat (first | refine blk_drewN ?_ _ | refine blk_drew ?_ | refine blk_alloc ?_ _)); refine blk_far ?_ NB759_765.out _; (with_reducible repeat (first | refine blk_drewN ?_ _ | refine blk_drew ?_ | refine blk_alloc ?_ _)); refine blk_far ?_ NB759_765.out _; (with_reducible repeat (first | refine blk_drewN ?_ _ | refine blk_drew ?_ | refine blk_alloc ?_ _)); refine blk_far ?_ NB759_765.out _; (with_reducible repeat (first | refine blk_drewN ?_ _ | refine blk_drew ?_ | refine blk_alloc ?_ _)); refine blk_far ?_ NB759_765.out _; (with_reducible repeat (first | refine blk_drewN ?_ _ | refine blk_drew ?_ | refine blk_alloc ?_ _)); exact BK759.out) hb); replace BK760 := Aside0.mk (blk_below (g := gb760) (o := .cells #[.string a2_0, .string a2_1, .string a2_2] 32 (0, 0)) (by (with_reducible repeat (first | refine blk_drewN ?_ _ | refine blk_drew ?_ | refine blk_alloc ?_ _)); refine blk_far ?_ NB760_765.out _; (with_reducible repeat (first | refine blk_drewN ?_ _ | refine blk_drew ?_ | refine blk_alloc ?_ _)); refine blk_far ?_ NB760_765.out _; (with_reducible repeat (first | refine blk_drewN ?_ _ | refine blk_drew ?_ | refine blk_alloc ?_ _)); refine blk_far ?_ NB760_765.out _; (with_reducible repeat (first | refine blk_drewN ?_ _ | refine blk_drew ?_ | refine blk_alloc ?_ _)); refine blk_far ?_ NB760_765.out _; (with_reducible repeat (first | refine blk_drewN ?_ _ | refine blk_drew ?_ | refine blk_alloc ?_ _)); exact BK760.out) hb); replace BK765 := Aside0.mk (blk_below (g := gb765) (o := .cells #[.string a0_0, .string a0_1, .string a1_2] 32 (0, 0)) (bP BK765) hb); replace HB := sB hb; (try clear hb); have hnb286 := NB758_759.out; have hnc286 := NB759_758.out; have hnb287 := NB758_760.out; have hnc287 := NB760_758.out; have hnb288 := NB758_765.out; have hnc288 := NB765_758.out; have hcz289_0 : w285.cell? ⟨gb758, 0, none⟩ = some (.string a0_0) := (blk_cell BK758.out 0).trans rfl; have hcz289_1 : w285.cell? ⟨gb758, 1, none⟩ = some (.string a0_1) := (blk_cell BK758.out 1).trans rfl; have hcz289_2 : w285.cell? ⟨gb758, 2, none⟩ = some (.string a0_2) := (blk_cell BK758.out 2).trans rfl; have hfz289_0 := blk_frozen BK758.out 0; have hfz289_1 := blk_frozen BK758.out 1; have hfz289_2 := blk_frozen BK758.out 2) | (go_at_call 41; (with_reducible refine (coord_Less.calls kj3 a0_0 a0_1 a0_2 a0_0 a0_1 a0_2 false _ (gS HG) A173.out).mono ?_); rintro e w290 ⟨rfl, hb⟩; replace BK758 := kB BK758 hb; replace BK759 := kB BK759 hb; replace BK760 := kB BK760 hb; replace BK765 := kB BK765 hb; replace HB := sB hb; (try clear hb); have hcz291_0 : w290.cell? ⟨gb758, 0, none⟩ = some (.string a0_0) := (blk_cell BK758.out 0).trans rfl; have hcz291_1 : w290.cell? ⟨gb758, 1, none⟩ = some (.string a0_1) := (blk_cell BK758.out 1).trans rfl; have hcz291_2 : w290.cell? ⟨gb758, 2, none⟩ = some (.string a0_2) := (blk_cell BK758.out 2).trans rfl; have hfz291_0 := blk_frozen BK758.out 0; have hfz291_1 := blk_frozen BK758.out 1; have hfz291_2 := blk_frozen BK758.out 2; have hnb292 := NB759_760.out; have hnc292 := NB760_759.out; have hnb293 := NB759_765.out; have hnc293 := NB765_759.out; have hcz294_0 : w290.cell? ⟨gb759, 0, none⟩ = some (.string a1_0) := (blk_cell BK759.out 0).trans rfl; have hcz294_1 : w290.cell? ⟨gb759, 1, none⟩ = some (.string a1_1) := (blk_cell BK759.out 1).trans rfl; have hcz294_2 : w290.cell? ⟨gb759, 2, none⟩ = some (.string a1_2) := (blk_cell BK759.out 2).trans rfl; have hfz294_0 := blk_frozen BK759.out 0; have hfz294_1 := blk_frozen BK759.out 1; have hfz294_2 := blk_frozen BK759.out 2))
     go_meet
     case rel => exact ⟨_, (false), cA, H', ⟨by have := HJ3.out; first | omega | exact Nat.le_refl _⟩, ⟨bK BK758⟩, ⟨bK BK759⟩, ⟨bK BK760⟩, ⟨bK BK765⟩, ⟨bG⟩⟩
    rw [if_pos c233] at H
    have c233b0 : (true == (Op.bytesLess a0_0.toList a1_0.toList)) = true := c233
    (try (have c233b1 : decide (true = (Op.bytesLess a0_0.toList a1_0.toList)) = true := by simpa using c233))
    (try (have c233b2 : (true == (Op.bytesLess a0_0.toList a1_0.toList)) = true := by simpa using c233))
    clear c233
    replace H := bi H
    obtain ⟨t775, A2340, H⟩ := H
    try dsimp only at H
    have A234 := Aside0.mk A2340
    clear A2340
    by_cases c235 : t775 = true
    ·subst c235
     have H1 : (newellaw09_CoordOrder.j1 kj3 true) = some r := by rw [if_pos rfl] at H; exact H
     clear H
     have H := H1
     clear H1
     have H' := Aside0.mk H
     clear H
     go_wp2_with (first | ((with_reducible refine gate_callee (f := 24) rfl ?_); refine gl (some 41) Tryd.func24 #[] ?_; (with_reducible refine (newellaw09_awake.calls kj3  true _ (gS HG) A45.out).mono ?_); rintro e w236 ⟨rfl, hb⟩; refine ⟨_, rfl, ?_⟩; replace BK758 := Aside0.mk (blk_below (g := gb758) (o := .cells #[.string a0_0, .string a0_1, .string a0_2] 32 (0, 0)) (by (with_reducible repeat (first | refine blk_drewN ?_ _ | refine blk_drew ?_ | refine blk_alloc ?_ _)); refine blk_far ?_ NB758_765.out _; (with_reducible repeat (first | refine blk_drewN ?_ _ | refine blk_drew ?_ | refine blk_alloc ?_ _)); refine blk_far ?_ NB758_765.out _; (with_reducible repeat (first | refine blk_drewN ?_ _ | refine blk_drew ?_ | refine blk_alloc ?_ _)); refine blk_far ?_ NB758_765.out _; (with_reducible repeat (first | refine blk_drewN ?_ _ | refine blk_drew ?_ | refine blk_alloc ?_ _)); refine blk_far ?_ NB758_765.out _; (with_reducible repeat (first | refine blk_drewN ?_ _ | refine blk_drew ?_ | refine blk_alloc ?_ _)); exact BK758.out) hb); replace BK759 := Aside0.mk (blk_below (g := gb759) (o := .cells #[.string a1_0, .string a1_1, .string a1_2] 32 (0, 0)) (by (with_reducible repeat (first | refine blk_drewN ?_ _ | refine blk_drew ?_ | refine blk_alloc ?_ _)); refine blk_far ?_ NB759_765.out _; (with_reducible repeat (first | refine blk_drewN ?_ _ | refine blk_drew ?_ | refine blk_alloc ?_ _)); refine blk_far ?_ NB759_765.out _; (with_reducible repeat (first | refine blk_drewN ?_ _ | refine blk_drew ?_ | refine blk_alloc ?_ _)); refine blk_far ?_ NB759_765.out _; (with_reducible repeat (first | refine blk_drewN ?_ _ | refine blk_drew ?_ | refine blk_alloc ?_ _)); refine blk_far ?_ NB759_765.out _; (with_reducible repeat (first | refine blk_drewN ?_ _ | refine blk_drew ?_ | refine blk_alloc ?_ _)); exact BK759.out) hb); replace BK760 := Aside0.mk (blk_below (g := gb760) (o := .cells #[.string a2_0, .string a2_1, .string a2_2] 32 (0, 0)) (by (with_reducible repeat (first | refine blk_drewN ?_ _ | refine blk_drew ?_ | refine blk_alloc ?_ _)); refine blk_far ?_ NB760_765.out _; (with_reducible repeat (first | refine blk_drewN ?_ _ | refine blk_drew ?_ | refine blk_alloc ?_ _)); refine blk_far ?_ NB760_765.out _; (with_reducible repeat (first | refine blk_drewN ?_ _ | refine blk_drew ?_ | refine blk_alloc ?_ _)); refine blk_far ?_ NB760_765.out _; (with_reducible repeat (first | refine blk_drewN ?_ _ | refine blk_drew ?_ | refine blk_alloc ?_ _)); refine blk_far ?_ NB760_765.out _; (with_reducible repeat (first | refine blk_drewN ?_ _ | refine blk_drew ?_ | refine blk_alloc ?_ _)); exact BK760.out) hb); replace BK765 := Aside0.mk (blk_below (g := gb765) (o := .cells #[.string a0_0, .string a0_1, .string a1_2] 32 (0, 0)) (bP BK765) hb); replace HB := sB hb; (try clear hb); have hnb237 := NB758_759.out; have hnc237 := NB759_758.out; have hnb238 := NB758_760.out; have hnc238 := NB760_758.out; have hnb239 := NB758_765.out; have hnc239 := NB765_758.out; have hcz240_0 : w236.cell? ⟨gb758, 0, none⟩ = some (.string a0_0) := (blk_cell BK758.out 0).trans rfl; have hcz240_1 : w236.cell? ⟨gb758, 1, none⟩ = some (.string a0_1) := (blk_cell BK758.out 1).trans rfl; have hcz240_2 : w236.cell? ⟨gb758, 2, none⟩ = some (.string a0_2) := (blk_cell BK758.out 2).trans rfl; have hfz240_0 := blk_frozen BK758.out 0; have hfz240_1 := blk_frozen BK758.out 1; have hfz240_2 := blk_frozen BK758.out 2) | (go_at_call 41; (with_reducible refine (coord_Less.calls kj3 a0_0 a0_1 a0_2 a0_0 a0_1 a0_2 false _ (gS HG) A173.out).mono ?_); rintro e w241 ⟨rfl, hb⟩; replace BK758 := kB BK758 hb; replace BK759 := kB BK759 hb; replace BK760 := kB BK760 hb; replace BK765 := kB BK765 hb; replace HB := sB hb; (try clear hb); have hcz242_0 : w241.cell? ⟨gb758, 0, none⟩ = some (.string a0_0) := (blk_cell BK758.out 0).trans rfl; have hcz242_1 : w241.cell? ⟨gb758, 1, none⟩ = some (.string a0_1) := (blk_cell BK758.out 1).trans rfl; have hcz242_2 : w241.cell? ⟨gb758, 2, none⟩ = some (.string a0_2) := (blk_cell BK758.out 2).trans rfl; have hfz242_0 := blk_frozen BK758.out 0; have hfz242_1 := blk_frozen BK758.out 1; have hfz242_2 := blk_frozen BK758.out 2; have hnb243 := NB759_760.out; have hnc243 := NB760_759.out; have hnb244 := NB759_765.out; have hnc244 := NB765_759.out; have hcz245_0 : w241.cell? ⟨gb759, 0, none⟩ = some (.string a1_0) := (blk_cell BK759.out 0).trans rfl; have hcz245_1 : w241.cell? ⟨gb759, 1, none⟩ = some (.string a1_1) := (blk_cell BK759.out 1).trans rfl; have hcz245_2 : w241.cell? ⟨gb759, 2, none⟩ = some (.string a1_2) := (blk_cell BK759.out 2).trans rfl; have hfz245_0 := blk_frozen BK759.out 0; have hfz245_1 := blk_frozen BK759.out 1; have hfz245_2 := blk_frozen BK759.out 2; have hnb246 := NB765_760.out; have hnc246 := NB760_765.out; have hcz247_0 : w241.cell? ⟨gb765, 0, none⟩ = some (.string a0_0) := (blk_cell BK765.out 0).trans rfl; have hcz247_1 : w241.cell? ⟨gb765, 1, none⟩ = some (.string a0_1) := (blk_cell BK765.out 1).trans rfl; have hcz247_2 : w241.cell? ⟨gb765, 2, none⟩ = some (.string a1_2) := (blk_cell BK765.out 2).trans rfl; have hfz247_0 := blk_frozen BK765.out 0; have hfz247_1 := blk_frozen BK765.out 1; have hfz247_2 := blk_frozen BK765.out 2) | (go_at_call 41; (with_reducible refine (coord_Less.calls kj3 a0_0 a0_1 a0_2 a0_0 a0_1 a1_2 true _ (gS HG) A234.out).mono ?_); rintro e w248 ⟨rfl, hb⟩; replace BK758 := kB BK758 hb; replace BK759 := kB BK759 hb; replace BK760 := kB BK760 hb; replace BK765 := kB BK765 hb; replace HB := sB hb; (try clear hb)))
     go_meet
     case rel => exact ⟨_, (true), cA, H', ⟨by have := HJ3.out; first | omega | exact Nat.le_refl _⟩, ⟨bK BK758⟩, ⟨bK BK759⟩, ⟨bK BK760⟩, ⟨bK BK765⟩, ⟨bG⟩⟩
    replace c235 := Bool.eq_false_iff.mpr c235
    subst c235
    have H1 : ((coord_Less.f kj3 a0_0 a0_1 a1_2 a0_0 a0_1 a0_2).bind fun t776 => (if t776 = true then (newellaw09_CoordOrder.j1 kj3 true) else (newellaw09_CoordOrder.j1 kj3 (a0_2.toList == a1_2.toList)))) = some r := by rw [if_neg (show ¬ (false = true) by decide)] at H; exact H
    clear H
    have H := H1
    clear H1
    replace H := bi H
    obtain ⟨t776, A2490, H⟩ := H
    try dsimp only at H
    have A249 := Aside0.mk A2490
    clear A2490
    by_cases c250 : t776 = true
    ·subst c250
     have H1 : (newellaw09_CoordOrder.j1 kj3 true) = some r := by rw [if_pos rfl] at H; exact H
     clear H
     have H := H1
     clear H1
     have H' := Aside0.mk H
     clear H
     go_wp2_with (first | ((with_reducible refine gate_callee (f := 24) rfl ?_); refine gl (some 41) Tryd.func24 #[] ?_; (with_reducible refine (newellaw09_awake.calls kj3  true _ (gS HG) A45.out).mono ?_); rintro e w251 ⟨rfl, hb⟩; refine ⟨_, rfl, ?_⟩; replace BK758 := Aside0.mk (blk_below (g := gb758) (o := .cells #[.string a0_0, .string a0_1, .string a0_2] 32 (0, 0)) (by (with_reducible repeat (first | refine blk_drewN ?_ _ | refine blk_drew ?_ | refine blk_alloc ?_ _)); refine blk_far ?_ NB758_765.out _; (with_reducible repeat (first | refine blk_drewN ?_ _ | refine blk_drew ?_ | refine blk_alloc ?_ _)); refine blk_far ?_ NB758_765.out _; (with_reducible repeat (first | refine blk_drewN ?_ _ | refine blk_drew ?_ | refine blk_alloc ?_ _)); refine blk_far ?_ NB758_765.out _; (with_reducible repeat (first | refine blk_drewN ?_ _ | refine blk_drew ?_ | refine blk_alloc ?_ _)); refine blk_far ?_ NB758_765.out _; (with_reducible repeat (first | refine blk_drewN ?_ _ | refine blk_drew ?_ | refine blk_alloc ?_ _)); exact BK758.out) hb); replace BK759 := Aside0.mk (blk_below (g := gb759) (o := .cells #[.string a1_0, .string a1_1, .string a1_2] 32 (0, 0)) (by (with_reducible repeat (first | refine blk_drewN ?_ _ | refine blk_drew ?_ | refine blk_alloc ?_ _)); refine blk_far ?_ NB759_765.out _; (with_reducible repeat (first | refine blk_drewN ?_ _ | refine blk_drew ?_ | refine blk_alloc ?_ _)); refine blk_far ?_ NB759_765.out _; (with_reducible repeat (first | refine blk_drewN ?_ _ | refine blk_drew ?_ | refine blk_alloc ?_ _)); refine blk_far ?_ NB759_765.out _; (with_reducible repeat (first | refine blk_drewN ?_ _ | refine blk_drew ?_ | refine blk_alloc ?_ _)); refine blk_far ?_ NB759_765.out _; (with_reducible repeat (first | refine blk_drewN ?_ _ | refine blk_drew ?_ | refine blk_alloc ?_ _)); exact BK759.out) hb); replace BK760 := Aside0.mk (blk_below (g := gb760) (o := .cells #[.string a2_0, .string a2_1, .string a2_2] 32 (0, 0)) (by (with_reducible repeat (first | refine blk_drewN ?_ _ | refine blk_drew ?_ | refine blk_alloc ?_ _)); refine blk_far ?_ NB760_765.out _; (with_reducible repeat (first | refine blk_drewN ?_ _ | refine blk_drew ?_ | refine blk_alloc ?_ _)); refine blk_far ?_ NB760_765.out _; (with_reducible repeat (first | refine blk_drewN ?_ _ | refine blk_drew ?_ | refine blk_alloc ?_ _)); refine blk_far ?_ NB760_765.out _; (with_reducible repeat (first | refine blk_drewN ?_ _ | refine blk_drew ?_ | refine blk_alloc ?_ _)); refine blk_far ?_ NB760_765.out _; (with_reducible repeat (first | refine blk_drewN ?_ _ | refine blk_drew ?_ | refine blk_alloc ?_ _)); exact BK760.out) hb); replace BK765 := Aside0.mk (blk_below (g := gb765) (o := .cells #[.string a0_0, .string a0_1, .string a1_2] 32 (0, 0)) (bP BK765) hb); replace HB := sB hb; (try clear hb); have hnb252 := NB758_759.out; have hnc252 := NB759_758.out; have hnb253 := NB758_760.out; have hnc253 := NB760_758.out; have hnb254 := NB758_765.out; have hnc254 := NB765_758.out; have hcz255_0 : w251.cell? ⟨gb758, 0, none⟩ = some (.string a0_0) := (blk_cell BK758.out 0).trans rfl; have hcz255_1 : w251.cell? ⟨gb758, 1, none⟩ = some (.string a0_1) := (blk_cell BK758.out 1).trans rfl; have hcz255_2 : w251.cell? ⟨gb758, 2, none⟩ = some (.string a0_2) := (blk_cell BK758.out 2).trans rfl; have hfz255_0 := blk_frozen BK758.out 0; have hfz255_1 := blk_frozen BK758.out 1; have hfz255_2 := blk_frozen BK758.out 2) | (go_at_call 41; (with_reducible refine (coord_Less.calls kj3 a0_0 a0_1 a0_2 a0_0 a0_1 a0_2 false _ (gS HG) A173.out).mono ?_); rintro e w256 ⟨rfl, hb⟩; replace BK758 := kB BK758 hb; replace BK759 := kB BK759 hb; replace BK760 := kB BK760 hb; replace BK765 := kB BK765 hb; replace HB := sB hb; (try clear hb); have hcz257_0 : w256.cell? ⟨gb758, 0, none⟩ = some (.string a0_0) := (blk_cell BK758.out 0).trans rfl; have hcz257_1 : w256.cell? ⟨gb758, 1, none⟩ = some (.string a0_1) := (blk_cell BK758.out 1).trans rfl; have hcz257_2 : w256.cell? ⟨gb758, 2, none⟩ = some (.string a0_2) := (blk_cell BK758.out 2).trans rfl; have hfz257_0 := blk_frozen BK758.out 0; have hfz257_1 := blk_frozen BK758.out 1; have hfz257_2 := blk_frozen BK758.out 2; have hnb258 := NB759_760.out; have hnc258 := NB760_759.out; have hnb259 := NB759_765.out; have hnc259 := NB765_759.out; have hcz260_0 : w256.cell? ⟨gb759, 0, none⟩ = some (.string a1_0) := (blk_cell BK759.out 0).trans rfl; have hcz260_1 : w256.cell? ⟨gb759, 1, none⟩ = some (.string a1_1) := (blk_cell BK759.out 1).trans rfl; have hcz260_2 : w256.cell? ⟨gb759, 2, none⟩ = some (.string a1_2) := (blk_cell BK759.out 2).trans rfl; have hfz260_0 := blk_frozen BK759.out 0; have hfz260_1 := blk_frozen BK759.out 1; have hfz260_2 := blk_frozen BK759.out 2; have hnb261 := NB765_760.out; have hnc261 := NB760_765.out; have hcz262_0 : w256.cell? ⟨gb765, 0, none⟩ = some (.string a0_0) := (blk_cell BK765.out 0).trans rfl; have hcz262_1 : w256.cell? ⟨gb765, 1, none⟩ = some (.string a0_1) := (blk_cell BK765.out 1).trans rfl; have hcz262_2 : w256.cell? ⟨gb765, 2, none⟩ = some (.string a1_2) := (blk_cell BK765.out 2).trans rfl; have hfz262_0 := blk_frozen BK765.out 0; have hfz262_1 := blk_frozen BK765.out 1; have hfz262_2 := blk_frozen BK765.out 2) | (go_at_call 41; (with_reducible refine (coord_Less.calls kj3 a0_0 a0_1 a0_2 a0_0 a0_1 a1_2 false _ (gS HG) A234.out).mono ?_); rintro e w263 ⟨rfl, hb⟩; replace BK758 := kB BK758 hb; replace BK759 := kB BK759 hb; replace BK760 := kB BK760 hb; replace BK765 := kB BK765 hb; replace HB := sB hb; (try clear hb); have hcz264_0 : w263.cell? ⟨gb765, 0, none⟩ = some (.string a0_0) := (blk_cell BK765.out 0).trans rfl; have hcz264_1 : w263.cell? ⟨gb765, 1, none⟩ = some (.string a0_1) := (blk_cell BK765.out 1).trans rfl; have hcz264_2 : w263.cell? ⟨gb765, 2, none⟩ = some (.string a1_2) := (blk_cell BK765.out 2).trans rfl; have hfz264_0 := blk_frozen BK765.out 0; have hfz264_1 := blk_frozen BK765.out 1; have hfz264_2 := blk_frozen BK765.out 2; have hcz265_0 : w263.cell? ⟨gb758, 0, none⟩ = some (.string a0_0) := (blk_cell BK758.out 0).trans rfl; have hcz265_1 : w263.cell? ⟨gb758, 1, none⟩ = some (.string a0_1) := (blk_cell BK758.out 1).trans rfl; have hcz265_2 : w263.cell? ⟨gb758, 2, none⟩ = some (.string a0_2) := (blk_cell BK758.out 2).trans rfl; have hfz265_0 := blk_frozen BK758.out 0; have hfz265_1 := blk_frozen BK758.out 1; have hfz265_2 := blk_frozen BK758.out 2) | (go_at_call 41; (with_reducible refine (coord_Less.calls kj3 a0_0 a0_1 a1_2 a0_0 a0_1 a0_2 true _ (gS HG) A249.out).mono ?_); rintro e w266 ⟨rfl, hb⟩; replace BK758 := kB BK758 hb; replace BK759 := kB BK759 hb; replace BK760 := kB BK760 hb; replace BK765 := kB BK765 hb; replace HB := sB hb; (try clear hb)))
     go_meet
     case rel => exact ⟨_, (true), cA, H', ⟨by have := HJ3.out; first | omega | exact Nat.le_refl _⟩, ⟨bK BK758⟩, ⟨bK BK759⟩, ⟨bK BK760⟩, ⟨bK BK765⟩, ⟨bG⟩⟩
    replace c250 := Bool.eq_false_iff.mpr c250
    subst c250
    have H1 : (newellaw09_CoordOrder.j1 kj3 (a0_2.toList == a1_2.toList)) = some r := by rw [if_neg (show ¬ (false = true) by decide)] at H; exact H
    clear H
    have H := H1
    clear H1
    have H' := Aside0.mk H
    clear H
    go_wp2_with (first | ((with_reducible refine gate_callee (f := 24) rfl ?_); refine gl (some 41) Tryd.func24 #[] ?_; (with_reducible refine (newellaw09_awake.calls kj3  true _ (gS HG) A45.out).mono ?_); rintro e w267 ⟨rfl, hb⟩; refine ⟨_, rfl, ?_⟩; replace BK758 := Aside0.mk (blk_below (g := gb758) (o := .cells #[.string a0_0, .string a0_1, .string a0_2] 32 (0, 0)) (by (with_reducible repeat (first | refine blk_drewN ?_ _ | refine blk_drew ?_ | refine blk_alloc ?_ _)); refine blk_far ?_ NB758_765.out _; (with_reducible repeat (first | refine blk_drewN ?_ _ | refine blk_drew ?_ | refine blk_alloc ?_ _)); refine blk_far ?_ NB758_765.out _; (with_reducible repeat (first | refine blk_drewN ?_ _ | refine blk_drew ?_ | refine blk_alloc ?_ _)); refine blk_far ?_ NB758_765.out _; (with_reducible repeat (first | refine blk_drewN ?_ _ | refine blk_drew ?_ | refine blk_alloc ?_ _)); refine blk_far ?_ NB758_765.out _; (with_reducible repeat (first | refine blk_drewN ?_ _ | refine blk_drew ?_ | refine blk_alloc ?_ _)); exact BK758.out) hb); replace BK759 := Aside0.mk (blk_below (g := gb759) (o := .cells #[.string a1_0, .string a1_1, .string a1_2] 32 (0, 0)) (by (with_reducible repeat (first | refine blk_drewN ?_ _ | refine blk_drew ?_ | refine blk_alloc ?_ _)); refine blk_far ?_ NB759_765.out _; (with_reducible repeat (first | refine blk_drewN ?_ _ | refine blk_drew ?_ | refine blk_alloc ?_ _)); refine blk_far ?_ NB759_765.out _; (with_reducible repeat (first | refine blk_drewN ?_ _ | refine blk_drew ?_ | refine blk_alloc ?_ _)); refine blk_far ?_ NB759_765.out _; (with_reducible repeat (first | refine blk_drewN ?_ _ | refine blk_drew ?_ | refine blk_alloc ?_ _)); refine blk_far ?_ NB759_765.out _; (with_reducible repeat (first | refine blk_drewN ?_ _ | refine blk_drew ?_ | refine blk_alloc ?_ _)); exact BK759.out) hb); replace BK760 := Aside0.mk (blk_below (g := gb760) (o := .cells #[.string a2_0, .string a2_1, .string a2_2] 32 (0, 0)) (by (with_reducible repeat (first | refine blk_drewN ?_ _ | refine blk_drew ?_ | refine blk_alloc ?_ _)); refine blk_far ?_ NB760_765.out _; (with_reducible repeat (first | refine blk_drewN ?_ _ | refine blk_drew ?_ | refine blk_alloc ?_ _)); refine blk_far ?_ NB760_765.out _; (with_reducible repeat (first | refine blk_drewN ?_ _ | refine blk_drew ?_ | refine blk_alloc ?_ _)); refine blk_far ?_ NB760_765.out _; (with_reducible repeat (first | refine blk_drewN ?_ _ | refine blk_drew ?_ | refine blk_alloc ?_ _)); refine blk_far ?_ NB760_765.out _; (with_reducible repeat (first | refine blk_drewN ?_ _ | refine blk_drew ?_ | refine blk_alloc ?_ _)); exact BK760.out) hb); replace BK765 := Aside0.mk (blk_below (g := gb765) (o := .cells #[.string a0_0, .string a0_1, .string a1_2] 32 (0, 0)) (bP BK765) hb); replace HB := sB hb; (try clear hb); have hnb268 := NB758_759.out; have hnc268 := NB759_758.out; have hnb269 := NB758_760.out; have hnc269 := NB760_758.out; have hnb270 := NB758_765.out; have hnc270 := NB765_758.out; have hcz271_0 : w267.cell? ⟨gb758, 0, none⟩ = some (.string a0_0) := (blk_cell BK758.out 0).trans rfl; have hcz271_1 : w267.cell? ⟨gb758, 1, none⟩ = some (.string a0_1) := (blk_cell BK758.out 1).trans rfl; have hcz271_2 : w267.cell? ⟨gb758, 2, none⟩ = some (.string a0_2) := (blk_cell BK758.out 2).trans rfl; have hfz271_0 := blk_frozen BK758.out 0; have hfz271_1 := blk_frozen BK758.out 1; have hfz271_2 := blk_frozen BK758.out 2) | (go_at_call 41; (with_reducible refine (coord_Less.calls kj3 a0_0 a0_1 a0_2 a0_0 a0_1 a0_2 false _ (gS HG) A173.out).mono ?_); rintro e w272 ⟨rfl, hb⟩; replace BK758 := kB BK758 hb; replace BK759 := kB BK759 hb; replace BK760 := kB BK760 hb; replace BK765 := kB BK765 hb; replace HB := sB hb; (try clear hb); have hcz273_0 : w272.cell? ⟨gb758, 0, none⟩ = some (.string a0_0) := (blk_cell BK758.out 0).trans rfl; have hcz273_1 : w272.cell? ⟨gb758, 1, none⟩ = some (.string a0_1) := (blk_cell BK758.out 1).trans rfl; have hcz273_2 : w272.cell? ⟨gb758, 2, none⟩ = some (.string a0_2) := (blk_cell BK758.out 2).trans rfl; have hfz273_0 := blk_frozen BK758.out 0; have hfz273_1 := blk_frozen BK758.out 1; have hfz273_2 := blk_frozen BK758.out 2; have hnb274 := NB759_760.out; have hnc274 := NB760_759.out; have hnb275 := NB759_765.out; have hnc275 := NB765_759.out; have hcz276_0 : w272.cell? ⟨gb759, 0, none⟩ = some (.string a1_0) := (blk_cell BK759.out 0).trans rfl; have hcz276_1 : w272.cell? ⟨gb759, 1, none⟩ = some (.string a1_1) := (blk_cell BK759.out 1).trans rfl; have hcz276_2 : w272.cell? ⟨gb759, 2, none⟩ = some (.string a1_2) := (blk_cell BK759.out 2).trans rfl; have hfz276_0 := blk_frozen BK759.out 0; have hfz276_1 := blk_frozen BK759.out 1; have hfz276_2 := blk_frozen BK759.out 2; have hnb277 := NB765_760.out; have hnc277 := NB760_765.out; have hcz278_0 : w272.cell? ⟨gb765, 0, none⟩ = some (.string a0_0) := (blk_cell BK765.out 0).trans rfl; have hcz278_1 : w272.cell? ⟨gb765, 1, none⟩ = some (.string a0_1) := (blk_cell BK765.out 1).trans rfl; have hcz278_2 : w272.cell? ⟨gb765, 2, none⟩ = some (.string a1_2) := (blk_cell BK765.out 2).trans rfl; have hfz278_0 := blk_frozen BK765.out 0; have hfz278_1 := blk_frozen BK765.out 1; have hfz278_2 := blk_frozen BK765.out 2) | (go_at_call 41; (with_reducible refine (coord_Less.calls kj3 a0_0 a0_1 a0_2 a0_0 a0_1 a1_2 false _ (gS HG) A234.out).mono ?_); rintro e w279 ⟨rfl, hb⟩; replace BK758 := kB BK758 hb; replace BK759 := kB BK759 hb; replace BK760 := kB BK760 hb; replace BK765 := kB BK765 hb; replace HB := sB hb; (try clear hb); have hcz280_0 : w279.cell? ⟨gb765, 0, none⟩ = some (.string a0_0) := (blk_cell BK765.out 0).trans rfl; have hcz280_1 : w279.cell? ⟨gb765, 1, none⟩ = some (.string a0_1) := (blk_cell BK765.out 1).trans rfl; have hcz280_2 : w279.cell? ⟨gb765, 2, none⟩ = some (.string a1_2) := (blk_cell BK765.out 2).trans rfl; have hfz280_0 := blk_frozen BK765.out 0; have hfz280_1 := blk_frozen BK765.out 1; have hfz280_2 := blk_frozen BK765.out 2; have hcz281_0 : w279.cell? ⟨gb758, 0, none⟩ = some (.string a0_0) := (blk_cell BK758.out 0).trans rfl; have hcz281_1 : w279.cell? ⟨gb758, 1, none⟩ = some (.string a0_1) := (blk_cell BK758.out 1).trans rfl; have hcz281_2 : w279.cell? ⟨gb758, 2, none⟩ = some (.string a0_2) := (blk_cell BK758.out 2).trans rfl; have hfz281_0 := blk_frozen BK758.out 0; have hfz281_1 := blk_frozen BK758.out 1; have hfz281_2 := blk_frozen BK758.out 2) | (go_at_call 41; (with_reducible refine (coord_Less.calls kj3 a0_0 a0_1 a1_2 a0_0 a0_1 a0_2 false _ (gS HG) A249.out).mono ?_); rintro e w282 ⟨rfl, hb⟩; replace BK758 := kB BK758 hb; replace BK759 := kB BK759 hb; replace BK760 := kB BK760 hb; replace BK765 := kB BK765 hb; replace HB := sB hb; (try clear hb); have hcz283_0 : w282.cell? ⟨gb758, 0, none⟩ = some (.string a0_0) := (blk_cell BK758.out 0).trans rfl; have hcz283_1 : w282.cell? ⟨gb758, 1, none⟩ = some (.string a0_1) := (blk_cell BK758.out 1).trans rfl; have hcz283_2 : w282.cell? ⟨gb758, 2, none⟩ = some (.string a0_2) := (blk_cell BK758.out 2).trans rfl; have hfz283_0 := blk_frozen BK758.out 0; have hfz283_1 := blk_frozen BK758.out 1; have hfz283_2 := blk_frozen BK758.out 2; have hcz284_0 : w282.cell? ⟨gb759, 0, none⟩ = some (.string a1_0) := (blk_cell BK759.out 0).trans rfl; have hcz284_1 : w282.cell? ⟨gb759, 1, none⟩ = some (.string a1_1) := (blk_cell BK759.out 1).trans rfl; have hcz284_2 : w282.cell? ⟨gb759, 2, none⟩ = some (.string a1_2) := (blk_cell BK759.out 2).trans rfl; have hfz284_0 := blk_frozen BK759.out 0; have hfz284_1 := blk_frozen BK759.out 1; have hfz284_2 := blk_frozen BK759.out 2))
    go_meet
    case rel => exact ⟨_, ((a0_2.toList == a1_2.toList)), cA, H', ⟨by have := HJ3.out; first | omega | exact Nat.le_refl _⟩, ⟨bK BK758⟩, ⟨bK BK759⟩, ⟨bK BK760⟩, ⟨bK BK765⟩, ⟨bG⟩⟩
   subst c48
   have H1 : (if t764 = true then ((coord_Less.f kj3 a0_0 a0_1 a0_2 a0_0 a0_1 a0_2).bind fun t767 => (if t767 = true then (newellaw09_CoordOrder.j1 kj3 false) else (if a0_0.toList = a1_0.toList then ((coord_Less.f kj3 a0_0 a0_1 a0_2 a0_0 a0_1 a1_2).bind fun t768 => (if t768 = true then (newellaw09_CoordOrder.j1 kj3 true) else ((coord_Less.f kj3 a0_0 a0_1 a1_2 a0_0 a0_1 a0_2).bind fun t769 => (if t769 = true then (newellaw09_CoordOrder.j1 kj3 true) else (newellaw09_CoordOrder.j1 kj3 (a0_2.toList == a1_2.toList)))))) else (if (true == (Op.bytesLess a0_0.toList a1_0.toList)) = true then ((coord_Less.f kj3 a0_0 a0_1 a0_2 a0_0 a0_1 a1_2).bind fun t770 => (if t770 = true then (newellaw09_CoordOrder.j1 kj3 true) else ((coord_Less.f kj3 a0_0 a0_1 a1_2 a0_0 a0_1 a0_2).bind fun t771 => (if t771 = true then (newellaw09_CoordOrder.j1 kj3 true) else (newellaw09_CoordOrder.j1 kj3 (a0_2.toList == a1_2.toList)))))) else (newellaw09_CoordOrder.j1 kj3 false))))) else (newellaw09_CoordOrder.j1 kj3 false)) = some r := by rw [if_pos rfl] at H; exact H
   clear H
   have H := H1
   clear H1
   by_cases c49 : t764 = true
   rotate_left
   ·replace c49 := Bool.eq_false_iff.mpr c49
    subst c49
    have H1 : (newellaw09_CoordOrder.j1 kj3 false) = some r := by rw [if_neg (show ¬ (false = true) by decide)] at H; exact H
    clear H
    have H := H1
    clear H1
    have H' := Aside0.mk H
    clear H
    go_wp2_with (first | ((with_reducible refine gate_callee (f := 24) rfl ?_); refine gl (some 41) Tryd.func24 #[] ?_; (with_reducible refine (newellaw09_awake.calls kj3  true _ (gS HG) A45.out).mono ?_); rintro e w172 ⟨rfl, hb⟩; refine ⟨_, rfl, ?_⟩; replace BK758 := Aside0.mk (blk_below (g := gb758) (o := .cells #[.string a0_0, .string a0_1, .string a0_2] 32 (0, 0)) (by (with_reducible repeat (first | refine blk_drewN ?_ _ | refine blk_drew ?_ | refine blk_alloc ?_ _)); refine blk_far ?_ NB758_765.out _; (with_reducible repeat (first | refine blk_drewN ?_ _ | refine blk_drew ?_ | refine blk_alloc ?_ _)); refine blk_far ?_ NB758_765.out _; (with_reducible repeat (first | refine blk_drewN ?_ _ | refine blk_drew ?_ | refine blk_alloc ?_ _)); refine blk_far ?_ NB758_765.out _; (with_reducible repeat (first | refine blk_drewN ?_ _ | refine blk_drew ?_ | refine blk_alloc ?_ _)); refine blk_far ?_ NB758_765.out _; (with_reducible repeat (first | refine blk_drewN ?_ _ | refine blk_drew ?_ | refine blk_alloc ?_ _)); exact BK758.out) hb); replace BK759 := Aside0.mk (blk_below (g := gb759) (o := .cells #[.string a1_0, .string a1_1, .string a1_2] 32 (0, 0)) (by (with_reducible repeat (first | refine blk_drewN ?_ _ | refine blk_drew ?_ | refine blk_alloc ?_ _)); refine blk_far ?_ NB759_765.out _; (with_reducible repeat (first | refine blk_drewN ?_ _ | refine blk_drew ?_ | refine blk_alloc ?_ _)); refine blk_far ?_ NB759_765.out _; (with_reducible repeat (first | refine blk_drewN ?_ _ | refine blk_drew ?_ | refine blk_alloc ?_ _)); refine blk_far ?_ NB759_765.out _; (with_reducible repeat (first | refine blk_drewN ?_ _ | refine blk_drew ?_ | refine blk_alloc ?_ _)); refine blk_far ?_ NB759_765.out _; (with_reducible repeat (first | refine blk_drewN ?_ _ | refine blk_drew ?_ | refine blk_alloc ?_ _)); exact BK759.out) hb); replace BK760 := Aside0.mk (blk_below (g := gb760) (o := .cells #[.string a2_0, .string a2_1, .string a2_2] 32 (0, 0)) (by (with_reducible repeat (first | refine blk_drewN ?_ _ | refine blk_drew ?_ | refine blk_alloc ?_ _)); refine blk_far ?_ NB760_765.out _; (with_reducible repeat (first | refine blk_drewN ?_ _ | refine blk_drew ?_ | refine blk_alloc ?_ _)); refine blk_far ?_ NB760_765.out _; (with_reducible repeat (first | refine blk_drewN ?_ _ | refine blk_drew ?_ | refine blk_alloc ?_ _)); refine blk_far ?_ NB760_765.out _; (with_reducible repeat (first | refine blk_drewN ?_ _ | refine blk_drew ?_ | refine blk_alloc ?_ _)); refine blk_far ?_ NB760_765.out _; (with_reducible repeat (first | refine blk_drewN ?_ _ | refine blk_drew ?_ | refine blk_alloc ?_ _)); exact BK760.out) hb); replace BK765 := Aside0.mk (blk_below (g := gb765) (o := .cells #[.string a0_0, .string a0_1, .string a1_2] 32 (0, 0)) (bP BK765) hb); replace HB := sB hb; (try clear hb)))
    go_meet
    case rel => exact ⟨_, (false), cA, H', ⟨by have := HJ3.out; first | omega | exact Nat.le_refl _⟩, ⟨bK BK758⟩, ⟨bK BK759⟩, ⟨bK BK760⟩, ⟨bK BK765⟩, ⟨bG⟩⟩
   subst c49
   have H1 : ((coord_Less.f kj3 a0_0 a0_1 a0_2 a0_0 a0_1 a0_2).bind fun t767 => (if t767 = true then (newellaw09_CoordOrder.j1 kj3 false) else (if a0_0.toList = a1_0.toList then ((coord_Less.f kj3 a0_0 a0_1 a0_2 a0_0 a0_1 a1_2).bind fun t768 => (if t768 = true then (newellaw09_CoordOrder.j1 kj3 true) else ((coord_Less.f kj3 a0_0 a0_1 a1_2 a0_0 a0_1 a0_2).bind fun t769 => (if t769 = true then (newellaw09_CoordOrder.j1 kj3 true) else (newellaw09_CoordOrder.j1 kj3 (a0_2.toList == a1_2.toList)))))) else (if (true == (Op.bytesLess a0_0.toList a1_0.toList)) = true then ((coord_Less.f kj3 a0_0 a0_1 a0_2 a0_0 a0_1 a1_2).bind fun t770 => (if t770 = true then (newellaw09_CoordOrder.j1 kj3 true) else ((coord_Less.f kj3 a0_0 a0_1 a1_2 a0_0 a0_1 a0_2).bind fun t771 => (if t771 = true then (newellaw09_CoordOrder.j1 kj3 true) else (newellaw09_CoordOrder.j1 kj3 (a0_2.toList == a1_2.toList)))))) else (newellaw09_CoordOrder.j1 kj3 false))))) = some r := by rw [if_pos rfl] at H; exact H
   clear H
   have H := H1
   clear H1
   replace H := bi H
   obtain ⟨t767, A500, H⟩ := H
   try dsimp only at H
   have A50 := Aside0.mk A500
   clear A500
   by_cases c51 : t767 = true
   ·subst c51
    have H1 : (newellaw09_CoordOrder.j1 kj3 false) = some r := by rw [if_pos rfl] at H; exact H
    clear H
    have H := H1
    clear H1
    have H' := Aside0.mk H
    clear H
    go_wp2_with (first | ((with_reducible refine gate_callee (f := 24) rfl ?_); refine gl (some 41) Tryd.func24 #[] ?_; (with_reducible refine (newellaw09_awake.calls kj3  true _ (gS HG) A45.out).mono ?_); rintro e w52 ⟨rfl, hb⟩; refine ⟨_, rfl, ?_⟩; replace BK758 := Aside0.mk (blk_below (g := gb758) (o := .cells #[.string a0_0, .string a0_1, .string a0_2] 32 (0, 0)) (by (with_reducible repeat (first | refine blk_drewN ?_ _ | refine blk_drew ?_ | refine blk_alloc ?_ _)); refine blk_far ?_ NB758_765.out _; (with_reducible repeat (first | refine blk_drewN ?_ _ | refine blk_drew ?_ | refine blk_alloc ?_ _)); refine blk_far ?_ NB758_765.out _; (with_reducible repeat (first | refine blk_drewN ?_ _ | refine blk_drew ?_ | refine blk_alloc ?_ _)); refine blk_far ?_ NB758_765.out _; (with_reducible repeat (first | refine blk_drewN ?_ _ | refine blk_drew ?_ | refine blk_alloc ?_ _)); refine blk_far ?_ NB758_765.out _; (with_reducible repeat (first | refine blk_drewN ?_ _ | refine blk_drew ?_ | refine blk_alloc ?_ _)); exact BK758.out) hb); replace BK759 := Aside0.mk (blk_below (g := gb759) (o := .cells #[.string a1_0, .string a1_1, .string a1_2] 32 (0, 0)) (by (with_reducible repeat (first | refine blk_drewN ?_ _ | refine blk_drew ?_ | refine blk_alloc ?_ _)); refine blk_far ?_ NB759_765.out _; (with_reducible repeat (first | refine blk_drewN ?_ _ | refine blk_drew ?_ | refine blk_alloc ?_ _)); refine blk_far ?_ NB759_765.out _; (with_reducible repeat (first | refine blk_drewN ?_ _ | refine blk_drew ?_ | refine blk_alloc ?_ _)); refine blk_far ?_ NB759_765.out _; (with_reducible repeat (first | refine blk_drewN ?_ _ | refine blk_drew ?_ | refine blk_alloc ?_ _)); refine blk_far ?_ NB759_765.out _; (with_reducible repeat (first | refine blk_drewN ?_ _ | refine blk_drew ?_ | refine blk_alloc ?_ _)); exact BK759.out) hb); replace BK760 := Aside0.mk (blk_below (g := gb760) (o := .cells #[.string a2_0, .string a2_1, .string a2_2] 32 (0, 0)) (by (with_reducible repeat (first | refine blk_drewN ?_ _ | refine blk_drew ?_ | refine blk_alloc ?_ _)); refine blk_far ?_ NB760_765.out _; (with_reducible repeat (first | refine blk_drewN ?_ _ | refine blk_drew ?_ | refine blk_alloc ?_ _)); refine blk_far ?_ NB760_765.out _; (with_reducible repeat (first | refine blk_drewN ?_ _ | refine blk_drew ?_ | refine blk_alloc ?_ _)); refine blk_far ?_ NB760_765.out _; (with_reducible repeat (first | refine blk_drewN ?_ _ | refine blk_drew ?_ | refine blk_alloc ?_ _)); refine blk_far ?_ NB760_765.out _; (with_reducible repeat (first | refine blk_drewN ?_ _ | refine blk_drew ?_ | refine blk_alloc ?_ _)); exact BK760.out) hb); replace BK765 := Aside0.mk (blk_below (g := gb765) (o := .cells #[.string a0_0, .string a0_1, .string a1_2] 32 (0, 0)) (bP BK765) hb); replace HB := sB hb; (try clear hb); have hnb53 := NB758_759.out; have hnc53 := NB759_758.out; have hnb54 := NB758_760.out; have hnc54 := NB760_758.out; have hnb55 := NB758_765.out; have hnc55 := NB765_758.out; have hcz56_0 : w52.cell? ⟨gb758, 0, none⟩ = some (.string a0_0) := (blk_cell BK758.out 0).trans rfl; have hcz56_1 : w52.cell? ⟨gb758, 1, none⟩ = some (.string a0_1) := (blk_cell BK758.out 1).trans rfl; have hcz56_2 : w52.cell? ⟨gb758, 2, none⟩ = some (.string a0_2) := (blk_cell BK758.out 2).trans rfl; have hfz56_0 := blk_frozen BK758.out 0; have hfz56_1 := blk_frozen BK758.out 1; have hfz56_2 := blk_frozen BK758.out 2) | (go_at_call 41; (with_reducible refine (coord_Less.calls kj3 a0_0 a0_1 a0_2 a0_0 a0_1 a0_2 true _ (gS HG) A50.out).mono ?_); rintro e w57 ⟨rfl, hb⟩; replace BK758 := kB BK758 hb; replace BK759 := kB BK759 hb; replace BK760 := kB BK760 hb; replace BK765 := kB BK765 hb; replace HB := sB hb; (try clear hb)))
    go_meet
    case rel => exact ⟨_, (false), cA, H', ⟨by have := HJ3.out; first | omega | exact Nat.le_refl _⟩, ⟨bK BK758⟩, ⟨bK BK759⟩, ⟨bK BK760⟩, ⟨bK BK765⟩, ⟨bG⟩⟩
   replace c51 := Bool.eq_false_iff.mpr c51
   subst c51
   have H1 : (if a0_0.toList = a1_0.toList then ((coord_Less.f kj3 a0_0 a0_1 a0_2 a0_0 a0_1 a1_2).bind fun t768 => (if t768 = true then (newellaw09_CoordOrder.j1 kj3 true) else ((coord_Less.f kj3 a0_0 a0_1 a1_2 a0_0 a0_1 a0_2).bind fun t769 => (if t769 = true then (newellaw09_CoordOrder.j1 kj3 true) else (newellaw09_CoordOrder.j1 kj3 (a0_2.toList == a1_2.toList)))))) else (if (true == (Op.bytesLess a0_0.toList a1_0.toList)) = true then ((coord_Less.f kj3 a0_0 a0_1 a0_2 a0_0 a0_1 a1_2).bind fun t770 => (if t770 = true then (newellaw09_CoordOrder.j1 kj3 true) else ((coord_Less.f kj3 a0_0 a0_1 a1_2 a0_0 a0_1 a0_2).bind fun t771 => (if t771 = true then (newellaw09_CoordOrder.j1 kj3 true) else (newellaw09_CoordOrder.j1 kj3 (a0_2.toList == a1_2.toList)))))) else (newellaw09_CoordOrder.j1 kj3 false))) = some r := by rw [if_neg (show ¬ (false = true) by decide)] at H; exact H
   clear H
   have H := H1
   clear H1
   by_cases c58 : a0_0.toList = a1_0.toList
   ·rw [if_pos c58] at H
    obtain ⟨c58b0, c58b1⟩ := eqT c58
    clear c58
    (first | rw [c58b0] | (simp only [i64_w, i32_w]; rw [c58b0]) | skip)
    replace H := bi H
    obtain ⟨t768, A590, H⟩ := H
    try dsimp only at H
    have A59 := Aside0.mk A590
    clear A590
    by_cases c60 : t768 = true
    ·subst c60
     have H1 : (newellaw09_CoordOrder.j1 kj3 true) = some r := by rw [if_pos rfl] at H; exact H
     clear H
     have H := H1
     clear H1
     have H' := Aside0.mk H
     clear H
     go_wp2_with (first | ((with_reducible refine gate_callee (f := 24) rfl ?_); refine gl (some 41) Tryd.func24 #[] ?_; (with_reducible refine (newellaw09_awake.calls kj3  true _ (gS HG) A45.out).mono ?_); rintro e w61 ⟨rfl, hb⟩; refine ⟨_, rfl, ?_⟩; replace BK758 := Aside0.mk (blk_below (g := gb758) (o := .cells #[.string a0_0, .string a0_1, .string a0_2] 32 (0, 0)) (by (with_reducible repeat (first | refine blk_drewN ?_ _ | refine blk_drew ?_ | refine blk_alloc ?_ _)); refine blk_far ?_ NB758_765.out _; (with_reducible repeat (first | refine blk_drewN ?_ _ | refine blk_drew ?_ | refine blk_alloc ?_ _)); refine blk_far ?_ NB758_765.out _; (with_reducible repeat (first | refine blk_drewN ?_ _ | refine blk_drew ?_ | refine blk_alloc ?_ _)); refine blk_far ?_ NB758_765.out _; (with_reducible repeat (first | refine blk_drewN ?_ _ | refine blk_drew ?_ | refine blk_alloc ?_ _)); refine blk_far ?_ NB758_765.out _; (with_reducible repeat (first | refine blk_drewN ?_ _ | refine blk_drew ?_ | refine blk_alloc ?_ _)); exact BK758.out) hb); replace BK759 := Aside0.mk (blk_below (g := gb759) (o := .cells #[.string a1_0, .string a1_1, .string a1_2] 32 (0, 0)) (by (with_reducible repeat (first | refine blk_drewN ?_ _ | refine blk_drew ?_ | refine blk_alloc ?_ _)); refine blk_far ?_ NB759_765.out _; (with_reducible repeat (first | refine blk_drewN ?_ _ | refine blk_drew ?_ | refine blk_alloc ?_ _)); refine blk_far ?_ NB759_765.out _; (with_reducible repeat (first | refine blk_drewN ?_ _ | refine blk_drew ?_ | refine blk_alloc ?_ _)); refine blk_far ?_ NB759_765.out _; (with_reducible repeat (first | refine blk_drewN ?_ _ | refine blk_drew ?_ | refine blk_alloc ?_ _)); refine blk_far ?_ NB759_765.out _; (with_reducible repeat (first | refine blk_drewN ?_ _ | refine blk_drew ?_ | refine blk_alloc ?_ _)); exact BK759.out) hb); replace BK760 := Aside0.mk (blk_below (g := gb760) (o := .cells #[.string a2_0, .string a2_1, .string a2_2] 32 (0, 0)) (by (with_reducible repeat (first | refine blk_drewN ?_ _ | refine blk_drew ?_ | refine blk_alloc ?_ _)); refine blk_far ?_ NB760_765.out _; (with_reducible repeat (first | refine blk_drewN ?_ _ | refine blk_drew ?_ | refine blk_alloc ?_ _)); refine blk_far ?_ NB760_765.out _; (with_reducible repeat (first | refine blk_drewN ?_ _ | refine blk_drew ?_ | refine blk_alloc ?_ _)); refine blk_far ?_ NB760_765.out _; (with_reducible repeat (first | refine blk_drewN ?_ _ | refine blk_drew ?_ | refine blk_alloc ?_ _)); refine blk_far ?_ NB760_765.out _; (with_reducible repeat (first | refine blk_drewN ?_ _ | refine blk_drew ?_ | refine blk_alloc ?_ _)); exact BK760.out) hb); replace BK765 := Aside0.mk (blk_below (g := gb765) (o := .cells #[.string a0_0, .string a0_1, .string a1_2] 32 (0, 0)) (bP BK765) hb); replace HB := sB hb; (try clear hb); have hnb62 := NB758_759.out; have hnc62 := NB759_758.out; have hnb63 := NB758_760.out; have hnc63 := NB760_758.out; have hnb64 := NB758_765.out; have hnc64 := NB765_758.out; have hcz65_0 : w61.cell? ⟨gb758, 0, none⟩ = some (.string a0_0) := (blk_cell BK758.out 0).trans rfl; have hcz65_1 : w61.cell? ⟨gb758, 1, none⟩ = some (.string a0_1) := (blk_cell BK758.out 1).trans rfl; have hcz65_2 : w61.cell? ⟨gb758, 2, none⟩ = some (.string a0_2) := (blk_cell BK758.out 2).trans rfl; have hfz65_0 := blk_frozen BK758.out 0; have hfz65_1 := blk_frozen BK758.out 1; have hfz65_2 := blk_frozen BK758.out 2) | (go_at_call 41; (with_reducible refine (coord_Less.calls kj3 a0_0 a0_1 a0_2 a0_0 a0_1 a0_2 false _ (gS HG) A50.out).mono ?_); rintro e w66 ⟨rfl, hb⟩; replace BK758 := kB BK758 hb; replace BK759 := kB BK759 hb; replace BK760 := kB BK760 hb; replace BK765 := kB BK765 hb; replace HB := sB hb; (try clear hb); have hcz67_0 : w66.cell? ⟨gb758, 0, none⟩ = some (.string a0_0) := (blk_cell BK758.out 0).trans rfl; have hcz67_1 : w66.cell? ⟨gb758, 1, none⟩ = some (.string a0_1) := (blk_cell BK758.out 1).trans rfl; have hcz67_2 : w66.cell? ⟨gb758, 2, none⟩ = some (.string a0_2) := (blk_cell BK758.out 2).trans rfl; have hfz67_0 := blk_frozen BK758.out 0; have hfz67_1 := blk_frozen BK758.out 1; have hfz67_2 := blk_frozen BK758.out 2; have hnb68 := NB759_760.out; have hnc68 := NB760_759.out; have hnb69 := NB759_765.out; have hnc69 := NB765_759.out; have hcz70_0 : w66.cell? ⟨gb759, 0, none⟩ = some (.string a1_0) := (blk_cell BK759.out 0).trans rfl; have hcz70_1 : w66.cell? ⟨gb759, 1, none⟩ = some (.string a1_1) := (blk_cell BK759.out 1).trans rfl; have hcz70_2 : w66.cell? ⟨gb759, 2, none⟩ = some (.string a1_2) := (blk_cell BK759.out 2).trans rfl; have hfz70_0 := blk_frozen BK759.out 0; have hfz70_1 := blk_frozen BK759.out 1; have hfz70_2 := blk_frozen BK759.out 2; have hnb71 := NB765_760.out; have hnc71 := NB760_765.out; have hcz72_0 : w66.cell? ⟨gb765, 0, none⟩ = some (.string a0_0) := (blk_cell BK765.out 0).trans rfl; have hcz72_1 : w66.cell? ⟨gb765, 1, none⟩ = some (.string a0_1) := (blk_cell BK765.out 1).trans rfl; have hcz72_2 : w66.cell? ⟨gb765, 2, none⟩ = some (.string a1_2) := (blk_cell BK765.out 2).trans rfl; have hfz72_0 := blk_frozen BK765.out 0; have hfz72_1 := blk_frozen BK765.out 1; have hfz72_2 := blk_frozen BK765.out 2) | (go_at_call 41; (with_reducible refine (coord_Less.calls kj3 a0_0 a0_1 a0_2 a0_0 a0_1 a1_2 true _ (gS HG) A59.out).mono ?_); rintro e w73 ⟨rfl, hb⟩; replace BK758 := kB BK758 hb; replace BK759 := kB BK759 hb; replace BK760 := kB BK760 hb; replace BK765 := kB BK765 hb; replace HB := sB hb; (try clear hb)))
     go_meet
     case rel => exact ⟨_, (true), cA, H', ⟨by have := HJ3.out; first | omega | exact Nat.le_refl _⟩, ⟨bK BK758⟩, ⟨bK BK759⟩, ⟨bK BK760⟩, ⟨bK BK765⟩, ⟨bG⟩⟩
    replace c60 := Bool.eq_false_iff.mpr c60
    subst c60
    have H1 : ((coord_Less.f kj3 a0_0 a0_1 a1_2 a0_0 a0_1 a0_2).bind fun t769 => (if t769 = true then (newellaw09_CoordOrder.j1 kj3 true) else (newellaw09_CoordOrder.j1 kj3 (a0_2.toList == a1_2.toList)))) = some r := by rw [if_neg (show ¬ (false = true) by decide)] at H; exact H
    clear H
    have H := H1
    clear H1
    replace H := bi H
    obtain ⟨t769, A740, H⟩ := H
    try dsimp only at H
    have A74 := Aside0.mk A740
    clear A740
    by_cases c75 : t769 = true
    ·subst c75
     have H1 : (newellaw09_CoordOrder.j1 kj3 true) = some r := by rw [if_pos rfl] at H; exact H
     clear H
     have H := H1
     clear H1
     have H' := Aside0.mk H
     clear H
     go_wp2_with (first | ((with_reducible refine gate_callee (f := 24) rfl ?_); refine gl (some 41) Tryd.func24 #[] ?_; (with_reducible refine (newellaw09_awake.calls kj3  true _ (gS HG) A45.out).mono ?_); rintro e w76 ⟨rfl, hb⟩; refine ⟨_, rfl, ?_⟩; replace BK758 := Aside0.mk (blk_below (g := gb758) (o := .cells #[.string a0_0, .string a0_1, .string a0_2] 32 (0, 0)) (by (with_reducible repeat (first | refine blk_drewN ?_ _ | refine blk_drew ?_ | refine blk_alloc ?_ _)); refine blk_far ?_ NB758_765.out _; (with_reducible repeat (first | refine blk_drewN ?_ _ | refine blk_drew ?_ | refine blk_alloc ?_ _)); refine blk_far ?_ NB758_765.out _; (with_reducible repeat (first | refine blk_drewN ?_ _ | refine blk_drew ?_ | refine blk_alloc ?_ _)); refine blk_far ?_ NB758_765.out _; (with_reducible repeat (first | refine blk_drewN ?_ _ | refine blk_drew ?_ | refine blk_alloc ?_ _)); refine blk_far ?_ NB758_765.out _; (with_reducible repeat (first | refine blk_drewN ?_ _ | refine blk_drew ?_ | refine blk_alloc ?_ _)); exact BK758.out) hb); replace BK759 := Aside0.mk (blk_below (g := gb759) (o := .cells #[.string a1_0, .string a1_1, .string a1_2] 32 (0, 0)) (by (with_reducible repeat (first | refine blk_drewN ?_ _ | refine blk_drew ?_ | refine blk_alloc ?_ _)); refine blk_far ?_ NB759_765.out _; (with_reducible repeat (first | refine blk_drewN ?_ _ | refine blk_drew ?_ | refine blk_alloc ?_ _)); refine blk_far ?_ NB759_765.out _; (with_reducible repeat (first | refine blk_drewN ?_ _ | refine blk_drew ?_ | refine blk_alloc ?_ _)); refine blk_far ?_ NB759_765.out _; (with_reducible repeat (first | refine blk_drewN ?_ _ | refine blk_drew ?_ | refine blk_alloc ?_ _)); refine blk_far ?_ NB759_765.out _; (with_reducible repeat (first | refine blk_drewN ?_ _ | refine blk_drew ?_ | refine blk_alloc ?_ _)); exact BK759.out) hb); replace BK760 := Aside0.mk (blk_below (g := gb760) (o := .cells #[.string a2_0, .string a2_1, .string a2_2] 32 (0, 0)) (by (with_reducible repeat (first | refine blk_drewN ?_ _ | refine blk_drew ?_ | refine blk_alloc ?_ _)); refine blk_far ?_ NB760_765.out _; (with_reducible repeat (first | refine blk_drewN ?_ _ | refine blk_drew ?_ | refine blk_alloc ?_ _)); refine blk_far ?_ NB760_765.out _; (with_reducible repeat (first | refine blk_drewN ?_ _ | refine blk_drew ?_ | refine blk_alloc ?_ _)); refine blk_far ?_ NB760_765.out _; (with_reducible repeat (first | refine blk_drewN ?_ _ | refine blk_drew ?_ | refine blk_alloc ?_ _)); refine blk_far ?_ NB760_765.out _; (with_reducible repeat (first | refine blk_drewN ?_ _ | refine blk_drew ?_ | refine blk_alloc ?_ _)); exact BK760.out) hb); replace BK765 := Aside0.mk (blk_below (g := gb765) (o := .cells #[.string a0_0, .string a0_1, .string a1_2] 32 (0, 0)) (bP BK765) hb); replace HB := sB hb; (try clear hb); have hnb77 := NB758_759.out; have hnc77 := NB759_758.out; have hnb78 := NB758_760.out; have hnc78 := NB760_758.out; have hnb79 := NB758_765.out; have hnc79 := NB765_758.out; have hcz80_0 : w76.cell? ⟨gb758, 0, none⟩ = some (.string a0_0) := (blk_cell BK758.out 0).trans rfl; have hcz80_1 : w76.cell? ⟨gb758, 1, none⟩ = some (.string a0_1) := (blk_cell BK758.out 1).trans rfl; have hcz80_2 : w76.cell? ⟨gb758, 2, none⟩ = some (.string a0_2) := (blk_cell BK758.out 2).trans rfl; have hfz80_0 := blk_frozen BK758.out 0; have hfz80_1 := blk_frozen BK758.out 1; have hfz80_2 := blk_frozen BK758.out 2) | (go_at_call 41; (with_reducible refine (coord_Less.calls kj3 a0_0 a0_1 a0_2 a0_0 a0_1 a0_2 false _ (gS HG) A50.out).mono ?_); rintro e w81 ⟨rfl, hb⟩; replace BK758 := kB BK758 hb; replace BK759 := kB BK759 hb; replace BK760 := kB BK760 hb; replace BK765 := kB BK765 hb; replace HB := sB hb; (try clear hb); have hcz82_0 : w81.cell? ⟨gb758, 0, none⟩ = some (.string a0_0) := (blk_cell BK758.out 0).trans rfl; have hcz82_1 : w81.cell? ⟨gb758, 1, none⟩ = some (.string a0_1) := (blk_cell BK758.out 1).trans rfl; have hcz82_2 : w81.cell? ⟨gb758, 2, none⟩ = some (.string a0_2) := (blk_cell BK758.out 2).trans rfl; have hfz82_0 := blk_frozen BK758.out 0; have hfz82_1 := blk_frozen BK758.out 1; have hfz82_2 := blk_frozen BK758.out 2; have hnb83 := NB759_760.out; have hnc83 := NB760_759.out; have hnb84 := NB759_765.out; have hnc84 := NB765_759.out; have hcz85_0 : w81.cell? ⟨gb759, 0, none⟩ = some (.string a1_0) := (blk_cell BK759.out 0).trans rfl; have hcz85_1 : w81.cell? ⟨gb759, 1, none⟩ = some (.string a1_1) := (blk_cell BK759.out 1).trans rfl; have hcz85_2 : w81.cell? ⟨gb759, 2, none⟩ = some (.string a1_2) := (blk_cell BK759.out 2).trans rfl; have hfz85_0 := blk_frozen BK759.out 0; have hfz85_1 := blk_frozen BK759.out 1; have hfz85_2 := blk_frozen BK759.out 2; have hnb86 := NB765_760.out; have hnc86 := NB760_765.out; have hcz87_0 : w81.cell? ⟨gb765, 0, none⟩ = some (.string a0_0) := (blk_cell BK765.out 0).trans rfl; have hcz87_1 : w81.cell? ⟨gb765, 1, none⟩ = some (.string a0_1) := (blk_cell BK765.out 1).trans rfl; have hcz87_2 : w81.cell? ⟨gb765, 2, none⟩ = some (.string a1_2) := (blk_cell BK765.out 2).trans rfl; have hfz87_0 := blk_frozen BK765.out 0; have hfz87_1 := blk_frozen BK765.out 1; have hfz87_2 := blk_frozen BK765.out 2) | (go_at_call 41; (with_reducible refine (coord_Less.calls kj3 a0_0 a0_1 a0_2 a0_0 a0_1 a1_2 false _ (gS HG) A59.out).mono ?_); rintro e w88 ⟨rfl, hb⟩; replace BK758 := kB BK758 hb; replace BK759 := kB BK759 hb; replace BK760 := kB BK760 hb; replace BK765 := kB BK765 hb; replace HB := sB hb; (try clear hb); have hcz89_0 : w88.cell? ⟨gb765, 0, none⟩ = some (.string a0_0) := (blk_cell BK765.out 0).trans rfl; have hcz89_1 : w88.cell? ⟨gb765, 1, none⟩ = some (.string a0_1) := (blk_cell BK765.out 1).trans rfl; have hcz89_2 : w88.cell? ⟨gb765, 2, none⟩ = some (.string a1_2) := (blk_cell BK765.out 2).trans rfl; have hfz89_0 := blk_frozen BK765.out 0; have hfz89_1 := blk_frozen BK765.out 1; have hfz89_2 := blk_frozen BK765.out 2; have hcz90_0 : w88.cell? ⟨gb758, 0, none⟩ = some (.string a0_0) := (blk_cell BK758.out 0).trans rfl; have hcz90_1 : w88.cell? ⟨gb758, 1, none⟩ = some (.string a0_1) := (blk_cell BK758.out 1).trans rfl; have hcz90_2 : w88.cell? ⟨gb758, 2, none⟩ = some (.string a0_2) := (blk_cell BK758.out 2).trans rfl; have hfz90_0 := blk_frozen BK758.out 0; have hfz90_1 := blk_frozen BK758.out 1; have hfz90_2 := blk_frozen BK758.out 2) | (go_at_call 41; (with_reducible refine (coord_Less.calls kj3 a0_0 a0_1 a1_2 a0_0 a0_1 a0_2 true _ (gS HG) A74.out).mono ?_); rintro e w91 ⟨rfl, hb⟩; replace BK758 := kB BK758 hb; replace BK759 := kB BK759 hb; replace BK760 := kB BK760 hb; replace BK765 := kB BK765 hb; replace HB := sB hb; (try clear hb)))
     go_meet
     case rel => exact ⟨_, (true), cA, H', ⟨by have := HJ3.out; first | omega | exact Nat.le_refl _⟩, ⟨bK BK758⟩, ⟨bK BK759⟩, ⟨bK BK760⟩, ⟨bK BK765⟩, ⟨bG⟩⟩
    replace c75 := Bool.eq_false_iff.mpr c75
    subst c75
    have H1 : (newellaw09_CoordOrder.j1 kj3 (a0_2.toList == a1_2.toList)) = some r := by rw [if_neg (show ¬ (false = true) by decide)] at H; exact H
    clear H
    have H := H1
    clear H1
    have H' := Aside0.mk H
    clear H
    go_wp2_with (first | ((with_reducible refine gate_callee (f := 24) rfl ?_); refine gl (some 41) Tryd.func24 #[] ?_; (with_reducible refine (newellaw09_awake.calls kj3  true _ (gS HG) A45.out).mono ?_); rintro e w92 ⟨rfl, hb⟩; refine ⟨_, rfl, ?_⟩; replace BK758 := Aside0.mk (blk_below (g := gb758) (o := .cells #[.string a0_0, .string a0_1, .string a0_2] 32 (0, 0)) (by (with_reducible repeat (first | refine blk_drewN ?_ _ | refine blk_drew ?_ | refine blk_alloc ?_ _)); refine blk_far ?_ NB758_765.out _; (with_reducible repeat (first | refine blk_drewN ?_ _ | refine blk_drew ?_ | refine blk_alloc ?_ _)); refine blk_far ?_ NB758_765.out _; (with_reducible repeat (first | refine blk_drewN ?_ _ | refine blk_drew ?_ | refine blk_alloc ?_ _)); refine blk_far ?_ NB758_765.out _; (with_reducible repeat (first | refine blk_drewN ?_ _ | refine blk_drew ?_ | refine blk_alloc ?_ _)); refine blk_far ?_ NB758_765.out _; (with_reducible repeat (first | refine blk_drewN ?_ _ | refine blk_drew ?_ | refine blk_alloc ?_ _)); exact BK758.out) hb); replace BK759 := Aside0.mk (blk_below (g := gb759) (o := .cells #[.string a1_0, .string a1_1, .string a1_2] 32 (0, 0)) (by (with_reducible repeat (first | refine blk_drewN ?_ _ | refine blk_drew ?_ | refine blk_alloc ?_ _)); refine blk_far ?_ NB759_765.out _; (with_reducible repeat (first | refine blk_drewN ?_ _ | refine blk_drew ?_ | refine blk_alloc ?_ _)); refine blk_far ?_ NB759_765.out _; (with_reducible repeat (first | refine blk_drewN ?_ _ | refine blk_drew ?_ | refine blk_alloc ?_ _)); refine blk_far ?_ NB759_765.out _; (with_reducible repeat (first | refine blk_drewN ?_ _ | refine blk_drew ?_ | refine blk_alloc ?_ _)); refine blk_far ?_ NB759_765.out _; (with_reducible repeat (first | refine blk_drewN ?_ _ | refine blk_drew ?_ | refine blk_alloc ?_ _)); exact BK759.out) hb); replace BK760 := Aside0.mk (blk_below (g := gb760) (o := .cells #[.string a2_0, .string a2_1, .string a2_2] 32 (0, 0)) (by (with_reducible repeat (first | refine blk_drewN ?_ _ | refine blk_drew ?_ | refine blk_alloc ?_ _)); refine blk_far ?_ NB760_765.out _; (with_reducible repeat (first | refine blk_drewN ?_ _ | refine blk_drew ?_ | refine blk_alloc ?_ _)); refine blk_far ?_ NB760_765.out _; (with_reducible repeat (first | refine blk_drewN ?_ _ | refine blk_drew ?_ | refine blk_alloc ?_ _)); refine blk_far ?_ NB760_765.out _; (with_reducible repeat (first | refine blk_drewN ?_ _ | refine blk_drew ?_ | refine blk_alloc ?_ _)); refine blk_far ?_ NB760_765.out _; (with_reducible repeat (first | refine blk_drewN ?_ _ | refine blk_drew ?_ | refine blk_alloc ?_ _)); exact BK760.out) hb); replace BK765 := Aside0.mk (blk_below (g := gb765) (o := .cells #[.string a0_0, .string a0_1, .string a1_2] 32 (0, 0)) (bP BK765) hb); replace HB := sB hb; (try clear hb); have hnb93 := NB758_759.out; have hnc93 := NB759_758.out; have hnb94 := NB758_760.out; have hnc94 := NB760_758.out; have hnb95 := NB758_765.out; have hnc95 := NB765_758.out; have hcz96_0 : w92.cell? ⟨gb758, 0, none⟩ = some (.string a0_0) := (blk_cell BK758.out 0).trans rfl; have hcz96_1 : w92.cell? ⟨gb758, 1, none⟩ = some (.string a0_1) := (blk_cell BK758.out 1).trans rfl; have hcz96_2 : w92.cell? ⟨gb758, 2, none⟩ = some (.string a0_2) := (blk_cell BK758.out 2).trans rfl; have hfz96_0 := blk_frozen BK758.out 0; have hfz96_1 := blk_frozen BK758.out 1; have hfz96_2 := blk_frozen BK758.out 2) | (go_at_call 41; (with_reducible refine (coord_Less.calls kj3 a0_0 a0_1 a0_2 a0_0 a0_1 a0_2 false _ (gS HG) A50.out).mono ?_); rintro e w97 ⟨rfl, hb⟩; replace BK758 := kB BK758 hb; replace BK759 := kB BK759 hb; replace BK760 := kB BK760 hb; replace BK765 := kB BK765 hb; replace HB := sB hb; (try clear hb); have hcz98_0 : w97.cell? ⟨gb758, 0, none⟩ = some (.string a0_0) := (blk_cell BK758.out 0).trans rfl; have hcz98_1 : w97.cell? ⟨gb758, 1, none⟩ = some (.string a0_1) := (blk_cell BK758.out 1).trans rfl; have hcz98_2 : w97.cell? ⟨gb758, 2, none⟩ = some (.string a0_2) := (blk_cell BK758.out 2).trans rfl; have hfz98_0 := blk_frozen BK758.out 0; have hfz98_1 := blk_frozen BK758.out 1; have hfz98_2 := blk_frozen BK758.out 2; have hnb99 := NB759_760.out; have hnc99 := NB760_759.out; have hnb100 := NB759_765.out; have hnc100 := NB765_759.out; have hcz101_0 : w97.cell? ⟨gb759, 0, none⟩ = some (.string a1_0) := (blk_cell BK759.out 0).trans rfl; have hcz101_1 : w97.cell? ⟨gb759, 1, none⟩ = some (.string a1_1) := (blk_cell BK759.out 1).trans rfl; have hcz101_2 : w97.cell? ⟨gb759, 2, none⟩ = some (.string a1_2) := (blk_cell BK759.out 2).trans rfl; have hfz101_0 := blk_frozen BK759.out 0; have hfz101_1 := blk_frozen BK759.out 1; have hfz101_2 := blk_frozen BK759.out 2; have hnb102 := NB765_760.out; have hnc102 := NB760_765.out; have hcz103_0 : w97.cell? ⟨gb765, 0, none⟩ = some (.string a0_0) := (blk_cell BK765.out 0).trans rfl; have hcz103_1 : w97.cell? ⟨gb765, 1, none⟩ = some (.string a0_1) := (blk_cell BK765.out 1).trans rfl; have hcz103_2 : w97.cell? ⟨gb765, 2, none⟩ = some (.string a1_2) := (blk_cell BK765.out 2).trans rfl; have hfz103_0 := blk_frozen BK765.out 0; have hfz103_1 := blk_frozen BK765.out 1; have hfz103_2 := blk_frozen BK765.out 2) | (go_at_call 41; (with_reducible refine (coord_Less.calls kj3 a0_0 a0_1 a0_2 a0_0 a0_1 a1_2 false _ (gS HG) A59.out).mono ?_); rintro e w104 ⟨rfl, hb⟩; replace BK758 := kB BK758 hb; replace BK759 := kB BK759 hb; replace BK760 := kB BK760 hb; replace BK765 := kB BK765 hb; replace HB := sB hb; (try clear hb); have hcz105_0 : w104.cell? ⟨gb765, 0, none⟩ = some (.string a0_0) := (blk_cell BK765.out 0).trans rfl; have hcz105_1 : w104.cell? ⟨gb765, 1, none⟩ = some (.string a0_1) := (blk_cell BK765.out 1).trans rfl; have hcz105_2 : w104.cell? ⟨gb765, 2, none⟩ = some (.string a1_2) := (blk_cell BK765.out 2).trans rfl; have hfz105_0 := blk_frozen BK765.out 0; have hfz105_1 := blk_frozen BK765.out 1; have hfz105_2 := blk_frozen BK765.out 2; have hcz106_0 : w104.cell? ⟨gb758, 0, none⟩ = some (.string a0_0) := (blk_cell BK758.out 0).trans rfl; have hcz106_1 : w104.cell? ⟨gb758, 1, none⟩ = some (.string a0_1) := (blk_cell BK758.out 1).trans rfl; have hcz106_2 : w104.cell? ⟨gb758, 2, none⟩ = some (.string a0_2) := (blk_cell BK758.out 2).trans rfl; have hfz106_0 := blk_frozen BK758.out 0; have hfz106_1 := blk_frozen BK758.out 1; have hfz106_2 := blk_frozen BK758.out 2) | (go_at_call 41; (with_reducible refine (coord_Less.calls kj3 a0_0 a0_1 a1_2 a0_0 a0_1 a0_2 false _ (gS HG) A74.out).mono ?_); rintro e w107 ⟨rfl, hb⟩; replace BK758 := kB BK758 hb; replace BK759 := kB BK759 hb; replace BK760 := kB BK760 hb; replace BK765 := kB BK765 hb; replace HB := sB hb; (try clear hb); have hcz108_0 : w107.cell? ⟨gb758, 0, none⟩ = some (.string a0_0) := (blk_cell BK758.out 0).trans rfl; have hcz108_1 : w107.cell? ⟨gb758, 1, none⟩ = some (.string a0_1) := (blk_cell BK758.out 1).trans rfl; have hcz108_2 : w107.cell? ⟨gb758, 2, none⟩ = some (.string a0_2) := (blk_cell BK758.out 2).trans rfl; have hfz108_0 := blk_frozen BK758.out 0; have hfz108_1 := blk_frozen BK758.out 1; have hfz108_2 := blk_frozen BK758.out 2; have hcz109_0 : w107.cell? ⟨gb759, 0, none⟩ = some (.string a1_0) := (blk_cell BK759.out 0).trans rfl; have hcz109_1 : w107.cell? ⟨gb759, 1, none⟩ = some (.string a1_1) := (blk_cell BK759.out 1).trans rfl; have hcz109_2 : w107.cell? ⟨gb759, 2, none⟩ = some (.string a1_2) := (blk_cell BK759.out 2).trans rfl; have hfz109_0 := blk_frozen BK759.out 0; have hfz109_1 := blk_frozen BK759.out 1; have hfz109_2 := blk_frozen BK759.out 2))
    go_meet
    case rel => exact ⟨_, ((a0_2.toList == a1_2.toList)), cA, H', ⟨by have := HJ3.out; first | omega | exact Nat.le_refl _⟩, ⟨bK BK758⟩, ⟨bK BK759⟩, ⟨bK BK760⟩, ⟨bK BK765⟩, ⟨bG⟩⟩
   rw [if_neg c58] at H
   obtain ⟨c58b0, c58b1⟩ := eqF c58
   (first | rw [c58b0] | (simp only [i64_w, i32_w]; rw [c58b0]) | skip)
   by_cases c110 : (true == (Op.bytesLess a0_0.toList a1_0.toList)) = true
   rotate_left
   ·rw [if_neg c110] at H
    have c110b0 : (true == (Op.bytesLess a0_0.toList a1_0.toList)) = false := by simpa using c110
    (try (have c110b1 : decide (true = (Op.bytesLess a0_0.toList a1_0.toList)) = false := by simpa using c110))
    (try (have c110b2 : (true == (Op.bytesLess a0_0.toList a1_0.toList)) = false := by simpa using c110))
    (try (have c110b3 : ¬ (true = (Op.bytesLess a0_0.toList a1_0.toList)) := by simpa using c110))
    clear c110
    have H' := Aside0.mk H
    clear H
    go_wp2_with (first | ((with_reducible refine gate_callee (f := 24) rfl ?_); refine gl (some 41) Tryd.func24 #[] ?_; (with_reducible refine (newellaw09_awake.calls kj3  true _ (gS HG) A45.out).mono ?_); rintro e w162 ⟨rfl, hb⟩; refine ⟨_, rfl, ?_⟩; replace BK758 := Aside0.mk (blk_below (g := gb758) (o := .cells #[.string a0_0, .string a0_1, .string a0_2] 32 (0, 0)) (by (with_reducible repeat (first | refine blk_drewN ?_ _ | refine blk_drew ?_ | refine blk_alloc ?_ _)); refine blk_far ?_ NB758_765.out _; (with_reducible repeat (first | refine blk_drewN ?_ _ | refine blk_drew ?_ | refine blk_alloc ?_ _)); refine blk_far ?_ NB758_765.out _; (with_reducible repeat (first | refine blk_drewN ?_ _ | refine blk_drew ?_ | refine blk_alloc ?_ _)); refine blk_far ?_ NB758_765.out _; (with_reducible repeat (first | refine blk_drewN ?_ _ | refine blk_drew ?_ | refine blk_alloc ?_ _)); refine blk_far ?_ NB758_765.out _; (with_reducible repeat (first | refine blk_drewN ?_ _ | refine blk_drew ?_ | refine blk_alloc ?_ _)); exact BK758.out) hb); replace BK759 := Aside0.mk (blk_below (g := gb759) (o := .cells #[.string a1_0, .string a1_1, .string a1_2] 32 (0, 0)) (by (with_reducible repeat (first | refine blk_drewN ?_ _ | refine blk_drew ?_ | refine blk_alloc ?_ _)); refine blk_far ?_ NB759_765.out _; (with_reducible repeat (first | refine blk_drewN ?_ _ | refine blk_drew ?_ | refine blk_alloc ?_ _)); refine blk_far ?_ NB759_765.out _; (with_reducible repeat (first | refine blk_drewN ?_ _ | refine blk_drew ?_ | refine blk_alloc ?_ _)); refine blk_far ?_ NB759_765.out _; (with_reducible repeat (first | refine blk_drewN ?_ _ | refine blk_drew ?_ | refine blk_alloc ?_ _)); refine blk_far ?_ NB759_765.out _; (with_reducible repeat (first | refine blk_drewN ?_ _ | refine blk_drew ?_ | refine blk_alloc ?_ _)); exact BK759.out) hb); replace BK760 := Aside0.mk (blk_below (g := gb760) (o := .cells #[.string a2_0, .string a2_1, .string a2_2] 32 (0, 0)) (by (with_reducible repeat (first | refine blk_drewN ?_ _ | refine blk_drew ?_ | refine blk_alloc ?_ _)); refine blk_far ?_ NB760_765.out _; (with_reducible repeat (first | refine blk_drewN ?_ _ | refine blk_drew ?_ | refine blk_alloc ?_ _)); refine blk_far ?_ NB760_765.out _; (with_reducible repeat (first | refine blk_drewN ?_ _ | refine blk_drew ?_ | refine blk_alloc ?_ _)); refine blk_far ?_ NB760_765.out _; (with_reducible repeat (first | refine blk_drewN ?_ _ | refine blk_drew ?_ | refine blk_alloc ?_ _)); refine blk_far ?_ NB760_765.out _; (with_reducible repeat (first | refine blk_drewN ?_ _ | refine blk_drew ?_ | refine blk_alloc ?_ _)); exact BK760.out) hb); replace BK765 := Aside0.mk (blk_below (g := gb765) (o := .cells #[.string a0_0, .string a0_1, .string a1_2] 32 (0, 0)) (bP BK765) hb); replace HB := sB hb; (try clear hb); have hnb163 := NB758_759.out; have hnc163 := NB759_758.out; have hnb164 := NB758_760.out; have hnc164 := NB760_758.out; have hnb165 := NB758_765.out; have hnc165 := NB765_758.out; have hcz166_0 : w162.cell? ⟨gb758, 0, none⟩ = some (.string a0_0) := (blk_cell BK758.out 0).trans rfl; have hcz166_1 : w162.cell? ⟨gb758, 1, none⟩ = some (.string a0_1) := (blk_cell BK758.out 1).trans rfl; have hcz166_2 : w162.cell? ⟨gb758, 2, none⟩ = some (.string a0_2) := (blk_cell BK758.out 2).trans rfl; have hfz166_0 := blk_frozen BK758.out 0; have hfz166_1 := blk_frozen BK758.out 1; have hfz166_2 := blk_frozen BK758.out 2) | (go_at_call 41; (with_reducible refine (coord_Less.calls kj3 a0_0 a0_1 a0_2 a0_0 a0_1 a0_2 false _ (gS HG) A50.out).mono ?_); rintro e w167 ⟨rfl, hb⟩; replace BK758 := kB BK758 hb; replace BK759 := kB BK759 hb; replace BK760 := kB BK760 hb; replace BK765 := kB BK765 hb; replace HB := sB hb; (try clear hb); have hcz168_0 : w167.cell? ⟨gb758, 0, none⟩ = some (.string a0_0) := (blk_cell BK758.out 0).trans rfl; have hcz168_1 : w167.cell? ⟨gb758, 1, none⟩ = some (.string a0_1) := (blk_cell BK758.out 1).trans rfl; have hcz168_2 : w167.cell? ⟨gb758, 2, none⟩ = some (.string a0_2) := (blk_cell BK758.out 2).trans rfl; have hfz168_0 := blk_frozen BK758.out 0; have hfz168_1 := blk_frozen BK758.out 1; have hfz168_2 := blk_frozen BK758.out 2; have hnb169 := NB759_760.out; have hnc169 := NB760_759.out; have hnb170 := NB759_765.out; have hnc170 := NB765_759.out; have hcz171_0 : w167.cell? ⟨gb759, 0, none⟩ = some (.string a1_0) := (blk_cell BK759.out 0).trans rfl; have hcz171_1 : w167.cell? ⟨gb759, 1, none⟩ = some (.string a1_1) := (blk_cell BK759.out 1).trans rfl; have hcz171_2 : w167.cell? ⟨gb759, 2, none⟩ = some (.string a1_2) := (blk_cell BK759.out 2).trans rfl; have hfz171_0 := blk_frozen BK759.out 0; have hfz171_1 := blk_frozen BK759.out 1; have hfz171_2 := blk_frozen BK759.out 2))
    go_meet
    case rel => exact ⟨_, (false), cA, H', ⟨by have := HJ3.out; first | omega | exact Nat.le_refl _⟩, ⟨bK BK758⟩, ⟨bK BK759⟩, ⟨bK BK760⟩, ⟨bK BK765⟩, ⟨bG⟩⟩
   rw [if_pos c110] at H
   have c110b0 : (true == (Op.bytesLess a0_0.toList a1_0.toList)) = true := c110
   (try (have c110b1 : decide (true = (Op.bytesLess a0_0.toList a1_0.toList)) = true := by simpa using c110))
   (try (have c110b2 : (true == (Op.bytesLess a0_0.toList a1_0.toList)) = true := by simpa using c110))
   clear c110
   replace H := bi H
   obtain ⟨t770, A1110, H⟩ := H
   try dsimp only at H
   have A111 := Aside0.mk A1110
   clear A1110
   by_cases c112 : t770 = true
   ·subst c112
    have H1 : (newellaw09_CoordOrder.j1 kj3 true) = some r := by rw [if_pos rfl] at H; exact H
    clear H
    have H := H1
    clear H1
    have H' := Aside0.mk H
    clear H
    go_wp2_with (first | ((with_reducible refine gate_callee (f := 24) rfl ?_); refine gl (some 41) Tryd.func24 #[] ?_; (with_reducible refine (newellaw09_awake.calls kj3  true _ (gS HG) A45.out).mono ?_); rintro e w113 ⟨rfl, hb⟩; refine ⟨_, rfl, ?_⟩; replace BK758 := Aside0.mk (blk_below (g := gb758) (o := .cells #[.string a0_0, .string a0_1, .string a0_2] 32 (0, 0)) (by (with_reducible repeat (first | refine blk_drewN ?_ _ | refine blk_drew ?_ | refine blk_alloc ?_ _)); refine blk_far ?_ NB758_765.out _; (with_reducible repeat (first | refine blk_drewN ?_ _ | refine blk_drew ?_ | refine blk_alloc ?_ _)); refine blk_far ?_ NB758_765.out _; (with_reducible repeat (first | refine blk_drewN ?_ _ | refine blk_drew ?_ | refine blk_alloc ?_ _)); refine blk_far ?_ NB758_765.out _; (with_reducible repeat (first | refine blk_drewN ?_ _ | refine blk_drew ?_ | refine blk_alloc ?_ _)); refine blk_far ?_ NB758_765.out _; (with_reducible repeat (first | refine blk_drewN ?_ _ | refine blk_drew ?_ | refine blk_alloc ?_ _)); exact BK758.out) hb); replace BK759 := Aside0.mk (blk_below (g := gb759) (o := .cells #[.string a1_0, .string a1_1, .string a1_2] 32 (0, 0)) (by (with_reducible repeat (first | refine blk_drewN ?_ _ | refine blk_drew ?_ | refine blk_alloc ?_ _)); refine blk_far ?_ NB759_765.out _; (with_reducible repeat (first | refine blk_drewN ?_ _ | refine blk_drew ?_ | refine blk_alloc ?_ _)); refine blk_far ?_ NB759_765.out _; (with_reducible repeat (first | refine blk_drewN ?_ _ | refine blk_drew ?_ | refine blk_alloc ?_ _)); refine blk_far ?_ NB759_765.out _; (with_reducible repeat (first | refine blk_drewN ?_ _ | refine blk_drew ?_ | refine blk_alloc ?_ _)); refine blk_far ?_ NB759_765.out _; (with_reducible repeat (first | refine blk_drewN ?_ _ | refine blk_drew ?_ | refine blk_alloc ?_ _)); exact BK759.out) hb); replace BK760 := Aside0.mk (blk_below (g := gb760) (o := .cells #[.string a2_0, .string a2_1, .string a2_2] 32 (0, 0)) (by (with_reducible repeat (first | refine blk_drewN ?_ _ | refine blk_drew ?_ | refine blk_alloc ?_ _)); refine blk_far ?_ NB760_765.out _; (with_reducible repeat (first | refine blk_drewN ?_ _ | refine blk_drew ?_ | refine blk_alloc ?_ _)); refine blk_far ?_ NB760_765.out _; (with_reducible repeat (first | refine blk_drewN ?_ _ | refine blk_drew ?_ | refine blk_alloc ?_ _)); refine blk_far ?_ NB760_765.out _; (with_reducible repeat (first | refine blk_drewN ?_ _ | refine blk_drew ?_ | refine blk_alloc ?_ _)); refine blk_far ?_ NB760_765.out _; (with_reducible repeat (first | refine blk_drewN ?_ _ | refine blk_drew ?_ | refine blk_alloc ?_ _)); exact BK760.out) hb); replace BK765 := Aside0.mk (blk_below (g := gb765) (o := .cells #[.string a0_0, .string a0_1, .string a1_2] 32 (0, 0)) (bP BK765) hb); replace HB := sB hb; (try clear hb); have hnb114 := NB758_759.out; have hnc114 := NB759_758.out; have hnb115 := NB758_760.out; have hnc115 := NB760_758.out; have hnb116 := NB758_765.out; have hnc116 := NB765_758.out; have hcz117_0 : w113.cell? ⟨gb758, 0, none⟩ = some (.string a0_0) := (blk_cell BK758.out 0).trans rfl; have hcz117_1 : w113.cell? ⟨gb758, 1, none⟩ = some (.string a0_1) := (blk_cell BK758.out 1).trans rfl; have hcz117_2 : w113.cell? ⟨gb758, 2, none⟩ = some (.string a0_2) := (blk_cell BK758.out 2).trans rfl; have hfz117_0 := blk_frozen BK758.out 0; have hfz117_1 := blk_frozen BK758.out 1; have hfz117_2 := blk_frozen BK758.out 2) | (go_at_call 41; (with_reducible refine (coord_Less.calls kj3 a0_0 a0_1 a0_2 a0_0 a0_1 a0_2 false _ (gS HG) A50.out).mono ?_); rintro e w118 ⟨rfl, hb⟩; replace BK758 := kB BK758 hb; replace BK759 := kB BK759 hb; replace BK760 := kB BK760 hb; replace BK765 := kB BK765 hb; replace HB := sB hb; (try clear hb); have hcz119_0 : w118.cell? ⟨gb758, 0, none⟩ = some (.string a0_0) := (blk_cell BK758.out 0).trans rfl; have hcz119_1 : w118.cell? ⟨gb758, 1, none⟩ = some (.string a0_1) := (blk_cell BK758.out 1).trans rfl; have hcz119_2 : w118.cell? ⟨gb758, 2, none⟩ = some (.string a0_2) := (blk_cell BK758.out 2).trans rfl; have hfz119_0 := blk_frozen BK758.out 0; have hfz119_1 := blk_frozen BK758.out 1; have hfz119_2 := blk_frozen BK758.out 2; have hnb120 := NB759_760.out; have hnc120 := NB760_759.out; have hnb121 := NB759_765.out; have hnc121 := NB765_759.out; have hcz122_0 : w118.cell? ⟨gb759, 0, none⟩ = some (.string a1_0) := (blk_cell BK759.out 0).trans rfl; have hcz122_1 : w118.cell? ⟨gb759, 1, none⟩ = some (.string a1_1) := (blk_cell BK759.out 1).trans rfl; have hcz122_2 : w118.cell? ⟨gb759, 2, none⟩ = some (.string a1_2) := (blk_cell BK759.out 2).trans rfl; have hfz122_0 := blk_frozen BK759.out 0; have hfz122_1 := blk_frozen BK759.out 1; have hfz122_2 := blk_frozen BK759.out 2; have hnb123 := NB765_760.out; have hnc123 := NB760_765.out; have hcz124_0 : w118.cell? ⟨gb765, 0, none⟩ = some (.string a0_0) := (blk_cell BK765.out 0).trans rfl; have hcz124_1 : w118.cell? ⟨gb765, 1, none⟩ = some (.string a0_1) := (blk_cell BK765.out 1).trans rfl; have hcz124_2 : w118.cell? ⟨gb765, 2, none⟩ = some (.string a1_2) := (blk_cell BK765.out 2).trans rfl; have hfz124_0 := blk_frozen BK765.out 0; have hfz124_1 := blk_frozen BK765.out 1; have hfz124_2 := blk_frozen BK765.out 2) | (go_at_call 41; (with_reducible refine (coord_Less.calls kj3 a0_0 a0_1 a0_2 a0_0 a0_1 a1_2 true _ (gS HG) A111.out).mono ?_); rintro e w125 ⟨rfl, hb⟩; replace BK758 := kB BK758 hb; replace BK759 := kB BK759 hb; replace BK760 := kB BK760 hb; replace BK765 := kB BK765 hb; replace HB := sB hb; (try clear hb)))
    go_meet
    case rel => exact ⟨_, (true), cA, H', ⟨by have := HJ3.out; first | omega | exact Nat.le_refl _⟩, ⟨bK BK758⟩, ⟨bK BK759⟩, ⟨bK BK760⟩, ⟨bK BK765⟩, ⟨bG⟩⟩
   replace c112 := Bool.eq_false_iff.mpr c112
   subst c112
   have H1 : ((coord_Less.f kj3 a0_0 a0_1 a1_2 a0_0 a0_1 a0_2).bind fun t771 => (if t771 = true then (newellaw09_CoordOrder.j1 kj3 true) else (newellaw09_CoordOrder.j1 kj3 (a0_2.toList == a1_2.toList)))) = some r := by rw [if_neg (show ¬ (false = true) by decide)] at H; exact H
   clear H
   have H := H1
   clear H1
   replace H := bi H
   obtain ⟨t771, A1260, H⟩ := H
   try dsimp only at H
   have A126 := Aside0.mk A1260
   clear A1260
   by_cases c127 : t771 = true
   ·subst c127
    have H1 : (newellaw09_CoordOrder.j1 kj3 true) = some r := by rw [if_pos rfl] at H; exact H
    clear H
    have H := H1
    clear H1
    have H' := Aside0.mk H
    clear H
    go_wp2_with (first | ((with_reducible refine gate_callee (f := 24) rfl ?_); refine gl (some 41) Tryd.func24 #[] ?_; (with_reducible refine (newellaw09_awake.calls kj3  true _ (gS HG) A45.out).mono ?_); rintro e w128 ⟨rfl, hb⟩; refine ⟨_, rfl, ?_⟩; replace BK758 := Aside0.mk (blk_below (g := gb758) (o := .cells #[.string a0_0, .string a0_1, .string a0_2] 32 (0, 0)) (by (with_reducible repeat (first | refine blk_drewN ?_ _ | refine blk_drew ?_ | refine blk_alloc ?_ _)); refine blk_far ?_ NB758_765.out _; (with_reducible repeat (first | refine blk_drewN ?_ _ | refine blk_drew ?_ | refine blk_alloc ?_ _)); refine blk_far ?_ NB758_765.out _; (with_reducible repeat (first | refine blk_drewN ?_ _ | refine blk_drew ?_ | refine blk_alloc ?_ _)); refine blk_far ?_ NB758_765.out _; (with_reducible repeat (first | refine blk_drewN ?_ _ | refine blk_drew ?_ | refine blk_alloc ?_ _)); refine blk_far ?_ NB758_765.out _; (with_reducible repeat (first | refine blk_drewN ?_ _ | refine blk_drew ?_ | refine blk_alloc ?_ _)); exact BK758.out) hb); replace BK759 := Aside0.mk (blk_below (g := gb759) (o := .cells #[.string a1_0, .string a1_1, .string a1_2] 32 (0, 0)) (by (with_reducible repeat (first | refine blk_drewN ?_ _ | refine blk_drew ?_ | refine blk_alloc ?_ _)); refine blk_far ?_ NB759_765.out _; (with_reducible repeat (first | refine blk_drewN ?_ _ | refine blk_drew ?_ | refine blk_alloc ?_ _)); refine blk_far ?_ NB759_765.out _; (with_reducible repeat (first | refine blk_drewN ?_ _ | refine blk_drew ?_ | refine blk_alloc ?_ _)); refine blk_far ?_ NB759_765.out _; (with_reducible repeat (first | refine blk_drewN ?_ _ | refine blk_drew ?_ | refine blk_alloc ?_ _)); refine blk_far ?_ NB759_765.out _; (with_reducible repeat (first | refine blk_drewN ?_ _ | refine blk_drew ?_ | refine blk_alloc ?_ _)); exact BK759.out) hb); replace BK760 := Aside0.mk (blk_below (g := gb760) (o := .cells #[.string a2_0, .string a2_1, .string a2_2] 32 (0, 0)) (by (with_reducible repeat (first | refine blk_drewN ?_ _ | refine blk_drew ?_ | refine blk_alloc ?_ _)); refine blk_far ?_ NB760_765.out _; (with_reducible repeat (first | refine blk_drewN ?_ _ | refine blk_drew ?_ | refine blk_alloc ?_ _)); refine blk_far ?_ NB760_765.out _; (with_reducible repeat (first | refine blk_drewN ?_ _ | refine blk_drew ?_ | refine blk_alloc ?_ _)); refine blk_far ?_ NB760_765.out _; (with_reducible repeat (first | refine blk_drewN ?_ _ | refine blk_drew ?_ | refine blk_alloc ?_ _)); refine blk_far ?_ NB760_765.out _; (with_reducible repeat (first | refine blk_drewN ?_ _ | refine blk_drew ?_ | refine blk_alloc ?_ _)); exact BK760.out) hb); replace BK765 := Aside0.mk (blk_below (g := gb765) (o := .cells #[.string a0_0, .string a0_1, .string a1_2] 32 (0, 0)) (bP BK765) hb); replace HB := sB hb; (try clear hb); have hnb129 := NB758_759.out; have hnc129 := NB759_758.out; have hnb130 := NB758_760.out; have hnc130 := NB760_758.out; have hnb131 := NB758_765.out; have hnc131 := NB765_758.out; have hcz132_0 : w128.cell? ⟨gb758, 0, none⟩ = some (.string a0_0) := (blk_cell BK758.out 0).trans rfl; have hcz132_1 : w128.cell? ⟨gb758, 1, none⟩ = some (.string a0_1) := (blk_cell BK758.out 1).trans rfl; have hcz132_2 : w128.cell? ⟨gb758, 2, none⟩ = some (.string a0_2) := (blk_cell BK758.out 2).trans rfl; have hfz132_0 := blk_frozen BK758.out 0; have hfz132_1 := blk_frozen BK758.out 1; have hfz132_2 := blk_frozen BK758.out 2) | (go_at_call 41; (with_reducible refine (coord_Less.calls kj3 a0_0 a0_1 a0_2 a0_0 a0_1 a0_2 false _ (gS HG) A50.out).mono ?_); rintro e w133 ⟨rfl, hb⟩; replace BK758 := kB BK758 hb; replace BK759 := kB BK759 hb; replace BK760 := kB BK760 hb; replace BK765 := kB BK765 hb; replace HB := sB hb; (try clear hb); have hcz134_0 : w133.cell? ⟨gb758, 0, none⟩ = some (.string a0_0) := (blk_cell BK758.out 0).trans rfl; have hcz134_1 : w133.cell? ⟨gb758, 1, none⟩ = some (.string a0_1) := (blk_cell BK758.out 1).trans rfl; have hcz134_2 : w133.cell? ⟨gb758, 2, none⟩ = some (.string a0_2) := (blk_cell BK758.out 2).trans rfl; have hfz134_0 := blk_frozen BK758.out 0; have hfz134_1 := blk_frozen BK758.out 1; have hfz134_2 := blk_frozen BK758.out 2; have hnb135 := NB759_760.out; have hnc135 := NB760_759.out; have hnb136 := NB759_765.out; have hnc136 := NB765_759.out; have hcz137_0 : w133.cell? ⟨gb759, 0, none⟩ = some (.string a1_0) := (blk_cell BK759.out 0).trans rfl; have hcz137_1 : w133.cell? ⟨gb759, 1, none⟩ = some (.string a1_1) := (blk_cell BK759.out 1).trans rfl; have hcz137_2 : w133.cell? ⟨gb759, 2, none⟩ = some (.string a1_2) := (blk_cell BK759.out 2).trans rfl; have hfz137_0 := blk_frozen BK759.out 0; have hfz137_1 := blk_frozen BK759.out 1; have hfz137_2 := blk_frozen BK759.out 2; have hnb138 := NB765_760.out; have hnc138 := NB760_765.out; have hcz139_0 : w133.cell? ⟨gb765, 0, none⟩ = some (.string a0_0) := (blk_cell BK765.out 0).trans rfl; have hcz139_1 : w133.cell? ⟨gb765, 1, none⟩ = some (.string a0_1) := (blk_cell BK765.out 1).trans rfl; have hcz139_2 : w133.cell? ⟨gb765, 2, none⟩ = some (.string a1_2) := (blk_cell BK765.out 2).trans rfl; have hfz139_0 := blk_frozen BK765.out 0; have hfz139_1 := blk_frozen BK765.out 1; have hfz139_2 := blk_frozen BK765.out 2) | (go_at_call 41; (with_reducible refine (coord_Less.calls kj3 a0_0 a0_1 a0_2 a0_0 a0_1 a1_2 false _ (gS HG) A111.out).mono ?_); rintro e w140 ⟨rfl, hb⟩; replace BK758 := kB BK758 hb; replace BK759 := kB BK759 hb; replace BK760 := kB BK760 hb; replace BK765 := kB BK765 hb; replace HB := sB hb; (try clear hb); have hcz141_0 : w140.cell? ⟨gb765, 0, none⟩ = some (.string a0_0) := (blk_cell BK765.out 0).trans rfl; have hcz141_1 : w140.cell? ⟨gb765, 1, none⟩ = some (.string a0_1) := (blk_cell BK765.out 1).trans rfl; have hcz141_2 : w140.cell? ⟨gb765, 2, none⟩ = some (.string a1_2) := (blk_cell BK765.out 2).trans rfl; have hfz141_0 := blk_frozen BK765.out 0; have hfz141_1 := blk_frozen BK765.out 1; have hfz141_2 := blk_frozen BK765.out 2; have hcz142_0 : w140.cell? ⟨gb758, 0, none⟩ = some (.string a0_0) := (blk_cell BK758.out 0).trans rfl; have hcz142_1 : w140.cell? ⟨gb758, 1, none⟩ = some (.string a0_1) := (blk_cell BK758.out 1).trans rfl; have hcz142_2 : w140.cell? ⟨gb758, 2, none⟩ = some (.string a0_2) := (blk_cell BK758.out 2).trans rfl; have hfz142_0 := blk_frozen BK758.out 0; have hfz142_1 := blk_frozen BK758.out 1; have hfz142_2 := blk_frozen BK758.out 2) | (go_at_call 41; (with_reducible refine (coord_Less.calls kj3 a0_0 a0_1 a1_2 a0_0 a0_1 a0_2 true _ (gS HG) A126.out).mono ?_); rintro e w143 ⟨rfl, hb⟩; replace BK758 := kB BK758 hb; replace BK759 := kB BK759 hb; replace BK760 := kB BK760 hb; replace BK765 := kB BK765 hb; replace HB := sB hb; (try clear hb)))
    go_meet
    case rel => exact ⟨_, (true), cA, H', ⟨by have := HJ3.out; first | omega | exact Nat.le_refl _⟩, ⟨bK BK758⟩, ⟨bK BK759⟩, ⟨bK BK760⟩, ⟨bK BK765⟩, ⟨bG⟩⟩
   replace c127 := Bool.eq_false_iff.mpr c127
   subst c127
   have H1 : (newellaw09_CoordOrder.j1 kj3 (a0_2.toList == a1_2.toList)) = some r := by rw [if_neg (show ¬ (false = true) by decide)] at H; exact H
   clear H
   have H := H1
   clear H1
   have H' := Aside0.mk H
   clear H
   go_wp2_with (first | ((with_reducible refine gate_callee (f := 24) rfl ?_); refine gl (some 41) Tryd.func24 #[] ?_; (with_reducible refine (newellaw09_awake.calls kj3  true _ (gS HG) A45.out).mono ?_); rintro e w144 ⟨rfl, hb⟩; refine ⟨_, rfl, ?_⟩; replace BK758 := Aside0.mk (blk_below (g := gb758) (o := .cells #[.string a0_0, .string a0_1, .string a0_2] 32 (0, 0)) (by (with_reducible repeat (first | refine blk_drewN ?_ _ | refine blk_drew ?_ | refine blk_alloc ?_ _)); refine blk_far ?_ NB758_765.out _; (with_reducible repeat (first | refine blk_drewN ?_ _ | refine blk_drew ?_ | refine blk_alloc ?_ _)); refine blk_far ?_ NB758_765.out _; (with_reducible repeat (first | refine blk_drewN ?_ _ | refine blk_drew ?_ | refine blk_alloc ?_ _)); refine blk_far ?_ NB758_765.out _; (with_reducible repeat (first | refine blk_drewN ?_ _ | refine blk_drew ?_ | refine blk_alloc ?_ _)); refine blk_far ?_ NB758_765.out _; (with_reducible repeat (first | refine blk_drewN ?_ _ | refine blk_drew ?_ | refine blk_alloc ?_ _)); exact BK758.out) hb); replace BK759 := Aside0.mk (blk_below (g := gb759) (o := .cells #[.string a1_0, .string a1_1, .string a1_2] 32 (0, 0)) (by (with_reducible repeat (first | refine blk_drewN ?_ _ | refine blk_drew ?_ | refine blk_alloc ?_ _)); refine blk_far ?_ NB759_765.out _; (with_reducible repeat (first | refine blk_drewN ?_ _ | refine blk_drew ?_ | refine blk_alloc ?_ _)); refine blk_far ?_ NB759_765.out _; (with_reducible repeat (first | refine blk_drewN ?_ _ | refine blk_drew ?_ | refine blk_alloc ?_ _)); refine blk_far ?_ NB759_765.out _; (with_reducible repeat (first | refine blk_drewN ?_ _ | refine blk_drew ?_ | refine blk_alloc ?_ _)); refine blk_far ?_ NB759_765.out _; (with_reducible repeat (first | refine blk_drewN ?_ _ | refine blk_drew ?_ | refine blk_alloc ?_ _)); exact BK759.out) hb); replace BK760 := Aside0.mk (blk_below (g := gb760) (o := .cells #[.string a2_0, .string a2_1, .string a2_2] 32 (0, 0)) (by (with_reducible repeat (first | refine blk_drewN ?_ _ | refine blk_drew ?_ | refine blk_alloc ?_ _)); refine blk_far ?_ NB760_765.out _; (with_reducible repeat (first | refine blk_drewN ?_ _ | refine blk_drew ?_ | refine blk_alloc ?_ _)); refine blk_far ?_ NB760_765.out _; (with_reducible repeat (first | refine blk_drewN ?_ _ | refine blk_drew ?_ | refine blk_alloc ?_ _)); refine blk_far ?_ NB760_765.out _; (with_reducible repeat (first | refine blk_drewN ?_ _ | refine blk_drew ?_ | refine blk_alloc ?_ _)); refine blk_far ?_ NB760_765.out _; (with_reducible repeat (first | refine blk_drewN ?_ _ | refine blk_drew ?_ | refine blk_alloc ?_ _)); exact BK760.out) hb); replace BK765 := Aside0.mk (blk_below (g := gb765) (o := .cells #[.string a0_0, .string a0_1, .string a1_2] 32 (0, 0)) (bP BK765) hb); replace HB := sB hb; (try clear hb); have hnb145 := NB758_759.out; have hnc145 := NB759_758.out; have hnb146 := NB758_760.out; have hnc146 := NB760_758.out; have hnb147 := NB758_765.out; have hnc147 := NB765_758.out; have hcz148_0 : w144.cell? ⟨gb758, 0, none⟩ = some (.string a0_0) := (blk_cell BK758.out 0).trans rfl; have hcz148_1 : w144.cell? ⟨gb758, 1, none⟩ = some (.string a0_1) := (blk_cell BK758.out 1).trans rfl; have hcz148_2 : w144.cell? ⟨gb758, 2, none⟩ = some (.string a0_2) := (blk_cell BK758.out 2).trans rfl; have hfz148_0 := blk_frozen BK758.out 0; have hfz148_1 := blk_frozen BK758.out 1; have hfz148_2 := blk_frozen BK758.out 2) | (go_at_call 41; (with_reducible refine (coord_Less.calls kj3 a0_0 a0_1 a0_2 a0_0 a0_1 a0_2 false _ (gS HG) A50.out).mono ?_); rintro e w149 ⟨rfl, hb⟩; replace BK758 := kB BK758 hb; replace BK759 := kB BK759 hb; replace BK760 := kB BK760 hb; replace BK765 := kB BK765 hb; replace HB := sB hb; (try clear hb); have hcz150_0 : w149.cell? ⟨gb758, 0, none⟩ = some (.string a0_0) := (blk_cell BK758.out 0).trans rfl; have hcz150_1 : w149.cell? ⟨gb758, 1, none⟩ = some (.string a0_1) := (blk_cell BK758.out 1).trans rfl; have hcz150_2 : w149.cell? ⟨gb758, 2, none⟩ = some (.string a0_2) := (blk_cell BK758.out 2).trans rfl; have hfz150_0 := blk_frozen BK758.out 0; have hfz150_1 := blk_frozen BK758.out 1; have hfz150_2 := blk_frozen BK758.out 2; have hnb151 := NB759_760.out; have hnc151 := NB760_759.out; have hnb152 := NB759_765.out; have hnc152 := NB765_759.out; have hcz153_0 : w149.cell? ⟨gb759, 0, none⟩ = some (.string a1_0) := (blk_cell BK759.out 0).trans rfl; have hcz153_1 : w149.cell? ⟨gb759, 1, none⟩ = some (.string a1_1) := (blk_cell BK759.out 1).trans rfl; have hcz153_2 : w149.cell? ⟨gb759, 2, none⟩ = some (.string a1_2) := (blk_cell BK759.out 2).trans rfl; have hfz153_0 := blk_frozen BK759.out 0; have hfz153_1 := blk_frozen BK759.out 1; have hfz153_2 := blk_frozen BK759.out 2; have hnb154 := NB765_760.out; have hnc154 := NB760_765.out; have hcz155_0 : w149.cell? ⟨gb765, 0, none⟩ = some (.string a0_0) := (blk_cell BK765.out 0).trans rfl; have hcz155_1 : w149.cell? ⟨gb765, 1, none⟩ = some (.string a0_1) := (blk_cell BK765.out 1).trans rfl; have hcz155_2 : w149.cell? ⟨gb765, 2, none⟩ = some (.string a1_2) := (blk_cell BK765.out 2).trans rfl; have hfz155_0 := blk_frozen BK765.out 0; have hfz155_1 := blk_frozen BK765.out 1; have hfz155_2 := blk_frozen BK765.out 2) | (go_at_call 41; (with_reducible refine (coord_Less.calls kj3 a0_0 a0_1 a0_2 a0_0 a0_1 a1_2 false _ (gS HG) A111.out).mono ?_); rintro e w156 ⟨rfl, hb⟩; replace BK758 := kB BK758 hb; replace BK759 := kB BK759 hb; replace BK760 := kB BK760 hb; replace BK765 := kB BK765 hb; replace HB := sB hb; (try clear hb); have hcz157_0 : w156.cell? ⟨gb765, 0, none⟩ = some (.string a0_0) := (blk_cell BK765.out 0).trans rfl; have hcz157_1 : w156.cell? ⟨gb765, 1, none⟩ = some (.string a0_1) := (blk_cell BK765.out 1).trans rfl; have hcz157_2 : w156.cell? ⟨gb765, 2, none⟩ = some (.string a1_2) := (blk_cell BK765.out 2).trans rfl; have hfz157_0 := blk_frozen BK765.out 0; have hfz157_1 := blk_frozen BK765.out 1; have hfz157_2 := blk_frozen BK765.out 2; have hcz158_0 : w156.cell? ⟨gb758, 0, none⟩ = some (.string a0_0) := (blk_cell BK758.out 0).trans rfl; have hcz158_1 : w156.cell? ⟨gb758, 1, none⟩ = some (.string a0_1) := (blk_cell BK758.out 1).trans rfl; have hcz158_2 : w156.cell? ⟨gb758, 2, none⟩ = some (.string a0_2) := (blk_cell BK758.out 2).trans rfl; have hfz158_0 := blk_frozen BK758.out 0; have hfz158_1 := blk_frozen BK758.out 1; have hfz158_2 := blk_frozen BK758.out 2) | (go_at_call 41; (with_reducible refine (coord_Less.calls kj3 a0_0 a0_1 a1_2 a0_0 a0_1 a0_2 false _ (gS HG) A126.out).mono ?_); rintro e w159 ⟨rfl, hb⟩; replace BK758 := kB BK758 hb; replace BK759 := kB BK759 hb; replace BK760 := kB BK760 hb; replace BK765 := kB BK765 hb; replace HB := sB hb; (try clear hb); have hcz160_0 : w159.cell? ⟨gb758, 0, none⟩ = some (.string a0_0) := (blk_cell BK758.out 0).trans rfl; have hcz160_1 : w159.cell? ⟨gb758, 1, none⟩ = some (.string a0_1) := (blk_cell BK758.out 1).trans rfl; have hcz160_2 : w159.cell? ⟨gb758, 2, none⟩ = some (.string a0_2) := (blk_cell BK758.out 2).trans rfl; have hfz160_0 := blk_frozen BK758.out 0; have hfz160_1 := blk_frozen BK758.out 1; have hfz160_2 := blk_frozen BK758.out 2; have hcz161_0 : w159.cell? ⟨gb759, 0, none⟩ = some (.string a1_0) := (blk_cell BK759.out 0).trans rfl; have hcz161_1 : w159.cell? ⟨gb759, 1, none⟩ = some (.string a1_1) := (blk_cell BK759.out 1).trans rfl; have hcz161_2 : w159.cell? ⟨gb759, 2, none⟩ = some (.string a1_2) := (blk_cell BK759.out 2).trans rfl; have hfz161_0 := blk_frozen BK759.out 0; have hfz161_1 := blk_frozen BK759.out 1; have hfz161_2 := blk_frozen BK759.out 2))
   go_meet
   case rel => exact ⟨_, ((a0_2.toList == a1_2.toList)), cA, H', ⟨by have := HJ3.out; first | omega | exact Nat.le_refl _⟩, ⟨bK BK758⟩, ⟨bK BK759⟩, ⟨bK BK760⟩, ⟨bK BK765⟩, ⟨bG⟩⟩
  clear HC30
  try clear c1
  try clear c2
  try clear p2
  try clear c3
  try clear c4
  try clear c5
  try clear c6
  try clear c7
  try clear c8
  try clear c9
  try clear c10
  try clear c11
  try clear c12
  try clear c13
  try clear c14
  try clear c15
  try clear c16
  try clear c17
  try clear c18
  try clear c19
  try clear c20
  try clear c21
  try clear c22
  try clear c23
  try clear c24
  try clear c25
  try clear c26
  try clear c27
  try clear c28
  try clear c29
  try clear c30
  try clear c31
  try clear c32
  try clear c33
  try clear c34
  try clear c35
  try clear c36
  try clear c37
  try clear c38
  try clear c39
  try clear c40
  try clear c41
  try clear c43
  try clear c46
  try clear c47
  try clear c48
  try clear c49
  try clear c51
  try clear c53
  try clear c54
  try clear c55
  try clear c58
  try clear c58b0
  try clear c58b1
  try clear c60
  try clear c62
  try clear c63
  try clear c64
  try clear c68
  try clear c69
  try clear c71
  try clear c75
  try clear c77
  try clear c78
  try clear c79
  try clear c83
  try clear c84
  try clear c86
  try clear c93
  try clear c94
  try clear c95
  try clear c99
  try clear c100
  try clear c102
  try clear c110
  try clear c110b0
  try clear c110b1
  try clear c110b2
  try clear c112
  try clear c114
  try clear c115
  try clear c116
  try clear c120
  try clear c121
  try clear c123
  try clear c127
  try clear c129
  try clear c130
  try clear c131
  try clear c135
  try clear c136
  try clear c138
  try clear c145
  try clear c146
  try clear c147
  try clear c151
  try clear c152
  try clear c154
  try clear c163
  try clear c164
  try clear c165
  try clear c169
  try clear c170
  try clear c174
  try clear c176
  try clear c177
  try clear c178
  try clear c181
  try clear c181b0
  try clear c181b1
  try clear c183
  try clear c185
  try clear c186
  try clear c187
  try clear c191
  try clear c192
  try clear c194
  try clear c198
  try clear c200
  try clear c201
  try clear c202
  try clear c206
  try clear c207
  try clear c209
  try clear c216
  try clear c217
  try clear c218
  try clear c222
  try clear c223
  try clear c225
  try clear c233
  try clear c233b0
  try clear c233b1
  try clear c233b2
  try clear c235
  try clear c237
  try clear c238
  try clear c239
  try clear c243
  try clear c244
  try clear c246
  try clear c250
  try clear c252
  try clear c253
  try clear c254
  try clear c258
  try clear c259
  try clear c261
  try clear c268
  try clear c269
  try clear c270
  try clear c274
  try clear c275
  try clear c277
  try clear c286
  try clear c287
  try clear c288
  try clear c292
  try clear c293
  try clear c296
  try clear c298
  try clear c299
  try clear c300
  try clear c303
  try clear c303b0
  try clear c303b1
  try clear c305
  try clear c307
  try clear c308
  try clear c309
  try clear c313
  try clear c314
  try clear c316
  try clear c320
  try clear c322
  try clear c323
  try clear c324
  try clear c328
  try clear c329
  try clear c331
  try clear c338
  try clear c339
  try clear c340
  try clear c344
  try clear c345
  try clear c347
  try clear c355
  try clear c355b0
  try clear c355b1
  try clear c355b2
  try clear c357
  try clear c359
  try clear c360
  try clear c361
  try clear c365
  try clear c366
  try clear c368
  try clear c372
  try clear c374
  try clear c375
  try clear c376
  try clear c380
  try clear c381
  try clear c383
  try clear c390
  try clear c391
  try clear c392
  try clear c396
  try clear c397
  try clear c399
  try clear c408
  try clear c409
  try clear c410
  try clear c414
  try clear c415
  try clear hcz101_0
  try clear hcz101_1
  try clear hcz101_2
  try clear hcz103_0
  try clear hcz103_1
  try clear hcz103_2
  try clear hcz105_0
  try clear hcz105_1
  try clear hcz105_2
  try clear hcz106_0
  try clear hcz106_1
  try clear hcz106_2
  try clear hcz108_0
  try clear hcz108_1
  try clear hcz108_2
  try clear hcz109_0
  try clear hcz109_1
  try clear hcz109_2
  try clear hcz117_0
  try clear hcz117_1
  try clear hcz117_2
  try clear hcz119_0
  try clear hcz119_1
  try clear hcz119_2
  try clear hcz122_0
  try clear hcz122_1
  try clear hcz122_2
  try clear hcz124_0
  try clear hcz124_1
  try clear hcz124_2
  try clear hcz132_0
  try clear hcz132_1
  try clear hcz132_2
  try clear hcz134_0
  try clear hcz134_1
  try clear hcz134_2
  try clear hcz137_0
  try clear hcz137_1
  try clear hcz137_2
  try clear hcz139_0
  try clear hcz139_1
  try clear hcz139_2
  try clear hcz141_0
  try clear hcz141_1
  try clear hcz141_2
  try clear hcz142_0
  try clear hcz142_1
  try clear hcz142_2
  try clear hcz148_0
  try clear hcz148_1
  try clear hcz148_2
  try clear hcz150_0
  try clear hcz150_1
  try clear hcz150_2
  try clear hcz153_0
  try clear hcz153_1
  try clear hcz153_2
  try clear hcz155_0
  try clear hcz155_1
  try clear hcz155_2
  try clear hcz157_0
  try clear hcz157_1
  try clear hcz157_2
  try clear hcz158_0
  try clear hcz158_1
  try clear hcz158_2
  try clear hcz160_0
  try clear hcz160_1
  try clear hcz160_2
  try clear hcz161_0
  try clear hcz161_1
  try clear hcz161_2
  try clear hcz166_0
  try clear hcz166_1
  try clear hcz166_2
  try clear hcz168_0
  try clear hcz168_1
  try clear hcz168_2
  try clear hcz171_0
  try clear hcz171_1
  try clear hcz171_2
  try clear hcz179_0
  try clear hcz179_1
  try clear hcz179_2
  try clear hcz188_0
  try clear hcz188_1
  try clear hcz188_2
  try clear hcz190_0
  try clear hcz190_1
  try clear hcz190_2
  try clear hcz193_0
  try clear hcz193_1
  try clear hcz193_2
  try clear hcz195_0
  try clear hcz195_1
  try clear hcz195_2
  try clear hcz203_0
  try clear hcz203_1
  try clear hcz203_2
  try clear hcz205_0
  try clear hcz205_1
  try clear hcz205_2
  try clear hcz208_0
  try clear hcz208_1
  try clear hcz208_2
  try clear hcz210_0
  try clear hcz210_1
  try clear hcz210_2
  try clear hcz212_0
  try clear hcz212_1
  try clear hcz212_2
  try clear hcz213_0
  try clear hcz213_1
  try clear hcz213_2
  try clear hcz219_0
  try clear hcz219_1
  try clear hcz219_2
  try clear hcz221_0
  try clear hcz221_1
  try clear hcz221_2
  try clear hcz224_0
  try clear hcz224_1
  try clear hcz224_2
  try clear hcz226_0
  try clear hcz226_1
  try clear hcz226_2
  try clear hcz228_0
  try clear hcz228_1
  try clear hcz228_2
  try clear hcz229_0
  try clear hcz229_1
  try clear hcz229_2
  try clear hcz231_0
  try clear hcz231_1
  try clear hcz231_2
  try clear hcz232_0
  try clear hcz232_1
  try clear hcz232_2
  try clear hcz240_0
  try clear hcz240_1
  try clear hcz240_2
  try clear hcz242_0
  try clear hcz242_1
  try clear hcz242_2
  try clear hcz245_0
  try clear hcz245_1
  try clear hcz245_2
  try clear hcz247_0
  try clear hcz247_1
  try clear hcz247_2
  try clear hcz255_0
  try clear hcz255_1
  try clear hcz255_2
  try clear hcz257_0
  try clear hcz257_1
  try clear hcz257_2
  try clear hcz260_0
  try clear hcz260_1
  try clear hcz260_2
  try clear hcz262_0
  try clear hcz262_1
  try clear hcz262_2
  try clear hcz264_0
  try clear hcz264_1
  try clear hcz264_2
  try clear hcz265_0
  try clear hcz265_1
  try clear hcz265_2
  try clear hcz271_0
  try clear hcz271_1
  try clear hcz271_2
  try clear hcz273_0
  try clear hcz273_1
  try clear hcz273_2
  try clear hcz276_0
  try clear hcz276_1
  try clear hcz276_2
  try clear hcz278_0
  try clear hcz278_1
  try clear hcz278_2
  try clear hcz280_0
  try clear hcz280_1
  try clear hcz280_2
  try clear hcz281_0
  try clear hcz281_1
  try clear hcz281_2
  try clear hcz283_0
  try clear hcz283_1
  try clear hcz283_2
  try clear hcz284_0
  try clear hcz284_1
  try clear hcz284_2
  try clear hcz289_0
  try clear hcz289_1
  try clear hcz289_2
  try clear hcz291_0
  try clear hcz291_1
  try clear hcz291_2
  try clear hcz294_0
  try clear hcz294_1
  try clear hcz294_2
  try clear hcz301_0
  try clear hcz301_1
  try clear hcz301_2
  try clear hcz310_0
  try clear hcz310_1
  try clear hcz310_2
  try clear hcz312_0
  try clear hcz312_1
  try clear hcz312_2
  try clear hcz315_0
  try clear hcz315_1
  try clear hcz315_2
  try clear hcz317_0
  try clear hcz317_1
  try clear hcz317_2
  try clear hcz325_0
  try clear hcz325_1
  try clear hcz325_2
  try clear hcz327_0
  try clear hcz327_1
  try clear hcz327_2
  try clear hcz330_0
  try clear hcz330_1
  try clear hcz330_2
  try clear hcz332_0
  try clear hcz332_1
  try clear hcz332_2
  try clear hcz334_0
  try clear hcz334_1
  try clear hcz334_2
  try clear hcz335_0
  try clear hcz335_1
  try clear hcz335_2
  try clear hcz341_0
  try clear hcz341_1
  try clear hcz341_2
  try clear hcz343_0
  try clear hcz343_1
  try clear hcz343_2
  try clear hcz346_0
  try clear hcz346_1
  try clear hcz346_2
  try clear hcz348_0
  try clear hcz348_1
  try clear hcz348_2
  try clear hcz350_0
  try clear hcz350_1
  try clear hcz350_2
  try clear hcz351_0
  try clear hcz351_1
  try clear hcz351_2
  try clear hcz353_0
  try clear hcz353_1
  try clear hcz353_2
  try clear hcz354_0
  try clear hcz354_1
  try clear hcz354_2
  try clear hcz362_0
  try clear hcz362_1
  try clear hcz362_2
  try clear hcz364_0
  try clear hcz364_1
  try clear hcz364_2
  try clear hcz367_0
  try clear hcz367_1
  try clear hcz367_2
  try clear hcz369_0
  try clear hcz369_1
  try clear hcz369_2
  try clear hcz377_0
  try clear hcz377_1
  try clear hcz377_2
  try clear hcz379_0
  try clear hcz379_1
  try clear hcz379_2
  try clear hcz37_0
  try clear hcz37_1
  try clear hcz37_2
  try clear hcz382_0
  try clear hcz382_1
  try clear hcz382_2
  try clear hcz384_0
  try clear hcz384_1
  try clear hcz384_2
  try clear hcz386_0
  try clear hcz386_1
  try clear hcz386_2
  try clear hcz387_0
  try clear hcz387_1
  try clear hcz387_2
  try clear hcz393_0
  try clear hcz393_1
  try clear hcz393_2
  try clear hcz395_0
  try clear hcz395_1
  try clear hcz395_2
  try clear hcz398_0
  try clear hcz398_1
  try clear hcz398_2
  try clear hcz400_0
  try clear hcz400_1
  try clear hcz400_2
  try clear hcz402_0
  try clear hcz402_1
  try clear hcz402_2
  try clear hcz403_0
  try clear hcz403_1
  try clear hcz403_2
  try clear hcz405_0
  try clear hcz405_1
  try clear hcz405_2
  try clear hcz406_0
  try clear hcz406_1
  try clear hcz406_2
  try clear hcz411_0
  try clear hcz411_1
  try clear hcz411_2
  try clear hcz413_0
  try clear hcz413_1
  try clear hcz413_2
  try clear hcz416_0
  try clear hcz416_1
  try clear hcz416_2
  try clear hcz42_0
  try clear hcz42_1
  try clear hcz42_2
  try clear hcz44_0
  try clear hcz44_1
  try clear hcz44_2
  try clear hcz56_0
  try clear hcz56_1
  try clear hcz56_2
  try clear hcz65_0
  try clear hcz65_1
  try clear hcz65_2
  try clear hcz67_0
  try clear hcz67_1
  try clear hcz67_2
  try clear hcz70_0
  try clear hcz70_1
  try clear hcz70_2
  try clear hcz72_0
  try clear hcz72_1
  try clear hcz72_2
  try clear hcz80_0
  try clear hcz80_1
  try clear hcz80_2
  try clear hcz82_0
  try clear hcz82_1
  try clear hcz82_2
  try clear hcz85_0
  try clear hcz85_1
  try clear hcz85_2
  try clear hcz87_0
  try clear hcz87_1
  try clear hcz87_2
  try clear hcz89_0
  try clear hcz89_1
  try clear hcz89_2
  try clear hcz90_0
  try clear hcz90_1
  try clear hcz90_2
  try clear hcz96_0
  try clear hcz96_1
  try clear hcz96_2
  try clear hcz98_0
  try clear hcz98_1
  try clear hcz98_2
  try clear hfz101_0
  try clear hfz101_1
  try clear hfz101_2
  try clear hfz103_0
  try clear hfz103_1
  try clear hfz103_2
  try clear hfz105_0
  try clear hfz105_1
  try clear hfz105_2
  try clear hfz106_0
  try clear hfz106_1
  try clear hfz106_2
  try clear hfz108_0
  try clear hfz108_1
  try clear hfz108_2
  try clear hfz109_0
  try clear hfz109_1
  try clear hfz109_2
  try clear hfz117_0
  try clear hfz117_1
  try clear hfz117_2
  try clear hfz119_0
  try clear hfz119_1
  try clear hfz119_2
  try clear hfz122_0
  try clear hfz122_1
  try clear hfz122_2
  try clear hfz124_0
  try clear hfz124_1
  try clear hfz124_2
  try clear hfz132_0
  try clear hfz132_1
  try clear hfz132_2
  try clear hfz134_0
  try clear hfz134_1
  try clear hfz134_2
  try clear hfz137_0
  try clear hfz137_1
  try clear hfz137_2
  try clear hfz139_0
  try clear hfz139_1
  try clear hfz139_2
  try clear hfz141_0
  try clear hfz141_1
  try clear hfz141_2
  try clear hfz142_0
  try clear hfz142_1
  try clear hfz142_2
  try clear hfz148_0
  try clear hfz148_1
  try clear hfz148_2
  try clear hfz150_0
  try clear hfz150_1
  try clear hfz150_2
  try clear hfz153_0
  try clear hfz153_1
  try clear hfz153_2
  try clear hfz155_0
  try clear hfz155_1
  try clear hfz155_2
  try clear hfz157_0
  try clear hfz157_1
  try clear hfz157_2
  try clear hfz158_0
  try clear hfz158_1
  try clear hfz158_2
  try clear hfz160_0
  try clear hfz160_1
  try clear hfz160_2
  try clear hfz161_0
  try clear hfz161_1
  try clear hfz161_2
  try clear hfz166_0
  try clear hfz166_1
  try clear hfz166_2
  try clear hfz168_0
  try clear hfz168_1
  try clear hfz168_2
  try clear hfz171_0
  try clear hfz171_1
  try clear hfz171_2
  try clear hfz179_0
  try clear hfz179_1
  try clear hfz179_2
  try clear hfz188_0
  try clear hfz188_1
  try clear hfz188_2
  try clear hfz190_0
  try clear hfz190_1
  try clear hfz190_2
  try clear hfz193_0
  try clear hfz193_1
  try clear hfz193_2
  try clear hfz195_0
  try clear hfz195_1
  try clear hfz195_2
  try clear hfz203_0
  try clear hfz203_1
  try clear hfz203_2
  try clear hfz205_0
  try clear hfz205_1
  try clear hfz205_2
  try clear hfz208_0
  try clear hfz208_1
  try clear hfz208_2
  try clear hfz210_0
  try clear hfz210_1
  try clear hfz210_2
  try clear hfz212_0
  try clear hfz212_1
  try clear hfz212_2
  try clear hfz213_0
  try clear hfz213_1
  try clear hfz213_2
  try clear hfz219_0
  try clear hfz219_1
  try clear hfz219_2
  try clear hfz221_0
  try clear hfz221_1
  try clear hfz221_2
  try clear hfz224_0
  try clear hfz224_1
  try clear hfz224_2
  try clear hfz226_0
  try clear hfz226_1
  try clear hfz226_2
  try clear hfz228_0
  try clear hfz228_1
  try clear hfz228_2
  try clear hfz229_0
  try clear hfz229_1
  try clear hfz229_2
  try clear hfz231_0
  try clear hfz231_1
  try clear hfz231_2
  try clear hfz232_0
  try clear hfz232_1
  try clear hfz232_2
  try clear hfz240_0
  try clear hfz240_1
  try clear hfz240_2
  try clear hfz242_0
  try clear hfz242_1
  try clear hfz242_2
  try clear hfz245_0
  try clear hfz245_1
  try clear hfz245_2
  try clear hfz247_0
  try clear hfz247_1
  try clear hfz247_2
  try clear hfz255_0
  try clear hfz255_1
  try clear hfz255_2
  try clear hfz257_0
  try clear hfz257_1
  try clear hfz257_2
  try clear hfz260_0
  try clear hfz260_1
  try clear hfz260_2
  try clear hfz262_0
  try clear hfz262_1
  try clear hfz262_2
  try clear hfz264_0
  try clear hfz264_1
  try clear hfz264_2
  try clear hfz265_0
  try clear hfz265_1
  try clear hfz265_2
  try clear hfz271_0
  try clear hfz271_1
  try clear hfz271_2
  try clear hfz273_0
  try clear hfz273_1
  try clear hfz273_2
  try clear hfz276_0
  try clear hfz276_1
  try clear hfz276_2
  try clear hfz278_0
  try clear hfz278_1
  try clear hfz278_2
  try clear hfz280_0
  try clear hfz280_1
  try clear hfz280_2
  try clear hfz281_0
  try clear hfz281_1
  try clear hfz281_2
  try clear hfz283_0
  try clear hfz283_1
  try clear hfz283_2
  try clear hfz284_0
  try clear hfz284_1
  try clear hfz284_2
  try clear hfz289_0
  try clear hfz289_1
  try clear hfz289_2
  try clear hfz291_0
  try clear hfz291_1
  try clear hfz291_2
  try clear hfz294_0
  try clear hfz294_1
  try clear hfz294_2
  try clear hfz301_0
  try clear hfz301_1
  try clear hfz301_2
  try clear hfz310_0
  try clear hfz310_1
  try clear hfz310_2
  try clear hfz312_0
  try clear hfz312_1
  try clear hfz312_2
  try clear hfz315_0
  try clear hfz315_1
  try clear hfz315_2
  try clear hfz317_0
  try clear hfz317_1
  try clear hfz317_2
  try clear hfz325_0
  try clear hfz325_1
  try clear hfz325_2
  try clear hfz327_0
  try clear hfz327_1
  try clear hfz327_2
  try clear hfz330_0
  try clear hfz330_1
  try clear hfz330_2
  try clear hfz332_0
  try clear hfz332_1
  try clear hfz332_2
  try clear hfz334_0
  try clear hfz334_1
  try clear hfz334_2
  try clear hfz335_0
  try clear hfz335_1
  try clear hfz335_2
  try clear hfz341_0
  try clear hfz341_1
  try clear hfz341_2
  try clear hfz343_0
  try clear hfz343_1
  try clear hfz343_2
  try clear hfz346_0
  try clear hfz346_1
  try clear hfz346_2
  try clear hfz348_0
  try clear hfz348_1
  try clear hfz348_2
  try clear hfz350_0
  try clear hfz350_1
  try clear hfz350_2
  try clear hfz351_0
  try clear hfz351_1
  try clear hfz351_2
  try clear hfz353_0
  try clear hfz353_1
  try clear hfz353_2
  try clear hfz354_0
  try clear hfz354_1
  try clear hfz354_2
  try clear hfz362_0
  try clear hfz362_1
  try clear hfz362_2
  try clear hfz364_0
  try clear hfz364_1
  try clear hfz364_2
  try clear hfz367_0
  try clear hfz367_1
  try clear hfz367_2
  try clear hfz369_0
  try clear hfz369_1
  try clear hfz369_2
  try clear hfz377_0
  try clear hfz377_1
  try clear hfz377_2
  try clear hfz379_0
  try clear hfz379_1
  try clear hfz379_2
  try clear hfz37_0
  try clear hfz37_1
  try clear hfz37_2
  try clear hfz382_0
  try clear hfz382_1
  try clear hfz382_2
  try clear hfz384_0
  try clear hfz384_1
  try clear hfz384_2
  try clear hfz386_0
  try clear hfz386_1
  try clear hfz386_2
  try clear hfz387_0
  try clear hfz387_1
  try clear hfz387_2
  try clear hfz393_0
  try clear hfz393_1
  try clear hfz393_2
  try clear hfz395_0
  try clear hfz395_1
  try clear hfz395_2
  try clear hfz398_0
  try clear hfz398_1
  try clear hfz398_2
  try clear hfz400_0
  try clear hfz400_1
  try clear hfz400_2
  try clear hfz402_0
  try clear hfz402_1
  try clear hfz402_2
  try clear hfz403_0
  try clear hfz403_1
  try clear hfz403_2
  try clear hfz405_0
  try clear hfz405_1
  try clear hfz405_2
  try clear hfz406_0
  try clear hfz406_1
  try clear hfz406_2
  try clear hfz411_0
  try clear hfz411_1
  try clear hfz411_2
  try clear hfz413_0
  try clear hfz413_1
  try clear hfz413_2
  try clear hfz416_0
  try clear hfz416_1
  try clear hfz416_2
  try clear hfz42_0
  try clear hfz42_1
  try clear hfz42_2
  try clear hfz44_0
  try clear hfz44_1
  try clear hfz44_2
  try clear hfz56_0
  try clear hfz56_1
  try clear hfz56_2
  try clear hfz65_0
  try clear hfz65_1
  try clear hfz65_2
  try clear hfz67_0
  try clear hfz67_1
  try clear hfz67_2
  try clear hfz70_0
  try clear hfz70_1
  try clear hfz70_2
  try clear hfz72_0
  try clear hfz72_1
  try clear hfz72_2
  try clear hfz80_0
  try clear hfz80_1
  try clear hfz80_2
  try clear hfz82_0
  try clear hfz82_1
  try clear hfz82_2
  try clear hfz85_0
  try clear hfz85_1
  try clear hfz85_2
  try clear hfz87_0
  try clear hfz87_1
  try clear hfz87_2
  try clear hfz89_0
  try clear hfz89_1
  try clear hfz89_2
  try clear hfz90_0
  try clear hfz90_1
  try clear hfz90_2
  try clear hfz96_0
  try clear hfz96_1
  try clear hfz96_2
  try clear hfz98_0
  try clear hfz98_1
  try clear hfz98_2
  obtain ⟨kq, x6_29, rfl, HA, HJ29, BK758, BK759, BK760, BK765, HB⟩ := hcut
  cases kq with
  | zero => exact absurd HA.out (by simp [newellaw09_CoordOrder.j1])
  | succ kj29 =>
   have H := HA.out
   clear HA
   simp only [newellaw09_CoordOrder.j1] at H
   obtain rfl := Option.some.inj H
   go_wp2
   go_ret
   exact ⟨eA, bG⟩
end Go.Proofs.YtgdjfcmmpjcaaaaDoor.Q
namespace Go.Proofs.YtgdjfcmmpjcaaaaDoor.Q
open Go.RowKit Go.Proofs.YtgdjfcmmpjcaaaaDoorW.PrintWords Go.Proofs.YtgdjfcmmpjcaaaaDoorW.PrintLast Go.Proofs.YtgdjfcmmpjcaaaaDoorW.Own Go.Proofs.YtgdjfcmmpjcaaaaDoorW.PrintMore
set_option linter.unusedVariables false
set_option linter.unusedSimpArgs false
namespace Rd
open Go Go.RowKit
def Opens {α : Type} (t : TypeId) (d : Kd α) (wf : α → Prop) (bulk : α → Nat) : Prop :=
  Tryd.prog.cellsOf t = d.sz ∧ ∀ (H : Type) (enc : TypeId × Value → H) (W : World) (fuel : Nat) (cs : List Value) (dd : DataW H) (ps : List MemPlace),
    DataW.trod enc Tryd.prog W 0 (fun _ => true) true fuel t cs = some (dd, ps) → ∃ x, d.K W x cs ∧ wf x ∧ bulk x ≤ Rows.uptoBulk dd
theorem opens_string {t : TypeId} (hu : Tryd.prog.underlying t = some .string) (hc : Tryd.prog.cellsOf t = 1) : Opens t Kd.string (fun s => s.size ≤ maxLen) (fun s => s.size + 1) := by
  refine ⟨hc, fun H enc W fuel cs dd ps h => ?_⟩
  obtain ⟨s, rfl, hx, hw⟩ := DataW.trod_string hu h
  obtain ⟨rfl, rfl⟩ := Prod.mk.inj hx
  refine ⟨s, rfl, hw, ?_⟩
  have e : s.data.toList.length = s.size := by rw [Array.length_toList]; rfl
  simp only [Rows.uptoBulk]
  omega
def OpensF {β : Type} (fs : List Field) (off : Nat) (d : Kd β) (wf : β → Prop) (bulk : β → Nat) : Prop :=
  ∀ (H : Type) (enc : TypeId × Value → H) (W : World) (n : Nat) (cs : List Value) (xs : List (DataW H × List MemPlace)), xs.length = fs.length →
    (∀ (i : Nat) (f : Field), fs[i]? = some f → DataW.trod enc Tryd.prog W 0 (fun _ => true) true n f.type ((cs.drop f.offset).take (Tryd.prog.cellsOf f.type)) = xs[i]?) → cs.length = off + d.sz →
    ∃ x, d.K W x (cs.drop off) ∧ wf x ∧ bulk x ≤ Rows.uptoBulkAll (xs.map (·.1))
theorem OpensF.single {α : Type} {f : Field} {off : Nat} {d : Kd α} {wf : α → Prop} {bulk : α → Nat} (ho : f.offset = off) (h : Opens f.type d wf bulk) : OpensF [f] off d wf bulk := by
  intro H enc W n cs xs hl ht hc
  obtain ⟨hsz, hop⟩ := h
  obtain ⟨x0, rfl⟩ : ∃ x0, xs = [x0] := by
    match xs, hl with
    | [x0], _ => exact ⟨x0, rfl⟩
  have h0 := ht 0 f rfl
  rw [ho, hsz, List.take_of_length_le (by rw [List.length_drop]; omega)] at h0
  obtain ⟨x, hk, hw, hb⟩ := hop H enc W n _ _ _ h0
  exact ⟨x, hk, hw, by simpa [Rows.uptoBulkAll] using hb⟩
theorem OpensF.cons {α β : Type} {f : Field} {fs : List Field} {off off' : Nat} {a : Kd α} {b : Kd β} {wf : α → Prop} {bulk : α → Nat} {wf' : β → Prop} {bulk' : β → Nat} (ho : f.offset = off) (ho' : off' = off + a.sz) (h : Opens f.type a wf bulk) (hr : OpensF fs off' b wf' bulk') :
    OpensF (f :: fs) off (Kd.pair a b) (fun x => wf x.1 ∧ wf' x.2) (fun x => bulk x.1 + bulk' x.2) := by
  intro H enc W n cs xs hl ht hc
  subst ho'
  obtain ⟨hsz, hop⟩ := h
  obtain ⟨x0, xs', rfl⟩ : ∃ x0 xs', xs = x0 :: xs' := by
    match xs, hl with
    | x0 :: xs', _ => exact ⟨x0, xs', rfl⟩
  have h0 := ht 0 f rfl
  rw [ho, hsz] at h0
  obtain ⟨x, hk, hw, hb⟩ := hop H enc W n _ _ _ h0
  have hc' : cs.length = off + a.sz + b.sz := by
    have e : (Kd.pair a b).sz = a.sz + b.sz := rfl
    rw [e] at hc
    omega
  obtain ⟨y, hk', hw', hb'⟩ := hr H enc W n cs xs' (by simpa using hl) (fun i g hg => by have := ht (i + 1) g (by simpa using hg); simpa using this) hc'
  refine ⟨(x, y), ⟨(cs.drop off).take a.sz, cs.drop (off + a.sz), ?_, hk, hk'⟩, ⟨hw, hw'⟩, ?_⟩
  · rw [← List.drop_drop, List.take_append_drop]
  · simp only [List.map_cons, Rows.uptoBulkAll]
    omega
theorem opens_struct {α β : Type} {t : TypeId} {fs : Array Field} {d : Kd β} {wf : β → Prop} {bulk : β → Nat} (hu : Tryd.prog.underlying t = some (.struct fs)) (h : OpensF fs.toList 0 d wf bulk) (hc : Tryd.prog.cellsOf t = d.sz) (f : α → β) (g : β → α) (hg : ∀ x, f (g x) = x) :
    Opens t (Kd.iso d f) (fun x => wf (f x)) (fun x => bulk (f x) + 1) := by
  refine ⟨hc, fun H enc W fuel cs dd ps hh => ?_⟩
  obtain ⟨xs, n, rfl, hx, hcl, hlen, ht⟩ := DataW.trod_struct hu hh
  obtain ⟨rfl, rfl⟩ := Prod.mk.inj hx
  obtain ⟨x, hk, hw, hb⟩ := h H enc W n cs xs (by simpa using hlen) (fun i f hf => ht i f (by simpa using hf)) (by omega)
  refine ⟨g x, ?_, ?_, ?_⟩
  · show d.K W (f (g x)) cs
    rw [hg]
    exact hk
  · show wf (f (g x))
    rw [hg]
    exact hw
  · show bulk (f (g x)) + 1 ≤ _
    rw [hg]
    simp only [Rows.uptoBulk]
    omega
theorem glob {W : World} (h : W.ShapedOpen Tryd.prog) : Glob W :=
  cell_of_shapedOpen_int (g := 0) (t := 3) (zero := #[.int .i64 0]) (k := .i64) h (of_decide_eq_true (by kernel_rfl)) (by kernel_rfl) rfl (by kernel_rfl) (by kernel_rfl) Tryd.underlying3
end Rd
end Go.Proofs.YtgdjfcmmpjcaaaaDoor.Q
namespace Go.Proofs.YtgdjfcmmpjcaaaaDoor.Q
open Go.RowKit Go.Proofs.YtgdjfcmmpjcaaaaDoorW.PrintWords Go.Proofs.YtgdjfcmmpjcaaaaDoorW.PrintLast Go.Proofs.YtgdjfcmmpjcaaaaDoorW.Own Go.Proofs.YtgdjfcmmpjcaaaaDoorW.PrintMore
set_option linter.unusedVariables false
set_option linter.unusedSimpArgs false
theorem opensP32 : Rd.Opens 32 (Kd.iso (Kd.pair Kd.string (Kd.pair Kd.string Kd.string)) (fun x => x)) (fun x => (x.1.size ≤ maxLen ∧ (x.2.1.size ≤ maxLen ∧ x.2.2.size ≤ maxLen))) (fun x => ((x.1.size + 1) + ((x.2.1.size + 1) + (x.2.2.size + 1))) + 1) :=
  Rd.opens_struct (t := 32) Tryd.underlying32 (show Rd.OpensF _ 0 _ _ _ from (Rd.OpensF.cons (off' := 1) rfl (by kernel_rfl) (Rd.opens_string Tryd.underlying9 (by kernel_rfl)) (Rd.OpensF.cons (off' := 2) rfl (by kernel_rfl) (Rd.opens_string Tryd.underlying9 (by kernel_rfl)) (Rd.OpensF.single rfl (Rd.opens_string Tryd.underlying9 (by kernel_rfl)))))) (by kernel_rfl) (fun x => x) (fun x => x) (fun _ => rfl)
def newellaw09_CoordOrder.Pure : Prop := ∀ (a0_0 : ByteArray) (a0_1 : ByteArray) (a0_2 : ByteArray) (a1_0 : ByteArray) (a1_1 : ByteArray) (a1_2 : ByteArray) (a2_0 : ByteArray) (a2_1 : ByteArray) (a2_2 : ByteArray), (a0_0.size ≤ maxLen) → (a0_1.size ≤ maxLen) → (a0_2.size ≤ maxLen) → (a1_0.size ≤ maxLen) → (a1_1.size ≤ maxLen) → (a1_2.size ≤ maxLen) → (a2_0.size ≤ maxLen) → (a2_1.size ≤ maxLen) → (a2_2.size ≤ maxLen) → ∃ k, newellaw09_CoordOrder.f k a0_0 a0_1 a0_2 a1_0 a1_1 a1_2 a2_0 a2_1 a2_2 = some true
end Go.Proofs.YtgdjfcmmpjcaaaaDoor.Q
namespace Go.Proofs.YtgdjfcmmpjcaaaaDoor.Q
open Go.RowKit Go.Proofs.YtgdjfcmmpjcaaaaDoorW.PrintWords Go.Proofs.YtgdjfcmmpjcaaaaDoorW.PrintLast Go.Proofs.YtgdjfcmmpjcaaaaDoorW.Own Go.Proofs.YtgdjfcmmpjcaaaaDoorW.PrintMore
attribute [local go_sem] max2_int min2_int max_two min_two max_three min_three max_four min_four   -- for this text's walks alone
set_option linter.unusedVariables false
set_option linter.unusedSimpArgs false
end Go.Proofs.YtgdjfcmmpjcaaaaDoor.Q
namespace Go.Proofs.YtgdjfcmmpjcaaaaDoor.Q
open Go.RowKit Go.Proofs.YtgdjfcmmpjcaaaaDoorW.PrintWords Go.Proofs.YtgdjfcmmpjcaaaaDoorW.PrintLast Go.Proofs.YtgdjfcmmpjcaaaaDoorW.Own Go.Proofs.YtgdjfcmmpjcaaaaDoorW.PrintMore
attribute [local go_sem] max2_int min2_int max_two min_two max_three min_three max_four min_four   -- for this text's walks alone
set_option linter.unusedVariables false
set_option linter.unusedSimpArgs false
set_option maxHeartbeats 40000000
set_option maxRecDepth 100000
end Go.Proofs.YtgdjfcmmpjcaaaaDoor.Q
namespace Go.Proofs.YtgdjfcmmpjcaaaaDoor.Q
open Go.RowKit Go.Proofs.YtgdjfcmmpjcaaaaDoorW.PrintWords Go.Proofs.YtgdjfcmmpjcaaaaDoorW.PrintLast Go.Proofs.YtgdjfcmmpjcaaaaDoorW.Own Go.Proofs.YtgdjfcmmpjcaaaaDoorW.PrintMore
attribute [local go_sem] max2_int min2_int max_two min_two max_three min_three max_four min_four   -- for this text's walks alone
set_option linter.unusedVariables false
set_option linter.unusedSimpArgs false
end Go.Proofs.YtgdjfcmmpjcaaaaDoor.Q
namespace Go.Proofs.YtgdjfcmmpjcaaaaDoorW.Px
open Go
theorem ba_ext {a b : ByteArray} (h : a.data.toList = b.data.toList) : a = b := by
  cases a; cases b; simp at h; subst h; rfl
theorem ba_size (a : ByteArray) : a.size = a.data.toList.length := Array.length_toList.symm
theorem ba_append (a b : ByteArray) : (a ++ b).data.toList = a.data.toList ++ b.data.toList := by simp [ByteArray.data_append]
theorem ba_toList (a : ByteArray) : a.toList = a.data.toList := Lib.toList_data a
end Go.Proofs.YtgdjfcmmpjcaaaaDoorW.Px
namespace Go.Proofs.YtgdjfcmmpjcaaaaDoor.Q
open Go.RowKit Go.Proofs.YtgdjfcmmpjcaaaaDoorW.PrintWords Go.Proofs.YtgdjfcmmpjcaaaaDoorW.PrintLast Go.Proofs.YtgdjfcmmpjcaaaaDoorW.Own Go.Proofs.YtgdjfcmmpjcaaaaDoorW.PrintMore
attribute [local go_sem] max2_int min2_int max_two min_two max_three min_three max_four min_four   -- for this text's walks alone
set_option linter.unusedVariables false
set_option linter.unusedSimpArgs false
set_option maxHeartbeats 40000000
set_option maxRecDepth 100000
end Go.Proofs.YtgdjfcmmpjcaaaaDoor.Q
namespace Go.Proofs.YtgdjfcmmpjcaaaaDoor.Q
open Go.RowKit Go.Proofs.YtgdjfcmmpjcaaaaDoorW.PrintWords Go.Proofs.YtgdjfcmmpjcaaaaDoorW.PrintLast Go.Proofs.YtgdjfcmmpjcaaaaDoorW.Own Go.Proofs.YtgdjfcmmpjcaaaaDoorW.PrintMore
attribute [local go_sem] max2_int min2_int max_two min_two max_three min_three max_four min_four   -- for this text's walks alone
set_option linter.unusedVariables false
set_option linter.unusedSimpArgs false
theorem eqA38 (d : Nat) (w : World) (x0 y0 : Int) (x1 y1 : ByteArray) :
    (Op.equalIn (d + 2) 38 (.agg #[.int .i64 x0, .string x1]) (.agg #[.int .i64 y0, .string y1])).run Tryd.prog w = .ok (x0 == y0 && (x1.toList == y1.toList)) w := by
  refine eqA_of Tryd.underlying38 (by kernel_rfl) ?_
  refine eqf_cons (by rfl) (by go_simp; rfl) (by go_simp; rfl) (by go_simp) ?_
  exact eqf_last (by rfl) (by go_simp; rfl) (by go_simp; rfl) (by go_simp)
end Go.Proofs.YtgdjfcmmpjcaaaaDoor.Q
namespace Go.Proofs.YtgdjfcmmpjcaaaaDoor.Q
open Go.RowKit Go.Proofs.YtgdjfcmmpjcaaaaDoorW.PrintWords Go.Proofs.YtgdjfcmmpjcaaaaDoorW.PrintLast Go.Proofs.YtgdjfcmmpjcaaaaDoorW.Own Go.Proofs.YtgdjfcmmpjcaaaaDoorW.PrintMore
attribute [local go_sem] max2_int min2_int max_two min_two max_three min_three max_four min_four   -- for this text's walks alone
set_option linter.unusedVariables false
set_option linter.unusedSimpArgs false
set_option maxHeartbeats 40000000
set_option maxRecDepth 100000
section
attribute [local go_sem high] eqA38
end
end Go.Proofs.YtgdjfcmmpjcaaaaDoor.Q
namespace Go.Proofs.YtgdjfcmmpjcaaaaDoor.Pure
open Go Go.Proofs.YtgdjfcmmpjcaaaaDoorW.Px
set_option linter.unusedSimpArgs false
set_option linter.unusedVariables false
structure Pt where
  tx : List UInt8
  da : Bool
  nu : Bool
def isD (c : UInt8) : Bool := decide (48 ≤ c.toNat) && decide (c.toNat ≤ 57)
def lowB (c : UInt8) : UInt8 := if 65 ≤ c.toNat ∧ c.toNat ≤ 90 then c + 32 else c
def likeP (t : List UInt8) (c : UInt8) : Bool := match t.getLast? with
  | none => true
  | some d => isD d == isD c
def stepP (r : List Pt × Pt) (c : UInt8) : List Pt × Pt :=
  if c == 46 || c == 45 then (r.1 ++ [r.2], ⟨[], c == 45, false⟩)
  else if likeP r.2.tx c then (r.1, ⟨r.2.tx ++ [c], r.2.da, r.2.nu⟩)
  else (r.1 ++ [⟨r.2.tx, r.2.da, isD c⟩], ⟨[c], true, false⟩)
def runP (r : List Pt × Pt) (l : List UInt8) : List Pt × Pt := l.foldl stepP r
def allP (r : List Pt × Pt) : List Pt := r.1 ++ [r.2]
def p0 : List Pt × Pt := ([], ⟨[], false, false⟩)
def partsL (l : List UInt8) : List Pt := allP (runP p0 l)
abbrev Wl := Int × List UInt8
abbrev tA : List UInt8 := [97, 108, 112, 104, 97]
abbrev tB : List UInt8 := [98, 101, 116, 97]
abbrev tM : List UInt8 := [109, 105, 108, 101, 115, 116, 111, 110, 101]
abbrev tRc : List UInt8 := [114, 99]
abbrev tCr : List UInt8 := [99, 114]
abbrev tS : List UInt8 := [115, 110, 97, 112, 115, 104, 111, 116]
abbrev tGa : List UInt8 := [103, 97]
abbrev tFi : List UInt8 := [102, 105, 110, 97, 108]
abbrev tRe : List UInt8 := [114, 101, 108, 101, 97, 115, 101]
abbrev tSp : List UInt8 := [115, 112]
def kindL (t : List UInt8) (nu : Bool) : Int :=
  if t = tA ∨ nu = true ∧ t = [97] then 1
  else if t = tB ∨ nu = true ∧ t = [98] then 2
  else if t = tM ∨ nu = true ∧ t = [109] then 3
  else if t = tRc ∨ t = tCr then 4
  else if t = tS then 5
  else if t = tGa ∨ t = tFi ∨ t = tRe then 6
  else if t = tSp then 7
  else 8
def numL (t : List UInt8) (da : Bool) : Wl :=
  if t.dropWhile (· == 48) = [] then (6, []) else if da = true then (9, t.dropWhile (· == 48)) else (10, t.dropWhile (· == 48))
def letL (t : List UInt8) (nu : Bool) : Wl := if kindL t nu = 8 then (8, t) else (kindL t nu, [])
def numb (t : List UInt8) : Bool := match t with
  | [] => true
  | c :: _ => isD c
def wordL (p : Pt) : Wl := if numb p.tx = true then numL p.tx p.da else letL p.tx p.nu
def aheadL : List Wl → Bool
  | [] => false
  | w :: _ => w.1 == 6 || w.1 == 10
def pushL (w : Wl) (out : List Wl) : List Wl := if w.1 = 6 ∧ aheadL out = false then out else w :: out
def outL (l : List Pt) : List Wl := (l.map wordL).foldr pushL []
def splitL (l : List UInt8) : List Wl := outL (partsL (l.map lowB))
end Go.Proofs.YtgdjfcmmpjcaaaaDoor.Pure
namespace Go.Proofs.YtgdjfcmmpjcaaaaDoor.Pure
open Go Go.RowKit Go.Proofs.YtgdjfcmmpjcaaaaDoor.Q Go.Proofs.YtgdjfcmmpjcaaaaDoorW.PrintWords Go.Proofs.YtgdjfcmmpjcaaaaDoorW.PrintLast Go.Proofs.YtgdjfcmmpjcaaaaDoorW.Own Go.Proofs.YtgdjfcmmpjcaaaaDoorW.PrintMore Go.Proofs.YtgdjfcmmpjcaaaaDoorW.Px
set_option linter.unusedSimpArgs false
set_option linter.unusedVariables false
def ts (l : List UInt8) : ByteArray := ⟨l.toArray⟩
theorem ts_list (l : List UInt8) : (ts l).data.toList = l := rfl
theorem ts_toList (l : List UInt8) : (ts l).toList = l := by rw [ba_toList]; rfl
theorem ts_data (a : ByteArray) : ts a.data.toList = a := ba_ext rfl
theorem ts_size (l : List UInt8) : (ts l).size = l.length := by rw [ba_size]; rfl
theorem ts_append (a b : List UInt8) : ts a ++ ts b = ts (a ++ b) := ba_ext (by rw [ba_append]; rfl)
theorem bt_nat (l : List UInt8) (i : Nat) (h : i < l.length) : bt (ts l) (i : Int) = ((l[i].toNat : Nat) : Int) := by
  have h' : i < (ts l).size := by rw [ts_size]; exact h
  unfold bt
  simp [h']
  rfl
theorem num_byte (c : UInt8) : strOfNums [(c.toNat : Int)] = ts [c] := by
  apply ba_ext
  show [UInt8.ofNat (Int.toNat (c.toNat : Int))] = [c]
  rw [Int.toNat_natCast]; simp
theorem digit_told (c : UInt8) : chars_Digit.f (c.toNat : Int) = some (isD c) := by
  unfold chars_Digit.f isD
  by_cases h : (c.toNat : Int) ≥ 48
  · rw [if_pos h, decide_eq_true (show 48 ≤ c.toNat by omega), Bool.true_and]
    congr 1
    by_cases g : c.toNat ≤ 57
    · rw [decide_eq_true g, decide_eq_true (by omega)]
    · rw [decide_eq_false g, decide_eq_false (by omega)]
  · rw [if_neg h, decide_eq_false (show ¬ 48 ≤ c.toNat by omega), Bool.false_and]
def p93 (p : Pt) : S93 := ⟨ts p.tx, p.da, p.nu⟩
theorem last_of (n : Nat) (h : n < 4611686018427387904) : wrap64 (((n + 1 : Nat) : Int) - 1) = (n : Int) := by unfold wrap64; omega
theorem next_of (i : Nat) (h : i < 4611686018427387904) : wrap64 ((i : Int) + 1) = ((i + 1 : Nat) : Int) := by unfold wrap64; omega
theorem beq_toNat (c : UInt8) (n : Nat) (h : n < 256) : ((c.toNat : Int) = (n : Int)) ↔ c = UInt8.ofNat n := by
  constructor
  · intro h
    have : c.toNat = n := by omega
    rw [← this]; simp
  · rintro rfl
    simp; omega
section
variable {T : Type} (g : Pt → T)
theorem all_len (r : List Pt × Pt) : ((allP r).map g).length = r.1.length + 1 := by simp [allP]
theorem all_getD (r : List Pt × Pt) (z : T) : ((allP r).map g).getD ((r.1.length : Int)).toNat z = g r.2 := by
  simp [allP, List.getD_eq_getElem?_getD]
theorem all_set (r : List Pt × Pt) (x : T) : ((allP r).map g).set ((r.1.length : Int)).toNat x = r.1.map g ++ [x] := by
  simp [allP, List.set_append]
theorem all_put (r : List Pt × Pt) (p : Pt) (x : T) (h : x = g p) : ((allP r).map g).set ((r.1.length : Int)).toNat x = (allP (r.1, p)).map g := by
  rw [all_set, h]; simp [allP]
theorem all_add (r : List Pt × Pt) (p : Pt) (x : T) (h : x = g p) : (allP r).map g ++ [x] = (allP (r.1 ++ [r.2], p)).map g := by
  rw [h]; simp [allP]
end
theorem stepP_sep (r : List Pt × Pt) (c : UInt8) (h : c = 46 ∨ c = 45) : stepP r c = (r.1 ++ [r.2], ⟨[], c == 45, false⟩) := by
  unfold stepP
  rw [if_pos (by rcases h with rfl | rfl <;> decide)]
theorem stepP_like (r : List Pt × Pt) (c : UInt8) (h : ¬ (c = 46 ∨ c = 45)) (h2 : likeP r.2.tx c = true) : stepP r c = (r.1, ⟨r.2.tx ++ [c], r.2.da, r.2.nu⟩) := by
  unfold stepP
  rw [if_neg (by simpa using h), if_pos h2]
theorem stepP_new (r : List Pt × Pt) (c : UInt8) (h : ¬ (c = 46 ∨ c = 45)) (h2 : likeP r.2.tx c = false) : stepP r c = (r.1 ++ [⟨r.2.tx, r.2.da, isD c⟩], ⟨[c], true, false⟩) := by
  unfold stepP
  rw [if_neg (by simpa using h), h2, if_neg (by simp)]
theorem runP_drop (r : List Pt × Pt) (v : List UInt8) (i : Nat) (h : i < v.length) : runP r (v.drop i) = runP (stepP r v[i]) (v.drop (i + 1)) := by
  rw [List.drop_eq_getElem_cons h]; rfl
theorem like_last (t : List UInt8) (c : UInt8) (h : t ≠ []) : likeP t c = (isD (t.getLast h) == isD c) := by
  unfold likeP
  rw [List.getLast?_eq_some_getLast h]
def tailP (v : List UInt8) (i : Nat) (p : Pt) : Prop := p.tx = [] ∨ ∃ n, i = n + 1 ∧ p.tx.getLast? = v[n]?
theorem tail_next (v : List UInt8) (i : Nat) (h : i < v.length) (t : List UInt8) (a b : Bool) : tailP v (i + 1) ⟨t ++ [v[i]], a, b⟩ := by
  refine Or.inr ⟨i, rfl, ?_⟩
  simp [List.getElem?_eq_getElem h]
theorem parts_loop (v : List UInt8) (hv : v.length ≤ 1000000) : ∀ (d i k : Nat) (r : List Pt × Pt), i + d = v.length → r.1.length ≤ i → r.2.tx.length ≤ i → tailP v i r.2 →
    words_parts.l0 (k + d + 1) (ts v) ((allP r).map p93) (v.length : Int) (i : Int) = some ((allP (runP r (v.drop i))).map p93) := by
  intro d
  induction d with
  | zero =>
    intro i k r h _ _ _
    rw [words_parts.l0, if_neg (by omega), List.drop_eq_nil_of_le (by omega)]
    rfl
  | succ d ih =>
    intro i k r h h1 h2 h3
    have hi : i < v.length := by omega
    have q0 : (i : Int) < (v.length : Int) := by omega
    have q0' : (i : Int) < ((ts v).size : Int) := by rw [ts_size]; omega
    have hl := all_len p93 r
    have hx : wrap64 ((((allP r).map p93).length : Int) - 1) = (r.1.length : Int) := by rw [hl]; exact last_of _ (by omega)
    have q1 : (0 : Int) ≤ (r.1.length : Int) := by omega
    have q2 : (r.1.length : Int) < (((allP r).map p93).length : Int) := by rw [hl]; omega
    have q3 : (0 : Int) ≤ (i : Int) := by omega
    have q4 : ((allP r).map p93).length < 5864062014805 := by rw [hl]; omega
    have hn := next_of i (by omega)
    have hr : rd_T93 ((allP r).map p93) (r.1.length : Int) = p93 r.2 := all_getD p93 r _
    have hb := bt_nat v i hi
    have tn := tail_next v i hi
    have step : ∀ r', stepP r v[i] = r' → r'.1.length ≤ i + 1 → r'.2.tx.length ≤ i + 1 → tailP v (i + 1) r'.2 → words_parts.l0 (k + d + 1) (ts v) ((allP r').map p93) (v.length : Int) ((i + 1 : Nat) : Int) = some ((allP (runP r (v.drop i))).map p93) := by
      intro r' e a b t
      rw [ih (i + 1) k r' (by omega) a b t, runP_drop r v i hi, e]
    rw [show k + (d + 1) + 1 = (k + d + 1) + 1 from by omega, words_parts.l0, if_pos q0, if_pos q3, if_pos q0', hx, if_pos q1, if_pos q2, hr, hb, hn]
    generalize hc : v[i] = c at *
    by_cases c1 : c = 46
    · rw [if_pos (by rw [c1]; rfl), if_pos q4, all_add p93 r ⟨[], c == 45, false⟩ _ (by rw [c1]; rfl)]
      exact step _ (stepP_sep r c (Or.inl c1)) (by simp; omega) (by simp) (Or.inl rfl)
    · rw [if_neg (by rw [show (46 : Int) = ((46 : Nat) : Int) from rfl, beq_toNat c 46 (by omega)]; exact c1)]
      by_cases c2 : c = 45
      · rw [if_pos (by rw [c2]; rfl), if_pos q4, all_add p93 r ⟨[], c == 45, false⟩ _ (by rw [c2]; rfl)]
        exact step _ (stepP_sep r c (Or.inr c2)) (by simp; omega) (by simp) (Or.inl rfl)
      · rw [if_neg (by rw [show (45 : Int) = ((45 : Nat) : Int) from rfl, beq_toNat c 45 (by omega)]; exact c2)]
        have nc : ¬ (c = 46 ∨ c = 45) := by rintro (h | h); exact c1 h; exact c2 h
        have e1 : strOfNums [(c.toNat : Int)] = ts [c] := num_byte c
        have q7 : (p93 r.2).f0.size + (ts [c]).size ≤ 9223372036854775807 := by show (ts r.2.tx).size + (ts [c]).size ≤ _; rw [ts_size, ts_size]; simp; omega
        have same : likeP r.2.tx c = true → (if (p93 r.2).f0.size + (strOfNums [(c.toNat : Int)]).size ≤ 9223372036854775807 then (words_parts.l0 (k + d + 1) (ts v) (((allP r).map p93).set ((r.1.length : Int)).toNat (⟨(p93 r.2).f0 ++ (strOfNums [(c.toNat : Int)]), (p93 r.2).f1, (p93 r.2).f2⟩ : S93)) (v.length : Int) ((i + 1 : Nat) : Int)) else none) = some ((allP (runP r (v.drop i))).map p93) := by
          intro lk
          rw [e1, if_pos q7, all_put p93 r ⟨r.2.tx ++ [c], r.2.da, r.2.nu⟩ _ (by unfold p93; rw [ts_append])]
          exact step _ (stepP_like r c nc lk) (by simp; omega) (by simp; omega) (tn _ _ _)
        by_cases z : r.2.tx = []
        · have z' : (p93 r.2).f0.toList = ([] : List UInt8) := by show (ts r.2.tx).toList = []; rw [ts_toList]; exact z
          rw [if_pos z', Option.bind_some]
          exact same (by rw [z]; rfl)
        · have z' : ¬ (p93 r.2).f0.toList = ([] : List UInt8) := by show ¬ (ts r.2.tx).toList = []; rw [ts_toList]; exact z
          obtain ⟨n, hin, hlast⟩ : ∃ n, i = n + 1 ∧ r.2.tx.getLast? = v[n]? := by
            rcases h3 with h3 | h3
            · exact absurd h3 z
            · exact h3
          have hnv : n < v.length := by omega
          have hnn : n < 4611686018427387904 := by omega
          have hg : r.2.tx.getLast z = v[n] := by
            rw [List.getLast?_eq_some_getLast z, List.getElem?_eq_getElem hnv] at hlast
            exact Option.some.inj hlast
          have hp : wrap64 ((i : Int) - 1) = (n : Int) := by rw [hin]; exact last_of n hnn
          rw [if_neg z', digit_told, Option.bind_some, hp, if_pos (by omega), if_pos (by rw [ts_size]; omega), bt_nat v n hnv, digit_told, Option.bind_some, ← hg]
          by_cases e : isD (r.2.tx.getLast z) = isD c
          · rw [if_neg (by rw [e]; simp), Option.bind_some]
            exact same (by rw [like_last _ _ z, e]; simp)
          · rw [if_pos (by simpa using fun h => e h.symm), Option.bind_some, Option.bind_some]
            have ea : ((allP r).map p93).set ((r.1.length : Int)).toNat (⟨(p93 r.2).f0, (p93 r.2).f1, isD c⟩ : S93) = (allP (r.1, ⟨r.2.tx, r.2.da, isD c⟩)).map p93 := all_put p93 r _ _ rfl
            rw [ea]
            have la := all_len p93 (r.1, ⟨r.2.tx, r.2.da, isD c⟩)
            have q8 : ((allP (r.1, ⟨r.2.tx, r.2.da, isD c⟩)).map p93).length < 5864062014805 := by rw [la]; simp; omega
            rw [if_pos q8, Option.bind_some, all_add p93 (r.1, ⟨r.2.tx, r.2.da, isD c⟩) ⟨[], true, false⟩ (⟨(⟨#[]⟩ : ByteArray), true, false⟩ : S93) rfl]
            generalize hR : ((r.1 ++ [(⟨r.2.tx, r.2.da, isD c⟩ : Pt)], (⟨[], true, false⟩ : Pt)) : List Pt × Pt) = R
            have R1 : R.1 = r.1 ++ [(⟨r.2.tx, r.2.da, isD c⟩ : Pt)] := by rw [← hR]
            have R2 : R.2 = ⟨[], true, false⟩ := by rw [← hR]
            have Rl : R.1.length = r.1.length + 1 := by rw [R1]; simp
            have lR := all_len p93 R
            have hxR : wrap64 ((((allP R).map p93).length : Int) - 1) = (R.1.length : Int) := by rw [lR]; exact last_of _ (by omega)
            have hrR : rd_T93 ((allP R).map p93) (R.1.length : Int) = p93 R.2 := all_getD p93 R _
            rw [hxR, if_pos (by omega), if_pos (by rw [lR]; omega), Option.bind_some, hrR, e1]
            have q9 : (p93 R.2).f0.size + (ts [c]).size ≤ 9223372036854775807 := by rw [R2]; show (ts []).size + (ts [c]).size ≤ _; rw [ts_size, ts_size]; simp
            rw [if_pos q9, all_put p93 R ⟨[c], true, false⟩ _ (by rw [R2]; unfold p93; rw [ts_append]; rfl)]
            exact step (R.1, ⟨[c], true, false⟩) (by rw [stepP_new r c nc (by rw [like_last _ _ z]; simpa using e), R1]) (by simp; omega) (by simp) (tn [] true false)
theorem parts_told (v : List UInt8) (hv : v.length ≤ 1000000) (k : Nat) (hk : v.length + 1 ≤ k) : words_parts.f k (ts v) = some ((partsL v).map p93) := by
  have := parts_loop v hv v.length 0 (k - v.length - 1) p0 (by omega) (by simp [p0]) (by simp [p0]) (Or.inl rfl)
  rw [show k - v.length - 1 + v.length + 1 = k from by omega, ← ts_size v] at this
  exact this
end Go.Proofs.YtgdjfcmmpjcaaaaDoor.Pure
