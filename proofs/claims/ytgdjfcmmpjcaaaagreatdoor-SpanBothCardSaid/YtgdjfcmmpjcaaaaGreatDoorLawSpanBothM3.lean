/- Texts put together: what functions of the program compute, and plain words about them. -/
import Derived.Test.YtgdjfcmmpjcaaaaGreatDoorLawSpanBothM1
import Derived.Test.YtgdjfcmmpjcaaaaGreatDoorLawSpanBothM2
import Derived.Lib.OthersKept
import Derived.Lib.Hide
import Derived.LoopN
import Derived.Lib.IndexAny
import Derived.Lib.IndexBytes
import Derived.Laws.RangeString
import Derived.Laws.Strings3
import Derived.Laws.Runes
import Derived.Lib.DecodeN
import Derived.Shelf.Strings.IndexAny
namespace Go.Proofs.YtgdjfcmmpjcaaaaGreatDoor.Q
open Go.RowKit Go.Proofs.YtgdjfcmmpjcaaaaGreatDoorW.PrintWords Go.Proofs.YtgdjfcmmpjcaaaaGreatDoorW.PrintLast Go.Proofs.YtgdjfcmmpjcaaaaGreatDoorW.Own Go.Proofs.YtgdjfcmmpjcaaaaGreatDoorW.PrintMore
attribute [local go_sem] max2_int min2_int max_two min_two max_three min_three max_four min_four   -- for this text's walks alone
set_option linter.unusedVariables false
set_option linter.unusedSimpArgs false
set_option maxHeartbeats 20000000
set_option maxRecDepth 100000
mutual
def words_letters.j0 : Nat → ByteArray → ByteArray → Bool → Bool → Option (Int × ByteArray)
 | 0, _, _, _, _ => none
 | k + 1, x3, x148000, x148001, x148002 => if x3.toList = ([97, 108, 112, 104, 97] : List UInt8) then (some (1, (⟨#[]⟩ : ByteArray))) else (if x3.toList = ([98, 101, 116, 97] : List UInt8) then (some (2, (⟨#[]⟩ : ByteArray))) else (if x3.toList = ([109, 105, 108, 101, 115, 116, 111, 110, 101] : List UInt8) then (some (3, (⟨#[]⟩ : ByteArray))) else (if x3.toList = ([114, 99] : List UInt8) then (words_letters.j1 k x3 (x3.toList == ([114, 99] : List UInt8)) x148000 x148001 x148002) else (words_letters.j1 k x3 (x3.toList == ([99, 114] : List UInt8)) x148000 x148001 x148002))))
def words_letters.j1 : Nat → ByteArray → Bool → ByteArray → Bool → Bool → Option (Int × ByteArray)
 | 0, _, _, _, _, _ => none
 | k + 1, x16, x26, x148000, x148001, x148002 => if x26 = true then (some (4, (⟨#[]⟩ : ByteArray))) else (if x16.toList = ([115, 110, 97, 112, 115, 104, 111, 116] : List UInt8) then (some (5, (⟨#[]⟩ : ByteArray))) else (if x16.toList = ([103, 97] : List UInt8) then (words_letters.j2 k x16 (x16.toList == ([103, 97] : List UInt8)) x148000 x148001 x148002) else (if x16.toList = ([102, 105, 110, 97, 108] : List UInt8) then (words_letters.j2 k x16 (x16.toList == ([102, 105, 110, 97, 108] : List UInt8)) x148000 x148001 x148002) else (words_letters.j2 k x16 (x16.toList == ([114, 101, 108, 101, 97, 115, 101] : List UInt8)) x148000 x148001 x148002))))
def words_letters.j2 : Nat → ByteArray → Bool → ByteArray → Bool → Bool → Option (Int × ByteArray)
 | 0, _, _, _, _, _ => none
 | k + 1, x16, x31, x148000, x148001, x148002 => if x31 = true then (some (6, (⟨#[]⟩ : ByteArray))) else (if x16.toList = ([115, 112] : List UInt8) then (some (7, (⟨#[]⟩ : ByteArray))) else (some (8, x148000)))
end
def words_letters.f (k : Nat) (a0_0 : ByteArray) (a0_1 : Bool) (a0_2 : Bool) : Option (Int × ByteArray) := if a0_2 = true then (if a0_0.toList = ([97] : List UInt8) then (words_letters.j0 k (⟨#[97, 108, 112, 104, 97]⟩ : ByteArray) a0_0 a0_1 a0_2) else (if a0_0.toList = ([98] : List UInt8) then (words_letters.j0 k (⟨#[98, 101, 116, 97]⟩ : ByteArray) a0_0 a0_1 a0_2) else (if a0_0.toList = ([109] : List UInt8) then (words_letters.j0 k (⟨#[109, 105, 108, 101, 115, 116, 111, 110, 101]⟩ : ByteArray) a0_0 a0_1 a0_2) else (words_letters.j0 k a0_0 a0_0 a0_1 a0_2)))) else (words_letters.j0 k a0_0 a0_0 a0_1 a0_2)
theorem words_letters.mono_l : ∀ k, (∀ y0 y1 y2 y3, LeO (words_letters.j0 k y0 y1 y2 y3) (words_letters.j0 (k + 1) y0 y1 y2 y3)) ∧ (∀ y0 y1 y2 y3 y4, LeO (words_letters.j1 k y0 y1 y2 y3 y4) (words_letters.j1 (k + 1) y0 y1 y2 y3 y4)) ∧ (∀ y0 y1 y2 y3 y4, LeO (words_letters.j2 k y0 y1 y2 y3 y4) (words_letters.j2 (k + 1) y0 y1 y2 y3 y4))
 | 0 => ⟨fun _ _ _ _ r h => by simp [words_letters.j0] at h, fun _ _ _ _ _ r h => by simp [words_letters.j1] at h, fun _ _ _ _ _ r h => by simp [words_letters.j2] at h⟩
 | k + 1 => by
  obtain ⟨ih0, ih1, ih2⟩ := words_letters.mono_l k
  refine ⟨?_, ?_, ?_⟩
  ·intro y0 y1 y2 y3
   unfold words_letters.j0
   exact mo
  ·intro y0 y1 y2 y3 y4
   unfold words_letters.j1
   exact mo
  ·intro y0 y1 y2 y3 y4
   unfold words_letters.j2
   exact mo
theorem words_letters.mono : ∀ a0 a1 a2 k, LeO (words_letters.f k a0 a1 a2) (words_letters.f (k + 1) a0 a1 a2) := by
 intro a0 a1 a2 k
 obtain ⟨ih0, ih1, ih2⟩ := words_letters.mono_l k
 unfold words_letters.f
 exact mo
theorem words_letters.calls (k : Nat) (a0_0 : ByteArray) (a0_1 : Bool) (a0_2 : Bool) (r1 : Int) (r2 : ByteArray) (w : World) (hG : Glob w) (h : words_letters.f k a0_0 a0_1 a0_2 = some (r1, r2)) :
 Calls Tryz.prog 93 #[.agg #[.string a0_0, .bool a0_1, .bool a0_2]] w fun e w' => e = .returned (.agg #[.int .i64 r1, .string r2]) ∧ Below w.heap.size w w' := by
 have hu98 := Tryz.underlying98
 have hu85 := Tryz.underlying85
 have HG := Aside0.mk hG
 clear hG
 have HB := Aside0.mk (Below.refl w.heap.size w)
 have H : (if a0_2 = true then (if a0_0.toList = ([97] : List UInt8) then (words_letters.j0 k (⟨#[97, 108, 112, 104, 97]⟩ : ByteArray) a0_0 a0_1 a0_2) else (if a0_0.toList = ([98] : List UInt8) then (words_letters.j0 k (⟨#[98, 101, 116, 97]⟩ : ByteArray) a0_0 a0_1 a0_2) else (if a0_0.toList = ([109] : List UInt8) then (words_letters.j0 k (⟨#[109, 105, 108, 101, 115, 116, 111, 110, 101]⟩ : ByteArray) a0_0 a0_1 a0_2) else (words_letters.j0 k a0_0 a0_0 a0_1 a0_2)))) else (words_letters.j0 k a0_0 a0_0 a0_1 a0_2)) = some (r1, r2) := h
 clear h
 have HC2 := Aside0.mk H
 clear H
 go_enter Tryz.func93, Tryz.ntmps93
 go_upto_if 8 with (first | (refine be 1 #[.string a0_0, .bool a0_1, .bool a0_2] 98 ?_; intro gb147 hg w3 hbox hb; have BK147 := Aside0.mk (hbox); have GW147 := gW hg; have GE147 := gW hg; replace HB := sB hb; clear hb hbox hg) | (refine be 2 #[.int .i64 0, .string (⟨#[]⟩ : ByteArray)] 85 ?_; intro gb148 hg w4 hbox hb; have BK148 := Aside0.mk (hbox); have GW148 := gW hg; have GE148 := gW hg; replace HB := sB hb; have NB147_148 := nL BK147 hg; have NB148_147 := nG BK147 hg; replace BK147 := kB BK147 hb; clear hb hbox hg; have hnb5 := NB147_148.out; have hnc5 := NB148_147.out; have hcz6_0 : w4.cell? ⟨gb147, 0, none⟩ = some (.string a0_0) := (blk_cell BK147.out 0).trans rfl; have hcz6_1 : w4.cell? ⟨gb147, 1, none⟩ = some (.bool a0_1) := (blk_cell BK147.out 1).trans rfl; have hcz6_2 : w4.cell? ⟨gb147, 2, none⟩ = some (.bool a0_2) := (blk_cell BK147.out 2).trans rfl; have hfz6_0 := blk_frozen BK147.out 0; have hfz6_1 := blk_frozen BK147.out 1; have hfz6_2 := blk_frozen BK147.out 2))
 (try simp only [Act.put, List.setIfInBounds_toArray, List.set_cons_zero, List.set_cons_succ])
 go_cut [3] (fun v3 wc => ∃ (kq : Nat) (x3_1 : ByteArray), v3 = .string x3_1 ∧ Aside0 (words_letters.j0 kq x3_1 a0_0 a0_1 a0_2 = some (r1, r2)) ∧ Aside0 (kq ≤ k) ∧ Aside0 (wc.heap[gb147]? = some (.cells #[.string a0_0, .bool a0_1, .bool a0_2] 98 (0, 0))) ∧ Aside0 (wc.heap[gb148]? = some (.cells #[.int .i64 0, .string (⟨#[]⟩ : ByteArray)] 85 (0, 0))) ∧ Aside0 (Below w.heap.size w wc))
 case first =>
  have H := HC2.out
  clear HC2
  by_cases c7 : a0_2 = true
  rotate_left
  ·replace c7 := Bool.eq_false_iff.mpr c7
   subst c7
   replace H : (words_letters.j0 k a0_0 a0_0 a0_1 false) = some (r1, r2) := by rw [if_neg nF] at H; exact H
   have H' := Aside0.mk H
   clear H
   go_wp2
   go_meet
   case rel => exact ⟨_, (a0_0), cA, H', ⟨by first | omega | exact Nat.le_refl _⟩, ⟨bK BK147⟩, ⟨bK BK148⟩, ⟨bG⟩⟩
  subst c7
  replace H : (if a0_0.toList = ([97] : List UInt8) then (words_letters.j0 k (⟨#[97, 108, 112, 104, 97]⟩ : ByteArray) a0_0 a0_1 true) else (if a0_0.toList = ([98] : List UInt8) then (words_letters.j0 k (⟨#[98, 101, 116, 97]⟩ : ByteArray) a0_0 a0_1 true) else (if a0_0.toList = ([109] : List UInt8) then (words_letters.j0 k (⟨#[109, 105, 108, 101, 115, 116, 111, 110, 101]⟩ : ByteArray) a0_0 a0_1 true) else (words_letters.j0 k a0_0 a0_0 a0_1 true)))) = some (r1, r2) := by rw [if_pos rfl] at H; exact H
  by_cases c8 : a0_0.toList = ([97] : List UInt8)
  ·rw [if_pos c8] at H
   obtain ⟨c8b0, c8b1⟩ := eqT c8
   clear c8
   (first | rw [c8b0] | (simp only [i64_w, i32_w]; rw [c8b0]) | skip)
   have H' := Aside0.mk H
   clear H
   go_wp2
   go_meet
   case rel => exact ⟨_, ((⟨#[97, 108, 112, 104, 97]⟩ : ByteArray)), cA, H', ⟨by first | omega | exact Nat.le_refl _⟩, ⟨bK BK147⟩, ⟨bK BK148⟩, ⟨bG⟩⟩
  rw [if_neg c8] at H
  obtain ⟨c8b0, c8b1⟩ := eqF c8
  (first | rw [c8b0] | (simp only [i64_w, i32_w]; rw [c8b0]) | skip)
  by_cases c9 : a0_0.toList = ([98] : List UInt8)
  ·rw [if_pos c9] at H
   obtain ⟨c9b0, c9b1⟩ := eqT c9
   clear c9
   have H' := Aside0.mk H
   clear H
   go_wp2
   go_meet
   case rel => exact ⟨_, ((⟨#[98, 101, 116, 97]⟩ : ByteArray)), cA, H', ⟨by first | omega | exact Nat.le_refl _⟩, ⟨bK BK147⟩, ⟨bK BK148⟩, ⟨bG⟩⟩
  rw [if_neg c9] at H
  obtain ⟨c9b0, c9b1⟩ := eqF c9
  by_cases c10 : a0_0.toList = ([109] : List UInt8)
  rotate_left
  ·rw [if_neg c10] at H
   obtain ⟨c10b0, c10b1⟩ := eqF c10
   have H' := Aside0.mk H
   clear H
   go_wp2
   go_meet
   case rel => exact ⟨_, (a0_0), cA, H', ⟨by first | omega | exact Nat.le_refl _⟩, ⟨bK BK147⟩, ⟨bK BK148⟩, ⟨bG⟩⟩
  rw [if_pos c10] at H
  obtain ⟨c10b0, c10b1⟩ := eqT c10
  clear c10
  have H' := Aside0.mk H
  clear H
  go_wp2
  go_meet
  case rel => exact ⟨_, ((⟨#[109, 105, 108, 101, 115, 116, 111, 110, 101]⟩ : ByteArray)), cA, H', ⟨by first | omega | exact Nat.le_refl _⟩, ⟨bK BK147⟩, ⟨bK BK148⟩, ⟨bG⟩⟩
 clear HC2
 try clear c1
 try clear p2
 try clear c5
 try clear c7
 try clear c8
 try clear c8b0
 try clear c8b1
 try clear c9
 try clear c9b0
 try clear c9b1
 try clear c10
 try clear c10b0
 try clear c10b1
 try clear hcz6_0
 try clear hcz6_1
 try clear hcz6_2
 try clear hfz6_0
 try clear hfz6_1
 try clear hfz6_2
 obtain ⟨kq, x3_1, rfl, HA, HJ1, BK147, BK148, HB⟩ := hcut
 cases kq with
 | zero => exact absurd HA.out (by simp [words_letters.j0])
 | succ kj1 =>
  have H := HA.out
  clear HA
  simp only [words_letters.j0] at H
  (try simp only [toList_lit] at H)
  by_cases c11 : x3_1.toList = ([97, 108, 112, 104, 97] : List UInt8)
  ·rw [if_pos c11] at H
   obtain ⟨c11b0, c11b1⟩ := eqT c11
   clear c11
   simp only [Option.some.injEq, Prod.mk.injEq] at H
   obtain ⟨rfl, rfl⟩ := H
   have hnb12 := NB148_147.out
   have hnc12 := NB147_148.out
   obtain ⟨hcz13_0, hcz13_1, hfz13_0, hfz13_1⟩ := cells2 BK148
   go_wp2
   refine bodyPost_ret (results_cell_row rfl _ _ gb148 85 #[.int .i64 1, .string (⟨#[]⟩ : ByteArray)] (0, 0) _ rfl (bP BK148) Tryz.underlying85 rfl (by kernel_rfl)) rfl ?_
   exact ⟨eA, bG⟩
  rw [if_neg c11] at H
  obtain ⟨c11b0, c11b1⟩ := eqF c11
  by_cases c14 : x3_1.toList = ([98, 101, 116, 97] : List UInt8)
  ·rw [if_pos c14] at H
   obtain ⟨c14b0, c14b1⟩ := eqT c14
   clear c14
   simp only [Option.some.injEq, Prod.mk.injEq] at H
   obtain ⟨rfl, rfl⟩ := H
   have hnb15 := NB148_147.out
   have hnc15 := NB147_148.out
   obtain ⟨hcz16_0, hcz16_1, hfz16_0, hfz16_1⟩ := cells2 BK148
   go_wp2
   refine bodyPost_ret (results_cell_row rfl _ _ gb148 85 #[.int .i64 2, .string (⟨#[]⟩ : ByteArray)] (0, 0) _ rfl (bP BK148) Tryz.underlying85 rfl (by kernel_rfl)) rfl ?_
   exact ⟨eA, bG⟩
  rw [if_neg c14] at H
  obtain ⟨c14b0, c14b1⟩ := eqF c14
  by_cases c17 : x3_1.toList = ([109, 105, 108, 101, 115, 116, 111, 110, 101] : List UInt8)
  ·rw [if_pos c17] at H
   obtain ⟨c17b0, c17b1⟩ := eqT c17
   clear c17
   simp only [Option.some.injEq, Prod.mk.injEq] at H
   obtain ⟨rfl, rfl⟩ := H
   have hnb18 := NB148_147.out
   have hnc18 := NB147_148.out
   obtain ⟨hcz19_0, hcz19_1, hfz19_0, hfz19_1⟩ := cells2 BK148
   go_wp2
   refine bodyPost_ret (results_cell_row rfl _ _ gb148 85 #[.int .i64 3, .string (⟨#[]⟩ : ByteArray)] (0, 0) _ rfl (bP BK148) Tryz.underlying85 rfl (by kernel_rfl)) rfl ?_
   exact ⟨eA, bG⟩
  rw [if_neg c17] at H
  obtain ⟨c17b0, c17b1⟩ := eqF c17
  have HC20 := Aside0.mk H
  clear H
  go_upto_if 26 with (fail)
  go_cut [26] (fun v26 wc => ∃ (kq : Nat) (x26_19 : Bool), v26 = .bool x26_19 ∧ Aside0 (words_letters.j1 kq x3_1 x26_19 a0_0 a0_1 a0_2 = some (r1, r2)) ∧ Aside0 (kq ≤ kj1) ∧ Aside0 (wc.heap[gb147]? = some (.cells #[.string a0_0, .bool a0_1, .bool a0_2] 98 (0, 0))) ∧ Aside0 (wc.heap[gb148]? = some (.cells #[.int .i64 0, .string (⟨#[]⟩ : ByteArray)] 85 (0, 0))) ∧ Aside0 (Below w.heap.size w wc))
  case first =>
   have H := HC20.out
   clear HC20
   by_cases c21 : x3_1.toList = ([114, 99] : List UInt8)
   rotate_left
   ·rw [if_neg c21] at H
    obtain ⟨c21b0, c21b1⟩ := eqF c21
    (first | rw [c21b0] | (simp only [i64_w, i32_w]; rw [c21b0]) | skip)
    have H' := Aside0.mk H
    clear H
    go_wp2
    go_meet
    case rel => exact ⟨_, ((x3_1.toList == ([99, 114] : List UInt8))), cA, H', ⟨by have := HJ1.out; first | omega | exact Nat.le_refl _⟩, ⟨bK BK147⟩, ⟨bK BK148⟩, ⟨bG⟩⟩
   rw [if_pos c21] at H
   obtain ⟨c21b0, c21b1⟩ := eqT c21
   clear c21
   (first | rw [c21b0] | (simp only [i64_w, i32_w]; rw [c21b0]) | skip)
   have H' := Aside0.mk H
   clear H
   go_wp2
   go_meet
   case rel => exact ⟨_, ((x3_1.toList == ([114, 99] : List UInt8))), cA, H', ⟨by have := HJ1.out; first | omega | exact Nat.le_refl _⟩, ⟨bK BK147⟩, ⟨bK BK148⟩, ⟨bG⟩⟩
  clear HC20
  try clear c1
  try clear c2
  try clear p2
  try clear c5
  try clear c7
  try clear c8
  try clear c8b0
  try clear c8b1
  try clear c9
  try clear c9b0
  try clear c9b1
  try clear c10
  try clear c10b0
  try clear c10b1
  try clear c11
  try clear c11b0
  try clear c11b1
  try clear c12
  try clear c14
  try clear c14b0
  try clear c14b1
  try clear c15
  try clear c17
  try clear c17b0
  try clear c17b1
  try clear c18
  try clear c21
  try clear c21b0
  try clear c21b1
  try clear hcz13_0
  try clear hcz13_1
  try clear hcz16_0
  try clear hcz16_1
  try clear hcz19_0
  try clear hcz19_1
  try clear hcz6_0
  try clear hcz6_1
  try clear hcz6_2
  try clear hfz13_0
  try clear hfz13_1
  try clear hfz16_0
  try clear hfz16_1
  try clear hfz19_0
  try clear hfz19_1
  try clear hfz6_0
  try clear hfz6_1
  try clear hfz6_2
  try clear p2
  obtain ⟨kq, x26_19, rfl, HA, HJ19, BK147, BK148, HB⟩ := hcut
  cases kq with
  | zero => exact absurd HA.out (by simp [words_letters.j1])
  | succ kj19 =>
   have H := HA.out
   clear HA
   simp only [words_letters.j1] at H
   (try simp only [toList_lit] at H)
   by_cases c22 : x26_19 = true
   ·subst c22
    replace H : (some (4, (⟨#[]⟩ : ByteArray))) = some (r1, r2) := by rw [if_pos rfl] at H; exact H
    simp only [Option.some.injEq, Prod.mk.injEq] at H
    obtain ⟨rfl, rfl⟩ := H
    have hnb23 := NB148_147.out
    have hnc23 := NB147_148.out
    obtain ⟨hcz24_0, hcz24_1, hfz24_0, hfz24_1⟩ := cells2 BK148
    go_wp2
    refine bodyPost_ret (results_cell_row rfl _ _ gb148 85 #[.int .i64 4, .string (⟨#[]⟩ : ByteArray)] (0, 0) _ rfl (bP BK148) Tryz.underlying85 rfl (by kernel_rfl)) rfl ?_
    exact ⟨eA, bG⟩
   replace c22 := Bool.eq_false_iff.mpr c22
   subst c22
   replace H : (if x3_1.toList = ([115, 110, 97, 112, 115, 104, 111, 116] : List UInt8) then (some (5, (⟨#[]⟩ : ByteArray))) else (if x3_1.toList = ([103, 97] : List UInt8) then (words_letters.j2 kj19 x3_1 (x3_1.toList == ([103, 97] : List UInt8)) a0_0 a0_1 a0_2) else (if x3_1.toList = ([102, 105, 110, 97, 108] : List UInt8) then (words_letters.j2 kj19 x3_1 (x3_1.toList == ([102, 105, 110, 97, 108] : List UInt8)) a0_0 a0_1 a0_2) else (words_letters.j2 kj19 x3_1 (x3_1.toList == ([114, 101, 108, 101, 97, 115, 101] : List UInt8)) a0_0 a0_1 a0_2)))) = some (r1, r2) := by rw [if_neg nF] at H; exact H
   by_cases c25 : x3_1.toList = ([115, 110, 97, 112, 115, 104, 111, 116] : List UInt8)
   ·rw [if_pos c25] at H
    obtain ⟨c25b0, c25b1⟩ := eqT c25
    clear c25
    simp only [Option.some.injEq, Prod.mk.injEq] at H
    obtain ⟨rfl, rfl⟩ := H
    have hnb26 := NB148_147.out
    have hnc26 := NB147_148.out
    obtain ⟨hcz27_0, hcz27_1, hfz27_0, hfz27_1⟩ := cells2 BK148
    go_wp2
    refine bodyPost_ret (results_cell_row rfl _ _ gb148 85 #[.int .i64 5, .string (⟨#[]⟩ : ByteArray)] (0, 0) _ rfl (bP BK148) Tryz.underlying85 rfl (by kernel_rfl)) rfl ?_
    exact ⟨eA, bG⟩
   rw [if_neg c25] at H
   obtain ⟨c25b0, c25b1⟩ := eqF c25
   have HC28 := Aside0.mk H
   clear H
   go_upto_if 31 with (fail)
   go_cut [31] (fun v31 wc => ∃ (kq : Nat) (x31_27 : Bool), v31 = .bool x31_27 ∧ Aside0 (words_letters.j2 kq x3_1 x31_27 a0_0 a0_1 a0_2 = some (r1, r2)) ∧ Aside0 (kq ≤ kj19) ∧ Aside0 (wc.heap[gb147]? = some (.cells #[.string a0_0, .bool a0_1, .bool a0_2] 98 (0, 0))) ∧ Aside0 (wc.heap[gb148]? = some (.cells #[.int .i64 0, .string (⟨#[]⟩ : ByteArray)] 85 (0, 0))) ∧ Aside0 (Below w.heap.size w wc))
   case first =>
    have H := HC28.out
    clear HC28
    by_cases c29 : x3_1.toList = ([103, 97] : List UInt8)
    ·rw [if_pos c29] at H
     obtain ⟨c29b0, c29b1⟩ := eqT c29
     clear c29
     (first | rw [c29b0] | (simp only [i64_w, i32_w]; rw [c29b0]) | skip)
     have H' := Aside0.mk H
     clear H
     go_wp2
     go_meet
     case rel => exact ⟨_, ((x3_1.toList == ([103, 97] : List UInt8))), cA, H', ⟨by have := HJ1.out; have := HJ19.out; first | omega | exact Nat.le_refl _⟩, ⟨bK BK147⟩, ⟨bK BK148⟩, ⟨bG⟩⟩
    rw [if_neg c29] at H
    obtain ⟨c29b0, c29b1⟩ := eqF c29
    (first | rw [c29b0] | (simp only [i64_w, i32_w]; rw [c29b0]) | skip)
    by_cases c30 : x3_1.toList = ([102, 105, 110, 97, 108] : List UInt8)
    rotate_left
    ·rw [if_neg c30] at H
     obtain ⟨c30b0, c30b1⟩ := eqF c30
     have H' := Aside0.mk H
     clear H
     go_wp2
     go_meet
     case rel => exact ⟨_, ((x3_1.toList == ([114, 101, 108, 101, 97, 115, 101] : List UInt8))), cA, H', ⟨by have := HJ1.out; have := HJ19.out; first | omega | exact Nat.le_refl _⟩, ⟨bK BK147⟩, ⟨bK BK148⟩, ⟨bG⟩⟩
    rw [if_pos c30] at H
    obtain ⟨c30b0, c30b1⟩ := eqT c30
    clear c30
    have H' := Aside0.mk H
    clear H
    go_wp2
    go_meet
    case rel => exact ⟨_, ((x3_1.toList == ([102, 105, 110, 97, 108] : List UInt8))), cA, H', ⟨by have := HJ1.out; have := HJ19.out; first | omega | exact Nat.le_refl _⟩, ⟨bK BK147⟩, ⟨bK BK148⟩, ⟨bG⟩⟩
   clear HC28
   try clear c1
   try clear c2
   try clear p2
   try clear c3
   try clear c5
   try clear c7
   try clear c8
   try clear c8b0
   try clear c8b1
   try clear c9
   try clear c9b0
   try clear c9b1
   try clear c10
   try clear c10b0
   try clear c10b1
   try clear c11
   try clear c11b0
   try clear c11b1
   try clear c12
   try clear c14
   try clear c14b0
   try clear c14b1
   try clear c15
   try clear c17
   try clear c17b0
   try clear c17b1
   try clear c18
   try clear c21
   try clear c21b0
   try clear c21b1
   try clear c22
   try clear c23
   try clear c25
   try clear c25b0
   try clear c25b1
   try clear c26
   try clear c29
   try clear c29b0
   try clear c29b1
   try clear c30
   try clear c30b0
   try clear c30b1
   try clear hcz13_0
   try clear hcz13_1
   try clear hcz16_0
   try clear hcz16_1
   try clear hcz19_0
   try clear hcz19_1
   try clear hcz24_0
   try clear hcz24_1
   try clear hcz27_0
   try clear hcz27_1
   try clear hcz6_0
   try clear hcz6_1
   try clear hcz6_2
   try clear hfz13_0
   try clear hfz13_1
   try clear hfz16_0
   try clear hfz16_1
   try clear hfz19_0
   try clear hfz19_1
   try clear hfz24_0
   try clear hfz24_1
   try clear hfz27_0
   try clear hfz27_1
   try clear hfz6_0
   try clear hfz6_1
   try clear hfz6_2
   try clear p2
   obtain ⟨kq, x31_27, rfl, HA, HJ27, BK147, BK148, HB⟩ := hcut
   cases kq with
   | zero => exact absurd HA.out (by simp [words_letters.j2])
   | succ kj27 =>
    have H := HA.out
    clear HA
    simp only [words_letters.j2] at H
    (try simp only [toList_lit] at H)
    by_cases c31 : x31_27 = true
    ·subst c31
     replace H : (some (6, (⟨#[]⟩ : ByteArray))) = some (r1, r2) := by rw [if_pos rfl] at H; exact H
     simp only [Option.some.injEq, Prod.mk.injEq] at H
     obtain ⟨rfl, rfl⟩ := H
     have hnb32 := NB148_147.out
     have hnc32 := NB147_148.out
     obtain ⟨hcz33_0, hcz33_1, hfz33_0, hfz33_1⟩ := cells2 BK148
     go_wp2
     refine bodyPost_ret (results_cell_row rfl _ _ gb148 85 #[.int .i64 6, .string (⟨#[]⟩ : ByteArray)] (0, 0) _ rfl (bP BK148) Tryz.underlying85 rfl (by kernel_rfl)) rfl ?_
     exact ⟨eA, bG⟩
    replace c31 := Bool.eq_false_iff.mpr c31
    subst c31
    replace H : (if x3_1.toList = ([115, 112] : List UInt8) then (some (7, (⟨#[]⟩ : ByteArray))) else (some (8, a0_0))) = some (r1, r2) := by rw [if_neg nF] at H; exact H
    by_cases c34 : x3_1.toList = ([115, 112] : List UInt8)
    rotate_left
    ·rw [if_neg c34] at H
     obtain ⟨c34b0, c34b1⟩ := eqF c34
     simp only [Option.some.injEq, Prod.mk.injEq] at H
     obtain ⟨rfl, rfl⟩ := H
     have hnb37 := NB147_148.out
     have hnc37 := NB148_147.out
     obtain ⟨hcz38_0, hcz38_1, hcz38_2, hfz38_0, hfz38_1, hfz38_2⟩ := cells3 BK147
     obtain ⟨hcz39_0, hcz39_1, hfz39_0, hfz39_1⟩ := cells2 BK148
     go_wp2
     refine bodyPost_ret (results_cell_row rfl _ _ gb148 85 #[.int .i64 8, .string a0_0] (0, 0) _ rfl (bP BK148) Tryz.underlying85 rfl (by kernel_rfl)) rfl ?_
     exact ⟨eA, bG⟩
    rw [if_pos c34] at H
    obtain ⟨c34b0, c34b1⟩ := eqT c34
    clear c34
    simp only [Option.some.injEq, Prod.mk.injEq] at H
    obtain ⟨rfl, rfl⟩ := H
    have hnb35 := NB148_147.out
    have hnc35 := NB147_148.out
    obtain ⟨hcz36_0, hcz36_1, hfz36_0, hfz36_1⟩ := cells2 BK148
    go_wp2
    refine bodyPost_ret (results_cell_row rfl _ _ gb148 85 #[.int .i64 7, .string (⟨#[]⟩ : ByteArray)] (0, 0) _ rfl (bP BK148) Tryz.underlying85 rfl (by kernel_rfl)) rfl ?_
    exact ⟨eA, bG⟩
def strings_TrimLeft.f (a0 a1 : ByteArray) : Option ByteArray := if a1.size = 1 ∧ (a1.data.toList.getD 0 0).toNat < 128 then some ⟨(Lib.trimLeftB a0.data.toList (a1.data.toList.getD 0 0)).toArray⟩ else none
theorem strings_TrimLeft.calls (a0 a1 : ByteArray) (r : ByteArray) (w : World) (hG : Glob w) (h : strings_TrimLeft.f a0 a1 = some r) :
 Calls Tryz.prog 94 #[.string a0, .string a1] w fun e w' => e = .returned (.string r) ∧ Drawn0 w w' := by
 unfold strings_TrimLeft.f at h
 split at h
 ·rename_i hs
  obtain rfl := Option.some.inj h
  obtain ⟨c, rfl⟩ : ∃ c : UInt8, a1 = ⟨#[c]⟩ := by
   rcases a1 with ⟨⟨l⟩⟩
   match l, hs.1 with
   | [c], _ => exact ⟨c, rfl⟩
  exact (Tryz.strings_TrimLeft_one a0 c hs.2 w).mono fun e w' hh => ⟨hh.1, ⟨⟨0, hh.2⟩⟩⟩
 ·exact absurd h (by simp)
def words_word.j0 : Nat → Bool → ByteArray → Bool → Bool → Option (Int × ByteArray)
 | 0, _, _, _, _ => none
 | k + 1, x13, x150000, x150001, x150002 => if x13 = true then ((words_letters.f k x150000 x150001 x150002).bind fun bt152 => (some (bt152.1, bt152.2))) else ((strings_TrimLeft.f x150000 (⟨#[48]⟩ : ByteArray)).bind fun t154 => (if t154.toList = ([] : List UInt8) then (some (6, (⟨#[]⟩ : ByteArray))) else (if x150001 = true then (some (9, t154)) else (some (10, t154)))))
def words_word.f (k : Nat) (a0_0 : ByteArray) (a0_1 : Bool) (a0_2 : Bool) : Option (Int × ByteArray) := if a0_0.toList = ([] : List UInt8) then (words_word.j0 k false a0_0 a0_1 a0_2) else (if 0 < (a0_0.size : Int) then ((chars_Digit.f (bt a0_0 0)).bind fun t151 => (words_word.j0 k (!t151) a0_0 a0_1 a0_2)) else (none))
theorem words_word.mono_l : ∀ k, (∀ y0 y1 y2 y3, LeO (words_word.j0 k y0 y1 y2 y3) (words_word.j0 (k + 1) y0 y1 y2 y3))
 | 0 => fun _ _ _ _ r h => by simp [words_word.j0] at h
 | k + 1 => by
  have ih0 := words_word.mono_l k
  ·intro y0 y1 y2 y3
   unfold words_word.j0
   have m0 := @words_letters.mono
   exact mo
theorem words_word.mono : ∀ a0 a1 a2 k, LeO (words_word.f k a0 a1 a2) (words_word.f (k + 1) a0 a1 a2) := by
 intro a0 a1 a2 k
 have ih0 := words_word.mono_l k
 unfold words_word.f
 have m0 := @words_letters.mono
 exact mo
theorem words_word.calls (k : Nat) (a0_0 : ByteArray) (a0_1 : Bool) (a0_2 : Bool) (r1 : Int) (r2 : ByteArray) (w : World) (hG : Glob w) (h : words_word.f k a0_0 a0_1 a0_2 = some (r1, r2)) :
 Calls Tryz.prog 73 #[.agg #[.string a0_0, .bool a0_1, .bool a0_2]] w fun e w' => e = .returned (.agg #[.int .i64 r1, .string r2]) ∧ Below w.heap.size w w' := by
 have hu98 := Tryz.underlying98
 have hu85 := Tryz.underlying85
 have HG := Aside0.mk hG
 clear hG
 have HB := Aside0.mk (Below.refl w.heap.size w)
 have H : (if a0_0.toList = ([] : List UInt8) then (words_word.j0 k false a0_0 a0_1 a0_2) else (if 0 < (a0_0.size : Int) then ((chars_Digit.f (bt a0_0 0)).bind fun t151 => (words_word.j0 k (!t151) a0_0 a0_1 a0_2)) else (none))) = some (r1, r2) := h
 clear h
 have HC2 := Aside0.mk H
 clear H
 go_enter Tryz.func73, Tryz.ntmps73
 go_upto_region 1 with (first | (refine be 1 #[.string a0_0, .bool a0_1, .bool a0_2] 98 ?_; intro gb149 hg w3 hbox hb; have BK149 := Aside0.mk (hbox); have GW149 := gW hg; have GE149 := gW hg; replace HB := sB hb; clear hb hbox hg) | (refine be 2 #[.int .i64 0, .string (⟨#[]⟩ : ByteArray)] 85 ?_; intro gb150 hg w4 hbox hb; have BK150 := Aside0.mk (hbox); have GW150 := gW hg; have GE150 := gW hg; replace HB := sB hb; have NB149_150 := nL BK149 hg; have NB150_149 := nG BK149 hg; replace BK149 := kB BK149 hb; clear hb hbox hg))
 (try simp only [Act.put, List.setIfInBounds_toArray, List.set_cons_zero, List.set_cons_succ])
 go_cut [13] (fun v13 wc => ∃ (kq : Nat) (x13_1 : Bool), v13 = .bool x13_1 ∧ Aside0 (words_word.j0 kq x13_1 a0_0 a0_1 a0_2 = some (r1, r2)) ∧ Aside0 (kq ≤ k) ∧ Aside0 (wc.heap[gb149]? = some (.cells #[.string a0_0, .bool a0_1, .bool a0_2] 98 (0, 0))) ∧ Aside0 (wc.heap[gb150]? = some (.cells #[.int .i64 0, .string (⟨#[]⟩ : ByteArray)] 85 (0, 0))) ∧ Aside0 (Below w.heap.size w wc))
 case first =>
  have H := HC2.out
  clear HC2
  by_cases c5 : a0_0.toList = ([] : List UInt8)
  ·rw [if_pos c5] at H
   obtain ⟨c5b0, c5b1⟩ := eqT c5
   (try (have c5b2 : a0_0.toList.isEmpty = true := by simpa using c5))
   clear c5
   (first | rw [c5b0] | rw [c5b2] | (simp only [i64_w, i32_w]; rw [c5b0]) | skip)
   have H' := Aside0.mk H
   clear H
   have hnb6 := NB149_150.out
   have hnc6 := NB150_149.out
   obtain ⟨hcz7_0, hcz7_1, hcz7_2, hfz7_0, hfz7_1, hfz7_2⟩ := cells3 BK149
   go_wp2
   go_meet
   case rel => exact ⟨_, (false), cA, H', ⟨by first | omega | exact Nat.le_refl _⟩, ⟨bK BK149⟩, ⟨bK BK150⟩, ⟨bG⟩⟩
  rw [if_neg c5] at H
  obtain ⟨c5b0, c5b1⟩ := eqF c5
  (try (have c5b2 : a0_0.toList.isEmpty = false := by simpa using c5))
  (first | rw [c5b0] | rw [c5b2] | (simp only [i64_w, i32_w]; rw [c5b0]) | skip)
  obtain ⟨c8, H⟩ := gp H
  have c8b0 := dT c8
  have c8b1 : decide (0 < a0_0.size) = true := decide_eq_true (by omega)
  clear c8
  replace H := bi H
  obtain ⟨t151, A100, H⟩ := H
  try dsimp only at H
  have A10 := Aside0.mk A100
  clear A100
  have H' := Aside0.mk H
  clear H
  have hnb11 := NB149_150.out
  have hnc11 := NB150_149.out
  obtain ⟨hcz12_0, hcz12_1, hcz12_2, hfz12_0, hfz12_1, hfz12_2⟩ := cells3 BK149
  have p9 : 0 ≤ (0 : Int) := (by omega)
  have q9 : 0 < a0_0.size := (by have : (0 : Int) < (a0_0.size : Int) := dA; omega)
  have hx9 : ∀ h : 0 < a0_0.size, ((a0_0[0]'h).toNat : Int) = bt a0_0 0 := bt_at a0_0 0
  clear p9
  have qi9 : (0 < (a0_0.size : Int)) = True := eq_true (dA)
  replace q9 := eq_true q9
  go_wp2_with (first | (go_at_call 92; (with_reducible refine (chars_Digit.calls (bt a0_0 0) t151 _ (gS HG) A10.out).mono ?_); rintro e w' ⟨rfl, ⟨nd, rfl⟩⟩))
  go_meet
  case rel => exact ⟨_, (!t151), cA, H', ⟨by first | omega | exact Nat.le_refl _⟩, ⟨bK BK149⟩, ⟨bK BK150⟩, ⟨bG⟩⟩
 clear HC2
 try clear c1
 try clear p2
 try clear c5
 try clear c5b0
 try clear c5b1
 try clear c5b2
 try clear c6
 try clear c7
 try clear c8
 try clear c8b0
 try clear c8b1
 try clear p9
 try clear q9
 try clear hx9
 try clear qi9
 try clear c11
 try clear hcz12_0
 try clear hcz12_1
 try clear hcz12_2
 try clear hcz7_0
 try clear hcz7_1
 try clear hcz7_2
 try clear hfz12_0
 try clear hfz12_1
 try clear hfz12_2
 try clear hfz7_0
 try clear hfz7_1
 try clear hfz7_2
 try clear p9
 try clear q9
 obtain ⟨kq, x13_1, rfl, HA, HJ1, BK149, BK150, HB⟩ := hcut
 cases kq with
 | zero => exact absurd HA.out (by simp [words_word.j0])
 | succ kj1 =>
  have H := HA.out
  clear HA
  simp only [words_word.j0] at H
  (try simp only [toList_lit] at H)
  by_cases c13 : x13_1 = true
  ·subst c13
   replace H : ((words_letters.f kj1 a0_0 a0_1 a0_2).bind fun bt152 => (some (bt152.1, bt152.2))) = some (r1, r2) := by rw [if_pos rfl] at H; exact H
   replace H := bi H
   obtain ⟨⟨t152, t153⟩, A140, H⟩ := H
   try dsimp only at H
   have A14 := Aside0.mk A140
   clear A140
   simp only [Option.some.injEq, Prod.mk.injEq] at H
   obtain ⟨rfl, rfl⟩ := H
   have hnb15 := NB149_150.out
   have hnc15 := NB150_149.out
   obtain ⟨hcz16_0, hcz16_1, hcz16_2, hfz16_0, hfz16_1, hfz16_2⟩ := cells3 BK149
   go_wp2_with (first | (refine gl (some 15) Tryz.func93 #[.agg #[.string a0_0, .bool a0_1, .bool a0_2]] ?_; (with_reducible refine (words_letters.calls kj1 a0_0 a0_1 a0_2 t152 t153 _ (gS HG) A14.out).mono ?_); rintro e w17 ⟨rfl, hb⟩; refine ⟨_, rfl, ?_⟩; replace BK149 := kB BK149 hb; replace BK150 := kB BK150 hb; replace HB := sB hb; (try clear hb); have hcz18_0 : w17.cell? ⟨gb150, 0, none⟩ = some (.int .i64 0) := (blk_cell BK150.out 0).trans rfl; have hcz18_1 : w17.cell? ⟨gb150, 1, none⟩ = some (.string (⟨#[]⟩ : ByteArray)) := (blk_cell BK150.out 1).trans rfl; have hfz18_0 := blk_frozen BK150.out 0; have hfz18_1 := blk_frozen BK150.out 1))
   refine bodyPost_ret (results_cell_row rfl _ _ gb150 85 #[.int .i64 t152, .string t153] (0, 0) _ rfl (bP BK150) Tryz.underlying85 rfl (by kernel_rfl)) rfl ?_
   exact ⟨eA, bG⟩
  replace c13 := Bool.eq_false_iff.mpr c13
  subst c13
  replace H : ((strings_TrimLeft.f a0_0 (⟨#[48]⟩ : ByteArray)).bind fun t154 => (if t154.toList = ([] : List UInt8) then (some (6, (⟨#[]⟩ : ByteArray))) else (if a0_1 = true then (some (9, t154)) else (some (10, t154))))) = some (r1, r2) := by rw [if_neg nF] at H; exact H
  replace H := bi H
  obtain ⟨t154, A190, H⟩ := H
  try dsimp only at H
  have A19 := Aside0.mk A190
  clear A190
  by_cases c20 : t154.toList = ([] : List UInt8)
  ·rw [if_pos c20] at H
   obtain ⟨c20b0, c20b1⟩ := eqT c20
   (try (have c20b2 : t154.toList.isEmpty = true := by simpa using c20))
   clear c20
   simp only [Option.some.injEq, Prod.mk.injEq] at H
   obtain ⟨rfl, rfl⟩ := H
   have hnb21 := NB149_150.out
   have hnc21 := NB150_149.out
   obtain ⟨hcz22_0, hcz22_1, hcz22_2, hfz22_0, hfz22_1, hfz22_2⟩ := cells3 BK149
   go_wp2_with (first | (refine gl (some 18) Tryz.func94 #[.string a0_0, .string (⟨#[48]⟩ : ByteArray)] ?_; (with_reducible refine (strings_TrimLeft.calls a0_0 (⟨#[48]⟩ : ByteArray) t154 _ (gS HG) A19.out).mono ?_); rintro e w' ⟨rfl, ⟨nd, rfl⟩⟩; refine ⟨_, rfl, ?_⟩; (try (rw [drewN_self wc]; generalize hq_ : World.drewN wc _ = wc; have n0_ : Aside0 (wc.heap[gb149]? = some (.cells #[.string a0_0, .bool a0_1, .bool a0_2] 98 (0, 0))) := ⟨by rw [← hq_]; exact (bK BK149)⟩; have n1_ : Aside0 (wc.heap[gb150]? = some (.cells #[.int .i64 0, .string (⟨#[]⟩ : ByteArray)] 85 (0, 0))) := ⟨by rw [← hq_]; exact (bK BK150)⟩; have n2_ : Aside0 (Below w.heap.size w wc) := ⟨by rw [← hq_]; exact bG⟩; clear BK149 BK150 HB hq_; have BK149 := n0_; have BK150 := n1_; have HB := n2_; clear n0_ n1_ n2_; have hcz22_0 : wc.cell? ⟨gb149, 0, none⟩ = some (.string a0_0) := (blk_cell BK149.out 0).trans rfl; have hcz22_1 : wc.cell? ⟨gb149, 1, none⟩ = some (.bool a0_1) := (blk_cell BK149.out 1).trans rfl; have hcz22_2 : wc.cell? ⟨gb149, 2, none⟩ = some (.bool a0_2) := (blk_cell BK149.out 2).trans rfl; have hfz22_0 := blk_frozen BK149.out 0; have hfz22_1 := blk_frozen BK149.out 1; have hfz22_2 := blk_frozen BK149.out 2)); have hcz23_0 : wc.cell? ⟨gb150, 0, none⟩ = some (.int .i64 0) := (blk_cell BK150.out 0).trans rfl; have hcz23_1 : wc.cell? ⟨gb150, 1, none⟩ = some (.string (⟨#[]⟩ : ByteArray)) := (blk_cell BK150.out 1).trans rfl; have hfz23_0 := blk_frozen BK150.out 0; have hfz23_1 := blk_frozen BK150.out 1))
   refine bodyPost_ret (results_cell_row rfl _ _ gb150 85 #[.int .i64 6, .string (⟨#[]⟩ : ByteArray)] (0, 0) _ rfl (bP BK150) Tryz.underlying85 rfl (by kernel_rfl)) rfl ?_
   exact ⟨eA, bG⟩
  rw [if_neg c20] at H
  obtain ⟨c20b0, c20b1⟩ := eqF c20
  (try (have c20b2 : t154.toList.isEmpty = false := by simpa using c20))
  by_cases c24 : a0_1 = true
  ·subst c24
   replace H : (some (9, t154)) = some (r1, r2) := by rw [if_pos rfl] at H; exact H
   simp only [Option.some.injEq, Prod.mk.injEq] at H
   obtain ⟨rfl, rfl⟩ := H
   have hnb25 := NB149_150.out
   have hnc25 := NB150_149.out
   obtain ⟨hcz26_0, hcz26_1, hcz26_2, hfz26_0, hfz26_1, hfz26_2⟩ := cells3 BK149
   go_wp2_with (first | (refine gl (some 18) Tryz.func94 #[.string a0_0, .string (⟨#[48]⟩ : ByteArray)] ?_; (with_reducible refine (strings_TrimLeft.calls a0_0 (⟨#[48]⟩ : ByteArray) t154 _ (gS HG) A19.out).mono ?_); rintro e w' ⟨rfl, ⟨nd, rfl⟩⟩; refine ⟨_, rfl, ?_⟩; (try (rw [drewN_self wc]; generalize hq_ : World.drewN wc _ = wc; have n0_ : Aside0 (wc.heap[gb149]? = some (.cells #[.string a0_0, .bool true, .bool a0_2] 98 (0, 0))) := ⟨by rw [← hq_]; exact (bK BK149)⟩; have n1_ : Aside0 (wc.heap[gb150]? = some (.cells #[.int .i64 0, .string (⟨#[]⟩ : ByteArray)] 85 (0, 0))) := ⟨by rw [← hq_]; exact (bK BK150)⟩; have n2_ : Aside0 (Below w.heap.size w wc) := ⟨by rw [← hq_]; exact bG⟩; clear BK149 BK150 HB hq_; have BK149 := n0_; have BK150 := n1_; have HB := n2_; clear n0_ n1_ n2_; have hcz26_0 : wc.cell? ⟨gb149, 0, none⟩ = some (.string a0_0) := (blk_cell BK149.out 0).trans rfl; have hcz26_1 : wc.cell? ⟨gb149, 1, none⟩ = some (.bool true) := (blk_cell BK149.out 1).trans rfl; have hcz26_2 : wc.cell? ⟨gb149, 2, none⟩ = some (.bool a0_2) := (blk_cell BK149.out 2).trans rfl; have hfz26_0 := blk_frozen BK149.out 0; have hfz26_1 := blk_frozen BK149.out 1; have hfz26_2 := blk_frozen BK149.out 2)); have hcz27_0 : wc.cell? ⟨gb150, 0, none⟩ = some (.int .i64 0) := (blk_cell BK150.out 0).trans rfl; have hcz27_1 : wc.cell? ⟨gb150, 1, none⟩ = some (.string (⟨#[]⟩ : ByteArray)) := (blk_cell BK150.out 1).trans rfl; have hfz27_0 := blk_frozen BK150.out 0; have hfz27_1 := blk_frozen BK150.out 1))
   refine bodyPost_ret (results_cell_row rfl _ _ gb150 85 #[.int .i64 9, .string t154] (0, 0) _ rfl (bP BK150) Tryz.underlying85 rfl (by kernel_rfl)) rfl ?_
   exact ⟨eA, bG⟩
  replace c24 := Bool.eq_false_iff.mpr c24
  subst c24
  replace H : (some (10, t154)) = some (r1, r2) := by rw [if_neg nF] at H; exact H
  simp only [Option.some.injEq, Prod.mk.injEq] at H
  obtain ⟨rfl, rfl⟩ := H
  have hnb28 := NB149_150.out
  have hnc28 := NB150_149.out
  obtain ⟨hcz29_0, hcz29_1, hcz29_2, hfz29_0, hfz29_1, hfz29_2⟩ := cells3 BK149
  go_wp2_with (first | (refine gl (some 18) Tryz.func94 #[.string a0_0, .string (⟨#[48]⟩ : ByteArray)] ?_; (with_reducible refine (strings_TrimLeft.calls a0_0 (⟨#[48]⟩ : ByteArray) t154 _ (gS HG) A19.out).mono ?_); rintro e w' ⟨rfl, ⟨nd, rfl⟩⟩; refine ⟨_, rfl, ?_⟩; (try (rw [drewN_self wc]; generalize hq_ : World.drewN wc _ = wc; have n0_ : Aside0 (wc.heap[gb149]? = some (.cells #[.string a0_0, .bool false, .bool a0_2] 98 (0, 0))) := ⟨by rw [← hq_]; exact (bK BK149)⟩; have n1_ : Aside0 (wc.heap[gb150]? = some (.cells #[.int .i64 0, .string (⟨#[]⟩ : ByteArray)] 85 (0, 0))) := ⟨by rw [← hq_]; exact (bK BK150)⟩; have n2_ : Aside0 (Below w.heap.size w wc) := ⟨by rw [← hq_]; exact bG⟩; clear BK149 BK150 HB hq_; have BK149 := n0_; have BK150 := n1_; have HB := n2_; clear n0_ n1_ n2_; have hcz29_0 : wc.cell? ⟨gb149, 0, none⟩ = some (.string a0_0) := (blk_cell BK149.out 0).trans rfl; have hcz29_1 : wc.cell? ⟨gb149, 1, none⟩ = some (.bool false) := (blk_cell BK149.out 1).trans rfl; have hcz29_2 : wc.cell? ⟨gb149, 2, none⟩ = some (.bool a0_2) := (blk_cell BK149.out 2).trans rfl; have hfz29_0 := blk_frozen BK149.out 0; have hfz29_1 := blk_frozen BK149.out 1; have hfz29_2 := blk_frozen BK149.out 2)); have hcz30_0 : wc.cell? ⟨gb150, 0, none⟩ = some (.int .i64 0) := (blk_cell BK150.out 0).trans rfl; have hcz30_1 : wc.cell? ⟨gb150, 1, none⟩ = some (.string (⟨#[]⟩ : ByteArray)) := (blk_cell BK150.out 1).trans rfl; have hfz30_0 := blk_frozen BK150.out 0; have hfz30_1 := blk_frozen BK150.out 1))
  refine bodyPost_ret (results_cell_row rfl _ _ gb150 85 #[.int .i64 10, .string t154] (0, 0) _ rfl (bP BK150) Tryz.underlying85 rfl (by kernel_rfl)) rfl ?_
  exact ⟨eA, bG⟩
def words_Split.l0 : Nat → List (S85) → List (S98) → Option ((List (S85)))
 | 0, _, _ => none
 | k + 1, x3, x4 => if (x4.length : Int) = 0 then ((api_Word.f k x3).bind fun t159 => (some t159)) else (if 0 ≤ (wrap64 ((x4.length : Int) - 1)) then (if (wrap64 ((x4.length : Int) - 1)) < (x4.length : Int) then ((words_word.f k ((rd_T98 x4 (wrap64 ((x4.length : Int) - 1))).f0) ((rd_T98 x4 (wrap64 ((x4.length : Int) - 1))).f1) ((rd_T98 x4 (wrap64 ((x4.length : Int) - 1))).f2)).bind fun bt161 => (if (wrap64 ((x4.length : Int) - 1)) ≤ (x4.length : Int) then ((some (x4.take ((wrap64 ((x4.length : Int) - 1)) : Int).toNat : List (S98))).bind fun y164 => (if bt161.1 = 6 then (if (x3.length : Int) > 0 then (if 0 ≤ (wrap64 ((x3.length : Int) - 1)) then (if (wrap64 ((x3.length : Int) - 1)) < (x3.length : Int) then (if ((rd_T85 x3 (wrap64 ((x3.length : Int) - 1))).f0) = 6 then (if x3.length < 5864062014805 then (words_Split.l0 k (x3 ++ [(⟨bt161.1, bt161.2⟩ : S85)]) y164) else (none)) else (if ((rd_T85 x3 (wrap64 ((x3.length : Int) - 1))).f0) = 10 then (if x3.length < 5864062014805 then (words_Split.l0 k (x3 ++ [(⟨bt161.1, bt161.2⟩ : S85)]) y164) else (none)) else (words_Split.l0 k x3 y164))) else (none)) else (none)) else (words_Split.l0 k x3 y164)) else (if x3.length < 5864062014805 then (words_Split.l0 k (x3 ++ [(⟨bt161.1, bt161.2⟩ : S85)]) y164) else (none)))) else (none))) else (none)) else (none))
def words_Split.f (k : Nat) (a0 : ByteArray) : Option ((List (S85))) := (chars_Lower.f a0).bind fun t155 => ((words_parts.f k t155).bind fun t156 => (words_Split.l0 k ([] : List (S85)) t156))
theorem words_Split.mono_l : ∀ k, (∀ y0 y1, LeO (words_Split.l0 k y0 y1) (words_Split.l0 (k + 1) y0 y1))
 | 0 => fun _ _ r h => by simp [words_Split.l0] at h
 | k + 1 => by
  have ih0 := words_Split.mono_l k
  ·intro y0 y1
   unfold words_Split.l0
   have m0 := @api_Word.mono
   have m1 := @words_parts.mono
   have m2 := @words_word.mono
   exact mo
theorem words_Split.mono : ∀ a0 k, LeO (words_Split.f k a0) (words_Split.f (k + 1) a0) := by
 intro a0 k
 have ih0 := words_Split.mono_l k
 unfold words_Split.f
 have m0 := @api_Word.mono
 have m1 := @words_parts.mono
 have m2 := @words_word.mono
 exact mo
theorem words_Split.calls (k : Nat) (a0 : ByteArray) (r : List (S85)) (w : World) (hG : Glob w) (h : words_Split.f k a0 = some r) :
 Calls Tryz.prog 49 #[.string a0] w fun e w' => ∃ v0_ : Value, e = .returned (v0_) ∧ Kd.R k85 85 w' w.heap.size (fun _ => True) v0_ r ∧ Below w.heap.size w w' := by
 have hu98 := Tryz.underlying98
 have hu85 := Tryz.underlying85
 have HG := Aside0.mk hG
 clear hG
 have HB := Aside0.mk (Below.refl w.heap.size w)
 have H : ((chars_Lower.f a0).bind fun t155 => ((words_parts.f k t155).bind fun t156 => (words_Split.l0 k ([] : List (S85)) t156))) = some r := h
 clear h
 have HS2 := Aside0.mk H
 clear H
 go_enter Tryz.func49, Tryz.ntmps49
 go_wp2
 refine wp_scope_loop 0 (by rfl) ?_
 have H := HS2.out
 clear HS2
 replace H := bi H
 obtain ⟨t155, A30, H⟩ := H
 try dsimp only at H
 have A3 := Aside0.mk A30
 clear A30
 replace H := bi H
 obtain ⟨t156, A40, H⟩ := H
 try dsimp only at H
 have A4 := Aside0.mk A40
 clear A40
 have H' := Aside0.mk H
 clear H
 go_wp2_with (first | (refine gl (some 7) Tryz.func71 #[.string a0] ?_; (with_reducible refine (chars_Lower.calls a0 t155 _ (gS HG) A3.out).mono ?_); rintro e w5 ⟨rfl, hb⟩; refine ⟨_, rfl, ?_⟩; replace HB := sB hb; (try clear hb)) | (refine gl (some 8) Tryz.func70 #[.string t155] ?_; (with_reducible refine (words_parts.calls k t155 t156 _ (gS HG) A4.out).mono ?_); rintro e w6 ⟨v157, rfl, ho0, hb⟩; refine ⟨_, rfl, ?_⟩; have HO158 := Aside0.mk (Kd.R_lower ho0 (below_size bE)); replace HB := sB hb; (try clear hb); (try clear ho0)))
 refine wp_label ?_
 rename_i hlb
 refine hlb _ _ ?_
 refine wp_at_label ?_
 refine LoopAt.intro (fun aB_ kq_ a1 w1 => ∃ (u2 u3 u4 u5 u9 u10 u11 u12 u13 u14 u15 u16 u17 u18 u19 u20 u21 u22 u23 u24 u25 u26 u27 u28 u29 u30 u31 u32 u33 u34 u35 u36 u37 u38 u39 u40 u41 u42 u43 u44 u45 u46 u47 u48 u49 u50 u51 u52 u53 u54 u55 u56 u57 u58 : Value), (fun kq v3 v4 w' => ∃ (x3_1 : List (S85)) (x4_1 : List (S98)), Aside0 (words_Split.l0 kq x3_1 x4_1 = some r) ∧ Aside0 (kq ≤ k) ∧ Aside0 (Kd.R k85 85 w' w.heap.size (fun _ => True) v3 x3_1) ∧ Aside0 (Kd.R k98 98 w' w.heap.size (fun _ => True) v4 x4_1) ∧ Aside0 (Below w.heap.size w w')) kq_ u3 u4 w1 ∧ a1 = ((((((((((((((((((((((((((((((((((((((((((((((((((((((aB_.put (some 2) u2).put (some 3) u3).put (some 4) u4).put (some 5) u5).put (some 9) u9).put (some 10) u10).put (some 11) u11).put (some 12) u12).put (some 13) u13).put (some 14) u14).put (some 15) u15).put (some 16) u16).put (some 17) u17).put (some 18) u18).put (some 19) u19).put (some 20) u20).put (some 21) u21).put (some 22) u22).put (some 23) u23).put (some 24) u24).put (some 25) u25).put (some 26) u26).put (some 27) u27).put (some 28) u28).put (some 29) u29).put (some 30) u30).put (some 31) u31).put (some 32) u32).put (some 33) u33).put (some 34) u34).put (some 35) u35).put (some 36) u36).put (some 37) u37).put (some 38) u38).put (some 39) u39).put (some 40) u40).put (some 41) u41).put (some 42) u42).put (some 43) u43).put (some 44) u44).put (some 45) u45).put (some 46) u46).put (some 47) u47).put (some 48) u48).put (some 49) u49).put (some 50) u50).put (some 51) u51).put (some 52) u52).put (some 53) u53).put (some 54) u54).put (some 55) u55).put (some 56) u56).put (some 57) u57).put (some 58) u58)) k ?_ ?_
 ·(repeat apply Exists.intro)
  (try simp only [Act.put, List.setIfInBounds_toArray, List.set_cons_zero, List.set_cons_succ])
  refine ⟨?_, rfl⟩
  exact ⟨(([] : List (S85))), (t156), H', ⟨Nat.le_refl _⟩, ⟨by first | exact Kd.R_nil _ _ _ _ _ | exact Kd.N_nil _ _ _ _ _ | exact Kd.V_nil _ _ _ _ _ | exact Kd.Q_nil _ _ _ _ _ | exact Kd.S_nil _ _ _ _ _⟩, ⟨kR HO158⟩, ⟨bE⟩⟩
 ·intro gk a1 wr hinv
  obtain ⟨u2, u3, u4, u5, u9, u10, u11, u12, u13, u14, u15, u16, u17, u18, u19, u20, u21, u22, u23, u24, u25, u26, u27, u28, u29, u30, u31, u32, u33, u34, u35, u36, u37, u38, u39, u40, u41, u42, u43, u44, u45, u46, u47, u48, u49, u50, u51, u52, u53, u54, u55, u56, u57, u58, hrel, ha⟩ := hinv
  subst ha
  (try simp only [Act.put, List.setIfInBounds_toArray, List.set_cons_zero, List.set_cons_succ])
  intro Js0 Ks0 hJs0 hKs0
  clear H'
  try clear p2
  try clear c4
  obtain ⟨x3_1, x4_1, HA, HK1, HO_3, HO_4, HB⟩ := hrel
  cases gk with
  | zero => exact absurd HA.out (by simp [words_Split.l0])
  | succ k1 =>
   have H := HA.out
   clear HA
   simp only [words_Split.l0] at H
   by_cases c7 : (x4_1.length : Int) = 0
   ·rw [if_pos c7] at H
    obtain ⟨c7b0, c7b1⟩ := eqT c7
    clear c7
    replace H := bi H
    obtain ⟨t159, A80, H⟩ := H
    try dsimp only at H
    have A8 := Aside0.mk A80
    clear A80
    obtain rfl := Option.some.inj H
    obtain ⟨Ao9, co9, eo9⟩ := Kd.R_slice HO_4.out
    subst eo9
    obtain ⟨Ao10, co10, eo10⟩ := Kd.R_slice HO_3.out
    subst eo10
    go_wp2_with (first | (refine gl (some 13) Tryz.func72 #[.slice Ao10 x3_1.length co10] ?_; (with_reducible refine (api_Word.calls k1 (fun k_ => some k_ = (.slice Ao10 x3_1.length co10 : Value).ownBlock) (.slice Ao10 x3_1.length co10) x3_1 t159 w _ ?side1 ?side2 ?side3 A8.out).mono ?_); (case side1 => repeat (first | (with_reducible first | exact HB.out | apply below_alloc | apply pw_below_drewN | apply below_drew1) | exact HB.out)); (case side2 => exact Kd.R_tight rfl HO_3.out); (case side3 => exact HG.out); rintro e w11 ⟨rfl, hy0, hb, hkp⟩; refine ⟨_, rfl, ?_⟩; replace HO_4 := Aside0.mk (Kd.R_mono (ok' := fun k_ => True) (Kd.R_keptB ((Kd.R_apart' HO_4.out (Kd.R_typed HO_3.out) (by decide))) hkp (fun k_ hk_ hs_ => (hk_.2) hs_)) (fun k_ hk_ => trivial)); replace HO_3 := Aside0.mk (Kd.R_reok rfl hy0 (fun k_ e_ => HO_3.out.1 k_ e_)); replace HB := Aside0.mk (hb); (try clear hb); (try clear hkp); (try clear hy0)))
    (try simp only [Exit.inBlock, Exit.then, jump_ret])
    go_ret
    exact ⟨_, by first | rfl | (simp [errW_none, errW_some] <;> rfl) | (simp [*, errW_none, errW_some] <;> rfl), by (with_reducible repeat (first | apply Kd.R_alloc | apply Kd.R_drewN | apply Kd.R_drew)); exact HO_3.out, bE⟩
   rw [if_neg c7] at H
   obtain ⟨c7b0, c7b1⟩ := eqF c7
   have c7b2 : ¬ (x4_1 = []) := fun h_ => c7 (by rw [h_]; rfl)
   obtain ⟨ji12, hji12⟩ : ∃ j_ : Int, (wrap64 ((x4_1.length : Int) - 1)) = j_ := ⟨_, rfl⟩
   rw [hji12] at H
   have hji12w : (IntKind.i64.wrap ((x4_1.length : Int) - 1)) = ji12 := (i64_w _).trans hji12
   obtain ⟨c13, H⟩ := gp H
   have c13b0 := dT c13
   clear c13
   obtain ⟨c14, H⟩ := gp H
   have c14b0 := dT c14
   clear c14
   replace H := bi H
   obtain ⟨⟨t161, t162⟩, A150, H⟩ := H
   try dsimp only at H
   have A15 := Aside0.mk A150
   clear A150
   obtain ⟨c16, H⟩ := gp H
   have c16b0 := eq_true c16
   have c16b1 := dT c16
   clear c16
   obtain ⟨y164, hy164⟩ : ∃ y_ : List (S98), y_ = (x4_1.take ((ji12) : Int).toNat) := ⟨_, rfl⟩
   replace H : (if t161 = 6 then (if (x3_1.length : Int) > 0 then (if 0 ≤ (wrap64 ((x3_1.length : Int) - 1)) then (if (wrap64 ((x3_1.length : Int) - 1)) < (x3_1.length : Int) then (if ((rd_T85 x3_1 (wrap64 ((x3_1.length : Int) - 1))).f0) = 6 then (if x3_1.length < 5864062014805 then (words_Split.l0 k1 (x3_1 ++ [(⟨t161, t162⟩ : S85)]) y164) else (none)) else (if ((rd_T85 x3_1 (wrap64 ((x3_1.length : Int) - 1))).f0) = 10 then (if x3_1.length < 5864062014805 then (words_Split.l0 k1 (x3_1 ++ [(⟨t161, t162⟩ : S85)]) y164) else (none)) else (words_Split.l0 k1 x3_1 y164))) else (none)) else (none)) else (words_Split.l0 k1 x3_1 y164)) else (if x3_1.length < 5864062014805 then (words_Split.l0 k1 (x3_1 ++ [(⟨t161, t162⟩ : S85)]) y164) else (none))) = some r := by first | (rw [hy164]; with_reducible exact H) | (have H2_ := (Option.bind_some _ _).symm.trans H; rw [hy164]; with_reducible exact H2_) | (have H2_ := (Option.bind_some _ _).symm.trans H; with_reducible exact H2_) | with_reducible exact H | (rw [hy164]; exact H) | exact H
   have Ny164 := Aside0.mk hy164
   clear hy164
   by_cases c17 : t161 = 6
   rotate_left
   ·rw [if_neg c17] at H
    obtain ⟨c17b0, c17b1⟩ := eqF c17
    obtain ⟨c60, H⟩ := gp H
    have LMc60 := Aside0.mk c60
    clear c60
    obtain ⟨y175, hy175⟩ : ∃ y_ : List (S85), y_ = (x3_1 ++ [(⟨t161, t162⟩ : S85)]) := ⟨_, rfl⟩
    replace H : (words_Split.l0 k1 y175 y164) = some r := by first | (rw [hy175]; with_reducible exact H) | (have H2_ := (Option.bind_some _ _).symm.trans H; rw [hy175]; with_reducible exact H2_) | (have H2_ := (Option.bind_some _ _).symm.trans H; with_reducible exact H2_) | with_reducible exact H | (rw [hy175]; exact H) | exact H
    have Ny175 := Aside0.mk hy175
    clear hy175
    have H' := Aside0.mk H
    clear H
    obtain ⟨Ao61, co61, eo61⟩ := Kd.R_slice HO_4.out
    subst eo61
    have p160 : 0 ≤ ((ji12) : Int) := dA
    have q160 : (ji12) < (x4_1.length : Int) := dA
    obtain ⟨ad160, e160, hx160_0, hx160_1, hx160_2⟩ := at_T98 (Kd.R_reads' HO_4.out).2.2 (ji12) p160 q160
    cases e160
    replace p160 := eq_true p160
    replace q160 := eq_true q160
    go_wp2_with (first | ((with_reducible refine gate_callee (f := 73) rfl ?_); refine goesL_ (some 21) rfl rfl Tryz.func73 (by kernel_rfl) rfl #[.agg #[.string ((rd_T98 x4_1 (ji12)).f0), .bool ((rd_T98 x4_1 (ji12)).f1), .bool ((rd_T98 x4_1 (ji12)).f2)]] rfl (by (try simp only [List.map_toArray, List.map_cons, List.map_nil]); first | done | (simp only [hji12]; rfl) | rfl | (simp only [List.length_drop, List.length_take]; rfl)) ?_; (with_reducible refine (words_word.calls k1 ((rd_T98 x4_1 (ji12)).f0) ((rd_T98 x4_1 (ji12)).f1) ((rd_T98 x4_1 (ji12)).f2) t161 t162 _ (gS HG) A15.out).mono ?_); rintro e w62 ⟨rfl, hb⟩; refine ⟨_, rfl, ?_⟩; replace HO_3 := rB HO_3 hb; replace HO_4 := rB HO_4 hb; replace HB := sB hb; (try clear hb)) | ((with_reducible refine gate_dst (N := 5) rfl ?_); (try (refine gate_guard (by rfl) ?_; dsimp only)); refine be 5 #[.int .i64 0, .string (⟨#[]⟩ : ByteArray)] 85 ?_; intro gb163 hg w63 hbox hb; replace HO_3 := Aside0.mk (Kd.R_below (Kd.R_elderB (kR HO_3) gb163 (Nat.le_of_eq hg.symm)) hb); replace HO_4 := rB HO_4 hb; have BK163 := Aside0.mk (hbox); have GW163 := gW hg; have GE163 := gW hg; replace HB := sB hb; clear hb hbox hg; have hcz64_0 : w63.cell? ⟨gb163, 0, none⟩ = some (.int .i64 0) := (blk_cell BK163.out 0).trans rfl; have hcz64_1 : w63.cell? ⟨gb163, 1, none⟩ = some (.string (⟨#[]⟩ : ByteArray)) := (blk_cell BK163.out 1).trans rfl; have hfz64_0 := blk_frozen BK163.out 0; have hfz64_1 := blk_frozen BK163.out 1) | ((with_reducible refine gate_store (t := 85) (p := 5) rfl ?_); refine store_event (t := 85) (p := 5) (v := ?vo_w65) (w1 := ((w63.setCell ⟨gb163, 0, none⟩ (.int .i64 t161)).setCell ⟨gb163, 1, none⟩ (.string t162))) ?hg ?ho ?hn ?hr ?_; (case ho => rfl); (case hg => rfl); (case hn => rfl); (case hr => first | (go_simp; done) | (go_simp; rfl)); intro w65 hw; replace HO_3 : Aside0 (Kd.R k85 85 w65 w.heap.size (fun k_ => k_ ≠ gb163) u3 x3_1) := ⟨(by rw [hw]; exact (by (with_reducible repeat (first | apply Kd.R_alloc | apply Kd.R_drewN | apply Kd.R_drew)); exact Kd.R_mono (Kd.R_far (p := ⟨gb163, 1, none⟩) (Kd.R_far (p := ⟨gb163, 0, none⟩) (Kd.R_mono HO_3.out (fun k_ hk => (⟨hk, hk.2⟩ : _ ∧ k_ ≠ gb163))) (fun _ hk => hk.2) (.int .i64 t161)) (fun _ hk => hk.2) (.string t162)) (fun _ hk => hk.1.2)))⟩; replace HO_4 : Aside0 (Kd.R k98 98 w65 w.heap.size (fun _ => True) (.slice (some ad160) x4_1.length co61) x4_1) := ⟨(by rw [hw]; exact (by (with_reducible repeat (first | apply Kd.R_alloc | apply Kd.R_drewN | apply Kd.R_drew)); exact Kd.R_mono (Kd.R_far (p := ⟨gb163, 1, none⟩) (Kd.R_far (p := ⟨gb163, 0, none⟩) (Kd.R_types HO_4.out BK163.out (by decide)) (fun _ hk => hk.2) (.int .i64 t161)) (fun _ hk => hk.2) (.string t162)) (fun _ hk => trivial)))⟩; replace BK163 : Aside0 (w65.heap[gb163]? = some (.cells #[.int .i64 t161, .string t162] 85 (0, 0))) := ⟨(by rw [hw]; exact (bP BK163))⟩; replace HB : Aside0 (Below w.heap.size w w65) := ⟨(by rw [hw]; exact bG)⟩; clear hw; have q66 : ((ji12) : Int) ≤ ((x4_1.length : Int) : Int) := dA; obtain ⟨i066, hi066, _, hsz66, _⟩ := info_parts info98; have hcut66 := cut_to (P := Tryz.prog) 93 98 .i64 Tryz.underlying93 hi066 (some ad160) x4_1.length co61 (ji12) (dA) q66 (Kd.R_reads' HO_4.out).2.1; have hr66 := Kd.R_take (m := ((ji12) : Int).toNat) HO_4.out (by omega); have hy66 : y164.length = ((ji12) : Int).toNat := (by rw [Ny164.out, List.length_take]; omega); rw [← Ny164.out] at hr66; rw [← hy66] at hr66 hcut66; clear hy66 hi066 hsz66 HO_4; have HO166 := Aside0.mk hr66; clear hr66; replace q66 := eq_true q66; have hcz67_0 : w65.cell? ⟨gb163, 0, none⟩ = some (.int .i64 t161) := (blk_cell BK163.out 0).trans rfl; have hcz67_1 : w65.cell? ⟨gb163, 1, none⟩ = some (.string t162) := (blk_cell BK163.out 1).trans rfl; have hfz67_0 := blk_frozen BK163.out 0; have hfz67_1 := blk_frozen BK163.out 1) | ((with_reducible refine gate_builtin (b := .append) (xs := #[.tmp 55, .tmp 57]) rfl ?_); (try (refine gate_guard (by rfl) ?_; dsimp only)); at_builtin; refine Kd.R_append k85 (w0 := w) w.heap.size rfl (.tmp 55) (.tmp 57) 71 85 (.agg #[(.int .i64 0), (.string ⟨#[]⟩)]) 24 rfl Tryz.underlying71 info85 rfl (by decide) (by omega) u3 x3_1 (⟨t161, t162⟩ : S85) [.int .i64 t161, .string t162] (fun k_ => k_ ≠ gb163) (fun _ => False) rfl rfl ?aP (fun _ hk => hk.elim) ?aF ?aO ?aB ?aS ?aL ?_; (case aP => exact k85_mkM _ _ _ (⟨t161, t162⟩ : S85)); (case aB => exact bG); (case aF => exact (fun k_ hk => Kd.freshB (g := gb163) (o := .cells #[.int .i64 t161, .string t162] 85 (0, 0)) (bK BK163) k_ hk)); (case aO => exact (kR HO_3)); (case aS => exact (below_size bG)); (case aL => have := LMc60.out; omega); intro v176 w68 ho hb hg hat; rw [← Ny175.out] at ho; replace HO166 := Aside0.mk (Kd.R_over' (kR HO166) (Kd.R_typed (kR HO_3)) (by decide) hg); replace BK163 := Aside0.mk (blk_grown (g := gb163) (o := .cells #[.int .i64 t161, .string t162] 85 (0, 0)) (bK BK163) hg (Kd.R_away HO_3.out (fun _ hk => hk))); replace HB := Aside0.mk (hb); have HO177 := Aside0.mk (ho); clear HO_3; clear ho hb hg hat))
    refine wp_goto (And.intro rfl ?_)
    refine hKs0 _ _ ?_
    go_roundg k1
    case measure => have := HK1.out; omega
    case rel => exact ⟨(y175), (y164), H', ⟨by have := HK1.out; omega⟩, ⟨by (with_reducible repeat (first | apply Kd.R_alloc | apply Kd.R_drewN | apply Kd.R_drew)); exact Kd.R_mono HO177.out (fun _ hk => trivial)⟩, ⟨kR HO166⟩, ⟨bG⟩⟩
   rw [if_pos c17] at H
   obtain ⟨c17b0, c17b1⟩ := eqT c17
   clear c17
   by_cases c18 : (x3_1.length : Int) > 0
   rotate_left
   ·rw [if_neg c18] at H
    have c18b0 := dF c18
    have c18b1 : decide (0 < x3_1.length) = false := decide_eq_false (by omega)
    clear c18
    have H' := Aside0.mk H
    clear H
    obtain ⟨Ao52, co52, eo52⟩ := Kd.R_slice HO_4.out
    subst eo52
    have p160 : 0 ≤ ((ji12) : Int) := dA
    have q160 : (ji12) < (x4_1.length : Int) := dA
    obtain ⟨ad160, e160, hx160_0, hx160_1, hx160_2⟩ := at_T98 (Kd.R_reads' HO_4.out).2.2 (ji12) p160 q160
    cases e160
    replace p160 := eq_true p160
    replace q160 := eq_true q160
    go_wp2_with (first | ((with_reducible refine gate_callee (f := 73) rfl ?_); refine goesL_ (some 21) rfl rfl Tryz.func73 (by kernel_rfl) rfl #[.agg #[.string ((rd_T98 x4_1 (ji12)).f0), .bool ((rd_T98 x4_1 (ji12)).f1), .bool ((rd_T98 x4_1 (ji12)).f2)]] rfl (by (try simp only [List.map_toArray, List.map_cons, List.map_nil]); first | done | (simp only [hji12]; rfl) | rfl | (simp only [List.length_drop, List.length_take]; rfl)) ?_; (with_reducible refine (words_word.calls k1 ((rd_T98 x4_1 (ji12)).f0) ((rd_T98 x4_1 (ji12)).f1) ((rd_T98 x4_1 (ji12)).f2) t161 t162 _ (gS HG) A15.out).mono ?_); rintro e w53 ⟨rfl, hb⟩; refine ⟨_, rfl, ?_⟩; replace HO_3 := rB HO_3 hb; replace HO_4 := rB HO_4 hb; replace HB := sB hb; (try clear hb)) | ((with_reducible refine gate_dst (N := 5) rfl ?_); (try (refine gate_guard (by rfl) ?_; dsimp only)); refine be 5 #[.int .i64 0, .string (⟨#[]⟩ : ByteArray)] 85 ?_; intro gb163 hg w54 hbox hb; replace HO_3 := Aside0.mk (Kd.R_below (Kd.R_elderB (kR HO_3) gb163 (Nat.le_of_eq hg.symm)) hb); replace HO_4 := rB HO_4 hb; have BK163 := Aside0.mk (hbox); have GW163 := gW hg; have GE163 := gW hg; replace HB := sB hb; clear hb hbox hg; have hcz55_0 : w54.cell? ⟨gb163, 0, none⟩ = some (.int .i64 0) := (blk_cell BK163.out 0).trans rfl; have hcz55_1 : w54.cell? ⟨gb163, 1, none⟩ = some (.string (⟨#[]⟩ : ByteArray)) := (blk_cell BK163.out 1).trans rfl; have hfz55_0 := blk_frozen BK163.out 0; have hfz55_1 := blk_frozen BK163.out 1) | ((with_reducible refine gate_store (t := 85) (p := 5) rfl ?_); refine store_event (t := 85) (p := 5) (v := ?vo_w56) (w1 := ((w54.setCell ⟨gb163, 0, none⟩ (.int .i64 t161)).setCell ⟨gb163, 1, none⟩ (.string t162))) ?hg ?ho ?hn ?hr ?_; (case ho => rfl); (case hg => rfl); (case hn => rfl); (case hr => first | (go_simp; done) | (go_simp; rfl)); intro w56 hw; replace HO_3 : Aside0 (Kd.R k85 85 w56 w.heap.size (fun k_ => k_ ≠ gb163) u3 x3_1) := ⟨(by rw [hw]; exact (by (with_reducible repeat (first | apply Kd.R_alloc | apply Kd.R_drewN | apply Kd.R_drew)); exact Kd.R_mono (Kd.R_far (p := ⟨gb163, 1, none⟩) (Kd.R_far (p := ⟨gb163, 0, none⟩) (Kd.R_mono HO_3.out (fun k_ hk => (⟨hk, hk.2⟩ : _ ∧ k_ ≠ gb163))) (fun _ hk => hk.2) (.int .i64 t161)) (fun _ hk => hk.2) (.string t162)) (fun _ hk => hk.1.2)))⟩; replace HO_4 : Aside0 (Kd.R k98 98 w56 w.heap.size (fun _ => True) (.slice (some ad160) x4_1.length co52) x4_1) := ⟨(by rw [hw]; exact (by (with_reducible repeat (first | apply Kd.R_alloc | apply Kd.R_drewN | apply Kd.R_drew)); exact Kd.R_mono (Kd.R_far (p := ⟨gb163, 1, none⟩) (Kd.R_far (p := ⟨gb163, 0, none⟩) (Kd.R_types HO_4.out BK163.out (by decide)) (fun _ hk => hk.2) (.int .i64 t161)) (fun _ hk => hk.2) (.string t162)) (fun _ hk => trivial)))⟩; replace BK163 : Aside0 (w56.heap[gb163]? = some (.cells #[.int .i64 t161, .string t162] 85 (0, 0))) := ⟨(by rw [hw]; exact (bP BK163))⟩; replace HB : Aside0 (Below w.heap.size w w56) := ⟨(by rw [hw]; exact bG)⟩; clear hw; have q57 : ((ji12) : Int) ≤ ((x4_1.length : Int) : Int) := dA; obtain ⟨i057, hi057, _, hsz57, _⟩ := info_parts info98; have hcut57 := cut_to (P := Tryz.prog) 93 98 .i64 Tryz.underlying93 hi057 (some ad160) x4_1.length co52 (ji12) (dA) q57 (Kd.R_reads' HO_4.out).2.1; have hr57 := Kd.R_take (m := ((ji12) : Int).toNat) HO_4.out (by omega); have hy57 : y164.length = ((ji12) : Int).toNat := (by rw [Ny164.out, List.length_take]; omega); rw [← Ny164.out] at hr57; rw [← hy57] at hr57 hcut57; clear hy57 hi057 hsz57 HO_4; have HO166 := Aside0.mk hr57; clear hr57; replace q57 := eq_true q57; have hcz58_0 : w56.cell? ⟨gb163, 0, none⟩ = some (.int .i64 t161) := (blk_cell BK163.out 0).trans rfl; have hcz58_1 : w56.cell? ⟨gb163, 1, none⟩ = some (.string t162) := (blk_cell BK163.out 1).trans rfl; have hfz58_0 := blk_frozen BK163.out 0; have hfz58_1 := blk_frozen BK163.out 1; obtain ⟨Ao59, co59, eo59⟩ := Kd.R_slice HO_3.out; subst eo59))
    refine wp_goto (And.intro rfl ?_)
    refine hKs0 _ _ ?_
    go_roundg k1
    case measure => have := HK1.out; omega
    case rel => exact ⟨(x3_1), (y164), H', ⟨by have := HK1.out; omega⟩, ⟨by (with_reducible repeat (first | apply Kd.R_alloc | apply Kd.R_drewN | apply Kd.R_drew)); exact Kd.R_mono HO_3.out (fun _ hk => trivial)⟩, ⟨kR HO166⟩, ⟨bG⟩⟩
   rw [if_pos c18] at H
   have c18b0 := dT c18
   have c18b1 : decide (0 < x3_1.length) = true := decide_eq_true (by omega)
   clear c18
   obtain ⟨ji19, hji19⟩ : ∃ j_ : Int, (wrap64 ((x3_1.length : Int) - 1)) = j_ := ⟨_, rfl⟩
   rw [hji19] at H
   (try rw [hji19] at A15)
   have hji19w : (IntKind.i64.wrap ((x3_1.length : Int) - 1)) = ji19 := (i64_w _).trans hji19
   obtain ⟨c20, H⟩ := gp H
   have c20b0 := dT c20
   clear c20
   obtain ⟨c21, H⟩ := gp H
   have c21b0 := dT c21
   clear c21
   by_cases c22 : ((rd_T85 x3_1 (ji19)).f0) = 6
   ·rw [if_pos c22] at H
    obtain ⟨c22b0, c22b1⟩ := eqT c22
    clear c22
    obtain ⟨c23, H⟩ := gp H
    have LMc23 := Aside0.mk c23
    clear c23
    obtain ⟨y168, hy168⟩ : ∃ y_ : List (S85), y_ = (x3_1 ++ [(⟨t161, t162⟩ : S85)]) := ⟨_, rfl⟩
    replace H : (words_Split.l0 k1 y168 y164) = some r := by first | (rw [hy168]; with_reducible exact H) | (have H2_ := (Option.bind_some _ _).symm.trans H; rw [hy168]; with_reducible exact H2_) | (have H2_ := (Option.bind_some _ _).symm.trans H; with_reducible exact H2_) | with_reducible exact H | (rw [hy168]; exact H) | exact H
    have Ny168 := Aside0.mk hy168
    clear hy168
    have H' := Aside0.mk H
    clear H
    obtain ⟨Ao24, co24, eo24⟩ := Kd.R_slice HO_4.out
    subst eo24
    have p160 : 0 ≤ ((ji12) : Int) := dA
    have q160 : (ji12) < (x4_1.length : Int) := dA
    obtain ⟨ad160, e160, hx160_0, hx160_1, hx160_2⟩ := at_T98 (Kd.R_reads' HO_4.out).2.2 (ji12) p160 q160
    cases e160
    replace p160 := eq_true p160
    replace q160 := eq_true q160
    go_wp2_with (first | ((with_reducible refine gate_callee (f := 73) rfl ?_); refine goesL_ (some 21) rfl rfl Tryz.func73 (by kernel_rfl) rfl #[.agg #[.string ((rd_T98 x4_1 (ji12)).f0), .bool ((rd_T98 x4_1 (ji12)).f1), .bool ((rd_T98 x4_1 (ji12)).f2)]] rfl (by (try simp only [List.map_toArray, List.map_cons, List.map_nil]); first | done | (simp only [hji12]; rfl) | rfl | (simp only [List.length_drop, List.length_take]; rfl)) ?_; (with_reducible refine (words_word.calls k1 ((rd_T98 x4_1 (ji12)).f0) ((rd_T98 x4_1 (ji12)).f1) ((rd_T98 x4_1 (ji12)).f2) t161 t162 _ (gS HG) A15.out).mono ?_); rintro e w25 ⟨rfl, hb⟩; refine ⟨_, rfl, ?_⟩; replace HO_3 := rB HO_3 hb; replace HO_4 := rB HO_4 hb; replace HB := sB hb; (try clear hb)) | ((with_reducible refine gate_dst (N := 5) rfl ?_); (try (refine gate_guard (by rfl) ?_; dsimp only)); refine be 5 #[.int .i64 0, .string (⟨#[]⟩ : ByteArray)] 85 ?_; intro gb163 hg w26 hbox hb; replace HO_3 := Aside0.mk (Kd.R_below (Kd.R_elderB (kR HO_3) gb163 (Nat.le_of_eq hg.symm)) hb); replace HO_4 := rB HO_4 hb; have BK163 := Aside0.mk (hbox); have GW163 := gW hg; have GE163 := gW hg; replace HB := sB hb; clear hb hbox hg; have hcz27_0 : w26.cell? ⟨gb163, 0, none⟩ = some (.int .i64 0) := (blk_cell BK163.out 0).trans rfl; have hcz27_1 : w26.cell? ⟨gb163, 1, none⟩ = some (.string (⟨#[]⟩ : ByteArray)) := (blk_cell BK163.out 1).trans rfl; have hfz27_0 := blk_frozen BK163.out 0; have hfz27_1 := blk_frozen BK163.out 1) | ((with_reducible refine gate_store (t := 85) (p := 5) rfl ?_); refine store_event (t := 85) (p := 5) (v := ?vo_w28) (w1 := ((w26.setCell ⟨gb163, 0, none⟩ (.int .i64 t161)).setCell ⟨gb163, 1, none⟩ (.string t162))) ?hg ?ho ?hn ?hr ?_; (case ho => rfl); (case hg => rfl); (case hn => rfl); (case hr => first | (go_simp; done) | (go_simp; rfl)); intro w28 hw; replace HO_3 : Aside0 (Kd.R k85 85 w28 w.heap.size (fun k_ => k_ ≠ gb163) u3 x3_1) := ⟨(by rw [hw]; exact (by (with_reducible repeat (first | apply Kd.R_alloc | apply Kd.R_drewN | apply Kd.R_drew)); exact Kd.R_mono (Kd.R_far (p := ⟨gb163, 1, none⟩) (Kd.R_far (p := ⟨gb163, 0, none⟩) (Kd.R_mono HO_3.out (fun k_ hk => (⟨hk, hk.2⟩ : _ ∧ k_ ≠ gb163))) (fun _ hk => hk.2) (.int .i64 t161)) (fun _ hk => hk.2) (.string t162)) (fun _ hk => hk.1.2)))⟩; replace HO_4 : Aside0 (Kd.R k98 98 w28 w.heap.size (fun _ => True) (.slice (some ad160) x4_1.length co24) x4_1) := ⟨(by rw [hw]; exact (by (with_reducible repeat (first | apply Kd.R_alloc | apply Kd.R_drewN | apply Kd.R_drew)); exact Kd.R_mono (Kd.R_far (p := ⟨gb163, 1, none⟩) (Kd.R_far (p := ⟨gb163, 0, none⟩) (Kd.R_types HO_4.out BK163.out (by decide)) (fun _ hk => hk.2) (.int .i64 t161)) (fun _ hk => hk.2) (.string t162)) (fun _ hk => trivial)))⟩; replace BK163 : Aside0 (w28.heap[gb163]? = some (.cells #[.int .i64 t161, .string t162] 85 (0, 0))) := ⟨(by rw [hw]; exact (bP BK163))⟩; replace HB : Aside0 (Below w.heap.size w w28) := ⟨(by rw [hw]; exact bG)⟩; clear hw; have q29 : ((ji12) : Int) ≤ ((x4_1.length : Int) : Int) := dA; obtain ⟨i029, hi029, _, hsz29, _⟩ := info_parts info98; have hcut29 := cut_to (P := Tryz.prog) 93 98 .i64 Tryz.underlying93 hi029 (some ad160) x4_1.length co24 (ji12) (dA) q29 (Kd.R_reads' HO_4.out).2.1; have hr29 := Kd.R_take (m := ((ji12) : Int).toNat) HO_4.out (by omega); have hy29 : y164.length = ((ji12) : Int).toNat := (by rw [Ny164.out, List.length_take]; omega); rw [← Ny164.out] at hr29; rw [← hy29] at hr29 hcut29; clear hy29 hi029 hsz29 HO_4; have HO166 := Aside0.mk hr29; clear hr29; replace q29 := eq_true q29; have hcz30_0 : w28.cell? ⟨gb163, 0, none⟩ = some (.int .i64 t161) := (blk_cell BK163.out 0).trans rfl; have hcz30_1 : w28.cell? ⟨gb163, 1, none⟩ = some (.string t162) := (blk_cell BK163.out 1).trans rfl; have hfz30_0 := blk_frozen BK163.out 0; have hfz30_1 := blk_frozen BK163.out 1; obtain ⟨Ao31, co31, eo31⟩ := Kd.R_slice HO_3.out; subst eo31; have p167 : 0 ≤ ((ji19) : Int) := dA; have q167 : (ji19) < (x3_1.length : Int) := dA; obtain ⟨ad167, e167, hx167_0, hx167_1⟩ := at_T85 (Kd.R_reads' HO_3.out).2.2 (ji19) p167 q167; cases e167; replace p167 := eq_true p167; replace q167 := eq_true q167) | ((with_reducible refine gate_builtin (b := .append) (xs := #[.tmp 55, .tmp 57]) rfl ?_); (try (refine gate_guard (by rfl) ?_; dsimp only)); at_builtin; refine Kd.R_append k85 (w0 := w) w.heap.size rfl (.tmp 55) (.tmp 57) 71 85 (.agg #[(.int .i64 0), (.string ⟨#[]⟩)]) 24 rfl Tryz.underlying71 info85 rfl (by decide) (by omega) (.slice (some ad167) x3_1.length co31) x3_1 (⟨t161, t162⟩ : S85) [.int .i64 t161, .string t162] (fun k_ => k_ ≠ gb163) (fun _ => False) rfl rfl ?aP (fun _ hk => hk.elim) ?aF ?aO ?aB ?aS ?aL ?_; (case aP => exact k85_mkM _ _ _ (⟨t161, t162⟩ : S85)); (case aB => exact bG); (case aF => exact (fun k_ hk => Kd.freshB (g := gb163) (o := .cells #[.int .i64 t161, .string t162] 85 (0, 0)) (bK BK163) k_ hk)); (case aO => exact (kR HO_3)); (case aS => exact (below_size bG)); (case aL => have := LMc23.out; omega); intro v169 w32 ho hb hg hat; rw [← Ny168.out] at ho; replace HO166 := Aside0.mk (Kd.R_over' (kR HO166) (Kd.R_typed (kR HO_3)) (by decide) hg); replace BK163 := Aside0.mk (blk_grown (g := gb163) (o := .cells #[.int .i64 t161, .string t162] 85 (0, 0)) (bK BK163) hg (Kd.R_away HO_3.out (fun _ hk => hk))); replace HB := Aside0.mk (hb); have HO170 := Aside0.mk (ho); clear HO_3; clear ho hb hg hat))
    refine wp_goto (And.intro rfl ?_)
    refine hKs0 _ _ ?_
    go_roundg k1
    case measure => have := HK1.out; omega
    case rel => exact ⟨(y168), (y164), H', ⟨by have := HK1.out; omega⟩, ⟨by (with_reducible repeat (first | apply Kd.R_alloc | apply Kd.R_drewN | apply Kd.R_drew)); exact Kd.R_mono HO170.out (fun _ hk => trivial)⟩, ⟨kR HO166⟩, ⟨bG⟩⟩
   rw [if_neg c22] at H
   obtain ⟨c22b0, c22b1⟩ := eqF c22
   by_cases c33 : ((rd_T85 x3_1 (ji19)).f0) = 10
   rotate_left
   ·rw [if_neg c33] at H
    obtain ⟨c33b0, c33b1⟩ := eqF c33
    have H' := Aside0.mk H
    clear H
    obtain ⟨Ao44, co44, eo44⟩ := Kd.R_slice HO_4.out
    subst eo44
    have p160 : 0 ≤ ((ji12) : Int) := dA
    have q160 : (ji12) < (x4_1.length : Int) := dA
    obtain ⟨ad160, e160, hx160_0, hx160_1, hx160_2⟩ := at_T98 (Kd.R_reads' HO_4.out).2.2 (ji12) p160 q160
    cases e160
    replace p160 := eq_true p160
    replace q160 := eq_true q160
    go_wp2_with (first | ((with_reducible refine gate_callee (f := 73) rfl ?_); refine goesL_ (some 21) rfl rfl Tryz.func73 (by kernel_rfl) rfl #[.agg #[.string ((rd_T98 x4_1 (ji12)).f0), .bool ((rd_T98 x4_1 (ji12)).f1), .bool ((rd_T98 x4_1 (ji12)).f2)]] rfl (by (try simp only [List.map_toArray, List.map_cons, List.map_nil]); first | done | (simp only [hji12]; rfl) | rfl | (simp only [List.length_drop, List.length_take]; rfl)) ?_; (with_reducible refine (words_word.calls k1 ((rd_T98 x4_1 (ji12)).f0) ((rd_T98 x4_1 (ji12)).f1) ((rd_T98 x4_1 (ji12)).f2) t161 t162 _ (gS HG) A15.out).mono ?_); rintro e w45 ⟨rfl, hb⟩; refine ⟨_, rfl, ?_⟩; replace HO_3 := rB HO_3 hb; replace HO_4 := rB HO_4 hb; replace HB := sB hb; (try clear hb)) | ((with_reducible refine gate_dst (N := 5) rfl ?_); (try (refine gate_guard (by rfl) ?_; dsimp only)); refine be 5 #[.int .i64 0, .string (⟨#[]⟩ : ByteArray)] 85 ?_; intro gb163 hg w46 hbox hb; replace HO_3 := Aside0.mk (Kd.R_below (Kd.R_elderB (kR HO_3) gb163 (Nat.le_of_eq hg.symm)) hb); replace HO_4 := rB HO_4 hb; have BK163 := Aside0.mk (hbox); have GW163 := gW hg; have GE163 := gW hg; replace HB := sB hb; clear hb hbox hg; have hcz47_0 : w46.cell? ⟨gb163, 0, none⟩ = some (.int .i64 0) := (blk_cell BK163.out 0).trans rfl; have hcz47_1 : w46.cell? ⟨gb163, 1, none⟩ = some (.string (⟨#[]⟩ : ByteArray)) := (blk_cell BK163.out 1).trans rfl; have hfz47_0 := blk_frozen BK163.out 0; have hfz47_1 := blk_frozen BK163.out 1) | ((with_reducible refine gate_store (t := 85) (p := 5) rfl ?_); refine store_event (t := 85) (p := 5) (v := ?vo_w48) (w1 := ((w46.setCell ⟨gb163, 0, none⟩ (.int .i64 t161)).setCell ⟨gb163, 1, none⟩ (.string t162))) ?hg ?ho ?hn ?hr ?_; (case ho => rfl); (case hg => rfl); (case hn => rfl); (case hr => first | (go_simp; done) | (go_simp; rfl)); intro w48 hw; replace HO_3 : Aside0 (Kd.R k85 85 w48 w.heap.size (fun k_ => k_ ≠ gb163) u3 x3_1) := ⟨(by rw [hw]; exact (by (with_reducible repeat (first | apply Kd.R_alloc | apply Kd.R_drewN | apply Kd.R_drew)); exact Kd.R_mono (Kd.R_far (p := ⟨gb163, 1, none⟩) (Kd.R_far (p := ⟨gb163, 0, none⟩) (Kd.R_mono HO_3.out (fun k_ hk => (⟨hk, hk.2⟩ : _ ∧ k_ ≠ gb163))) (fun _ hk => hk.2) (.int .i64 t161)) (fun _ hk => hk.2) (.string t162)) (fun _ hk => hk.1.2)))⟩; replace HO_4 : Aside0 (Kd.R k98 98 w48 w.heap.size (fun _ => True) (.slice (some ad160) x4_1.length co44) x4_1) := ⟨(by rw [hw]; exact (by (with_reducible repeat (first | apply Kd.R_alloc | apply Kd.R_drewN | apply Kd.R_drew)); exact Kd.R_mono (Kd.R_far (p := ⟨gb163, 1, none⟩) (Kd.R_far (p := ⟨gb163, 0, none⟩) (Kd.R_types HO_4.out BK163.out (by decide)) (fun _ hk => hk.2) (.int .i64 t161)) (fun _ hk => hk.2) (.string t162)) (fun _ hk => trivial)))⟩; replace BK163 : Aside0 (w48.heap[gb163]? = some (.cells #[.int .i64 t161, .string t162] 85 (0, 0))) := ⟨(by rw [hw]; exact (bP BK163))⟩; replace HB : Aside0 (Below w.heap.size w w48) := ⟨(by rw [hw]; exact bG)⟩; clear hw; have q49 : ((ji12) : Int) ≤ ((x4_1.length : Int) : Int) := dA; obtain ⟨i049, hi049, _, hsz49, _⟩ := info_parts info98; have hcut49 := cut_to (P := Tryz.prog) 93 98 .i64 Tryz.underlying93 hi049 (some ad160) x4_1.length co44 (ji12) (dA) q49 (Kd.R_reads' HO_4.out).2.1; have hr49 := Kd.R_take (m := ((ji12) : Int).toNat) HO_4.out (by omega); have hy49 : y164.length = ((ji12) : Int).toNat := (by rw [Ny164.out, List.length_take]; omega); rw [← Ny164.out] at hr49; rw [← hy49] at hr49 hcut49; clear hy49 hi049 hsz49 HO_4; have HO166 := Aside0.mk hr49; clear hr49; replace q49 := eq_true q49; have hcz50_0 : w48.cell? ⟨gb163, 0, none⟩ = some (.int .i64 t161) := (blk_cell BK163.out 0).trans rfl; have hcz50_1 : w48.cell? ⟨gb163, 1, none⟩ = some (.string t162) := (blk_cell BK163.out 1).trans rfl; have hfz50_0 := blk_frozen BK163.out 0; have hfz50_1 := blk_frozen BK163.out 1; obtain ⟨Ao51, co51, eo51⟩ := Kd.R_slice HO_3.out; subst eo51; have p167 : 0 ≤ ((ji19) : Int) := dA; have q167 : (ji19) < (x3_1.length : Int) := dA; obtain ⟨ad167, e167, hx167_0, hx167_1⟩ := at_T85 (Kd.R_reads' HO_3.out).2.2 (ji19) p167 q167; cases e167; replace p167 := eq_true p167; replace q167 := eq_true q167; have p171 : 0 ≤ ((ji19) : Int) := dA; have q171 : (ji19) < (x3_1.length : Int) := dA; obtain ⟨ad171, e171, hx171_0, hx171_1⟩ := at_T85 (Kd.R_reads' HO_3.out).2.2 (ji19) p171 q171; obtain rfl : ad167 = ad171 := (by injection e171); replace p171 := eq_true p171; replace q171 := eq_true q171))
    refine wp_goto (And.intro rfl ?_)
    refine hKs0 _ _ ?_
    go_roundg k1
    case measure => have := HK1.out; omega
    case rel => exact ⟨(x3_1), (y164), H', ⟨by have := HK1.out; omega⟩, ⟨by (with_reducible repeat (first | apply Kd.R_alloc | apply Kd.R_drewN | apply Kd.R_drew)); exact Kd.R_mono HO_3.out (fun _ hk => trivial)⟩, ⟨kR HO166⟩, ⟨bG⟩⟩
   rw [if_pos c33] at H
   obtain ⟨c33b0, c33b1⟩ := eqT c33
   clear c33
   obtain ⟨c34, H⟩ := gp H
   have LMc34 := Aside0.mk c34
   clear c34
   obtain ⟨y172, hy172⟩ : ∃ y_ : List (S85), y_ = (x3_1 ++ [(⟨t161, t162⟩ : S85)]) := ⟨_, rfl⟩
   replace H : (words_Split.l0 k1 y172 y164) = some r := by first | (rw [hy172]; with_reducible exact H) | (have H2_ := (Option.bind_some _ _).symm.trans H; rw [hy172]; with_reducible exact H2_) | (have H2_ := (Option.bind_some _ _).symm.trans H; with_reducible exact H2_) | with_reducible exact H | (rw [hy172]; exact H) | exact H
   have Ny172 := Aside0.mk hy172
   clear hy172
   have H' := Aside0.mk H
   clear H
   obtain ⟨Ao35, co35, eo35⟩ := Kd.R_slice HO_4.out
   subst eo35
   have p160 : 0 ≤ ((ji12) : Int) := dA
   have q160 : (ji12) < (x4_1.length : Int) := dA
   obtain ⟨ad160, e160, hx160_0, hx160_1, hx160_2⟩ := at_T98 (Kd.R_reads' HO_4.out).2.2 (ji12) p160 q160
   cases e160
   replace p160 := eq_true p160
   replace q160 := eq_true q160
   go_wp2_with (first | ((with_reducible refine gate_callee (f := 73) rfl ?_); refine goesL_ (some 21) rfl rfl Tryz.func73 (by kernel_rfl) rfl #[.agg #[.string ((rd_T98 x4_1 (ji12)).f0), .bool ((rd_T98 x4_1 (ji12)).f1), .bool ((rd_T98 x4_1 (ji12)).f2)]] rfl (by (try simp only [List.map_toArray, List.map_cons, List.map_nil]); first | done | (simp only [hji12]; rfl) | rfl | (simp only [List.length_drop, List.length_take]; rfl)) ?_; (with_reducible refine (words_word.calls k1 ((rd_T98 x4_1 (ji12)).f0) ((rd_T98 x4_1 (ji12)).f1) ((rd_T98 x4_1 (ji12)).f2) t161 t162 _ (gS HG) A15.out).mono ?_); rintro e w36 ⟨rfl, hb⟩; refine ⟨_, rfl, ?_⟩; replace HO_3 := rB HO_3 hb; replace HO_4 := rB HO_4 hb; replace HB := sB hb; (try clear hb)) | ((with_reducible refine gate_dst (N := 5) rfl ?_); (try (refine gate_guard (by rfl) ?_; dsimp only)); refine be 5 #[.int .i64 0, .string (⟨#[]⟩ : ByteArray)] 85 ?_; intro gb163 hg w37 hbox hb; replace HO_3 := Aside0.mk (Kd.R_below (Kd.R_elderB (kR HO_3) gb163 (Nat.le_of_eq hg.symm)) hb); replace HO_4 := rB HO_4 hb; have BK163 := Aside0.mk (hbox); have GW163 := gW hg; have GE163 := gW hg; replace HB := sB hb; clear hb hbox hg; have hcz38_0 : w37.cell? ⟨gb163, 0, none⟩ = some (.int .i64 0) := (blk_cell BK163.out 0).trans rfl; have hcz38_1 : w37.cell? ⟨gb163, 1, none⟩ = some (.string (⟨#[]⟩ : ByteArray)) := (blk_cell BK163.out 1).trans rfl; have hfz38_0 := blk_frozen BK163.out 0; have hfz38_1 := blk_frozen BK163.out 1) | ((with_reducible refine gate_store (t := 85) (p := 5) rfl ?_); refine store_event (t := 85) (p := 5) (v := ?vo_w39) (w1 := ((w37.setCell ⟨gb163, 0, none⟩ (.int .i64 t161)).setCell ⟨gb163, 1, none⟩ (.string t162))) ?hg ?ho ?hn ?hr ?_; (case ho => rfl); (case hg => rfl); (case hn => rfl); (case hr => first | (go_simp; done) | (go_simp; rfl)); intro w39 hw; replace HO_3 : Aside0 (Kd.R k85 85 w39 w.heap.size (fun k_ => k_ ≠ gb163) u3 x3_1) := ⟨(by rw [hw]; exact (by (with_reducible repeat (first | apply Kd.R_alloc | apply Kd.R_drewN | apply Kd.R_drew)); exact Kd.R_mono (Kd.R_far (p := ⟨gb163, 1, none⟩) (Kd.R_far (p := ⟨gb163, 0, none⟩) (Kd.R_mono HO_3.out (fun k_ hk => (⟨hk, hk.2⟩ : _ ∧ k_ ≠ gb163))) (fun _ hk => hk.2) (.int .i64 t161)) (fun _ hk => hk.2) (.string t162)) (fun _ hk => hk.1.2)))⟩; replace HO_4 : Aside0 (Kd.R k98 98 w39 w.heap.size (fun _ => True) (.slice (some ad160) x4_1.length co35) x4_1) := ⟨(by rw [hw]; exact (by (with_reducible repeat (first | apply Kd.R_alloc | apply Kd.R_drewN | apply Kd.R_drew)); exact Kd.R_mono (Kd.R_far (p := ⟨gb163, 1, none⟩) (Kd.R_far (p := ⟨gb163, 0, none⟩) (Kd.R_types HO_4.out BK163.out (by decide)) (fun _ hk => hk.2) (.int .i64 t161)) (fun _ hk => hk.2) (.string t162)) (fun _ hk => trivial)))⟩; replace BK163 : Aside0 (w39.heap[gb163]? = some (.cells #[.int .i64 t161, .string t162] 85 (0, 0))) := ⟨(by rw [hw]; exact (bP BK163))⟩; replace HB : Aside0 (Below w.heap.size w w39) := ⟨(by rw [hw]; exact bG)⟩; clear hw; have q40 : ((ji12) : Int) ≤ ((x4_1.length : Int) : Int) := dA; obtain ⟨i040, hi040, _, hsz40, _⟩ := info_parts info98; have hcut40 := cut_to (P := Tryz.prog) 93 98 .i64 Tryz.underlying93 hi040 (some ad160) x4_1.length co35 (ji12) (dA) q40 (Kd.R_reads' HO_4.out).2.1; have hr40 := Kd.R_take (m := ((ji12) : Int).toNat) HO_4.out (by omega); have hy40 : y164.length = ((ji12) : Int).toNat := (by rw [Ny164.out, List.length_take]; omega); rw [← Ny164.out] at hr40; rw [← hy40] at hr40 hcut40; clear hy40 hi040 hsz40 HO_4; have HO166 := Aside0.mk hr40; clear hr40; replace q40 := eq_true q40; have hcz41_0 : w39.cell? ⟨gb163, 0, none⟩ = some (.int .i64 t161) := (blk_cell BK163.out 0).trans rfl; have hcz41_1 : w39.cell? ⟨gb163, 1, none⟩ = some (.string t162) := (blk_cell BK163.out 1).trans rfl; have hfz41_0 := blk_frozen BK163.out 0; have hfz41_1 := blk_frozen BK163.out 1; obtain ⟨Ao42, co42, eo42⟩ := Kd.R_slice HO_3.out; subst eo42; have p167 : 0 ≤ ((ji19) : Int) := dA; have q167 : (ji19) < (x3_1.length : Int) := dA; obtain ⟨ad167, e167, hx167_0, hx167_1⟩ := at_T85 (Kd.R_reads' HO_3.out).2.2 (ji19) p167 q167; cases e167; replace p167 := eq_true p167; replace q167 := eq_true q167; have p171 : 0 ≤ ((ji19) : Int) := dA; have q171 : (ji19) < (x3_1.length : Int) := dA; obtain ⟨ad171, e171, hx171_0, hx171_1⟩ := at_T85 (Kd.R_reads' HO_3.out).2.2 (ji19) p171 q171; obtain rfl : ad167 = ad171 := (by injection e171); replace p171 := eq_true p171; replace q171 := eq_true q171) | ((with_reducible refine gate_builtin (b := .append) (xs := #[.tmp 55, .tmp 57]) rfl ?_); (try (refine gate_guard (by rfl) ?_; dsimp only)); at_builtin; refine Kd.R_append k85 (w0 := w) w.heap.size rfl (.tmp 55) (.tmp 57) 71 85 (.agg #[(.int .i64 0), (.string ⟨#[]⟩)]) 24 rfl Tryz.underlying71 info85 rfl (by decide) (by omega) (.slice (some ad167) x3_1.length co42) x3_1 (⟨t161, t162⟩ : S85) [.int .i64 t161, .string t162] (fun k_ => k_ ≠ gb163) (fun _ => False) rfl rfl ?aP (fun _ hk => hk.elim) ?aF ?aO ?aB ?aS ?aL ?_; (case aP => exact k85_mkM _ _ _ (⟨t161, t162⟩ : S85)); (case aB => exact bG); (case aF => exact (fun k_ hk => Kd.freshB (g := gb163) (o := .cells #[.int .i64 t161, .string t162] 85 (0, 0)) (bK BK163) k_ hk)); (case aO => exact (kR HO_3)); (case aS => exact (below_size bG)); (case aL => have := LMc34.out; omega); intro v173 w43 ho hb hg hat; rw [← Ny172.out] at ho; replace HO166 := Aside0.mk (Kd.R_over' (kR HO166) (Kd.R_typed (kR HO_3)) (by decide) hg); replace BK163 := Aside0.mk (blk_grown (g := gb163) (o := .cells #[.int .i64 t161, .string t162] 85 (0, 0)) (bK BK163) hg (Kd.R_away HO_3.out (fun _ hk => hk))); replace HB := Aside0.mk (hb); have HO174 := Aside0.mk (ho); clear HO_3; clear ho hb hg hat))
   refine wp_goto (And.intro rfl ?_)
   refine hKs0 _ _ ?_
   go_roundg k1
   case measure => have := HK1.out; omega
   case rel => exact ⟨(y172), (y164), H', ⟨by have := HK1.out; omega⟩, ⟨by (with_reducible repeat (first | apply Kd.R_alloc | apply Kd.R_drewN | apply Kd.R_drew)); exact Kd.R_mono HO174.out (fun _ hk => trivial)⟩, ⟨kR HO166⟩, ⟨bG⟩⟩
def order_Compare.f (k : Nat) (a0 : ByteArray) (a1 : ByteArray) : Option (Int) := (words_Split.f k a0).bind fun t200 => ((words_Split.f k a1).bind fun t203 => ((order_Words.f k t200 t203).bind fun t206 => (some t206)))
theorem order_Compare.mono : ∀ a0 a1 k, LeO (order_Compare.f k a0 a1) (order_Compare.f (k + 1) a0 a1) := by
 intro a0 a1 k
 unfold order_Compare.f
 have m0 := @order_Words.mono
 have m1 := @words_Split.mono
 exact mo
theorem order_Compare.calls (k : Nat) (a0 : ByteArray) (a1 : ByteArray) (r : Int) (w : World) (hG : Glob w) (h : order_Compare.f k a0 a1 = some r) :
 Calls Tryz.prog 34 #[.string a0, .string a1] w fun e w' => e = .returned (.int .i64 r) ∧ Below w.heap.size w w' := by
 have HG := Aside0.mk hG
 clear hG
 have HB := Aside0.mk (Below.refl w.heap.size w)
 have H : ((words_Split.f k a0).bind fun t200 => ((words_Split.f k a1).bind fun t203 => ((order_Words.f k t200 t203).bind fun t206 => (some t206)))) = some r := h
 clear h
 replace H := bi H
 obtain ⟨t200, A30, H⟩ := H
 try dsimp only at H
 have A3 := Aside0.mk A30
 clear A30
 replace H := bi H
 obtain ⟨t203, A40, H⟩ := H
 try dsimp only at H
 have A4 := Aside0.mk A40
 clear A40
 replace H := bi H
 obtain ⟨t206, A50, H⟩ := H
 try dsimp only at H
 have A5 := Aside0.mk A50
 clear A50
 obtain rfl := Option.some.inj H
 go_enter Tryz.func34, Tryz.ntmps34
 go_wp2_with (first | (refine gl (some 6) Tryz.func49 #[.string a0] ?_; (with_reducible refine (words_Split.calls k a0 t200 _ (gS HG) A3.out).mono ?_); rintro e w6 ⟨v201, rfl, ho0, hb⟩; refine ⟨_, rfl, ?_⟩; have HO202 := Aside0.mk (Kd.R_lower ho0 (below_size bE)); replace HB := sB hb; (try clear hb); (try clear ho0)) | (refine gl (some 8) Tryz.func49 #[.string a1] ?_; (with_reducible refine (words_Split.calls k a1 t203 _ (gS HG) A4.out).mono ?_); rintro e w7 ⟨v204, rfl, ho0, hb⟩; refine ⟨_, rfl, ?_⟩; have HO205 := Aside0.mk (Kd.R_lower (Kd.R_new' ho0 (Kd.R_lt (kR HO202))) (below_size bE)); replace HO202 := Aside0.mk (Kd.R_elder' (kR HO202) (Kd.R_base ho0) hb); replace HB := sB hb; (try clear hb); (try clear ho0); obtain ⟨Ao8, co8, eo8⟩ := Kd.R_slice HO202.out; subst eo8; obtain ⟨Ao9, co9, eo9⟩ := Kd.R_slice HO205.out; subst eo9) | (refine gl (some 9) Tryz.func48 #[.slice Ao8 t200.length co8, .slice Ao9 t203.length co9] ?_; (with_reducible refine (order_Words.calls k _ _ t200 _ _ t203 t206 _ ?side1 ?side2 ?side3 ?side4 (gS HG) A5.out).mono ?_); (case side1 => repeat (first | exact (Kd.R_reads' HO202.out).2.2 | (with_reducible refine Kd.C_alloc ?_ _) | (with_reducible refine Kd.C_drewN ?_ _) | (with_reducible refine Kd.C_drew ?_))); (case side2 => exact (Kd.R_reads' HO202.out).2.1); (case side3 => repeat (first | exact (Kd.R_reads' HO205.out).2.2 | (with_reducible refine Kd.C_alloc ?_ _) | (with_reducible refine Kd.C_drewN ?_ _) | (with_reducible refine Kd.C_drew ?_))); (case side4 => exact (Kd.R_reads' HO205.out).2.1); rintro e w10 ⟨rfl, hb⟩; refine ⟨_, rfl, ?_⟩; replace HO202 := rB HO202 hb; replace HO205 := rB HO205 hb; replace HB := sB hb; (try clear hb)))
 go_ret
 exact ⟨eA, bE⟩
def span_holds.j0 : Nat → ByteArray → ByteArray → ByteArray → Bool → Bool → Option (Bool)
 | 0, _, _, _, _, _ => none
 | k + 1, x1, x243000, x243001, x243002, x243003 => if x243001.toList = ([] : List UInt8) then (some true) else ((order_Compare.f k x1 x243001).bind fun t244 => (if t244 > 0 then (some false) else (if t244 = 0 then (if x243003 = true then (some true) else (some false)) else (some true))))
def span_holds.f (k : Nat) (a0_0 : ByteArray) (a0_1 : ByteArray) (a0_2 : Bool) (a0_3 : Bool) (a1 : ByteArray) : Option (Bool) := if a0_0.toList = ([] : List UInt8) then (span_holds.j0 k a1 a0_0 a0_1 a0_2 a0_3) else ((order_Compare.f k a1 a0_0).bind fun t243 => (if t243 < 0 then (some false) else (if t243 = 0 then (if a0_2 = true then (span_holds.j0 k a1 a0_0 a0_1 a0_2 a0_3) else (some false)) else (span_holds.j0 k a1 a0_0 a0_1 a0_2 a0_3))))
theorem span_holds.mono_l : ∀ k, (∀ y0 y1 y2 y3 y4, LeO (span_holds.j0 k y0 y1 y2 y3 y4) (span_holds.j0 (k + 1) y0 y1 y2 y3 y4))
 | 0 => fun _ _ _ _ _ r h => by simp [span_holds.j0] at h
 | k + 1 => by
  have ih0 := span_holds.mono_l k
  ·intro y0 y1 y2 y3 y4
   unfold span_holds.j0
   have m0 := @order_Compare.mono
   exact mo
theorem span_holds.mono : ∀ a0 a1 a2 a3 a4 k, LeO (span_holds.f k a0 a1 a2 a3 a4) (span_holds.f (k + 1) a0 a1 a2 a3 a4) := by
 intro a0 a1 a2 a3 a4 k
 have ih0 := span_holds.mono_l k
 unfold span_holds.f
 have m0 := @order_Compare.mono
 exact mo
theorem span_holds.calls (k : Nat) (a0_0 : ByteArray) (a0_1 : ByteArray) (a0_2 : Bool) (a0_3 : Bool) (a1 : ByteArray) (r : Bool) (w : World) (hG : Glob w) (h : span_holds.f k a0_0 a0_1 a0_2 a0_3 a1 = some r) :
 Calls Tryz.prog 20 #[.agg #[.string a0_0, .string a0_1, .bool a0_2, .bool a0_3], .string a1] w fun e w' => e = .returned (.bool r) ∧ Below w.heap.size w w' := by
 have hu30 := Tryz.underlying30
 have HG := Aside0.mk hG
 clear hG
 have HB := Aside0.mk (Below.refl w.heap.size w)
 have H : (if a0_0.toList = ([] : List UInt8) then (span_holds.j0 k a1 a0_0 a0_1 a0_2 a0_3) else ((order_Compare.f k a1 a0_0).bind fun t243 => (if t243 < 0 then (some false) else (if t243 = 0 then (if a0_2 = true then (span_holds.j0 k a1 a0_0 a0_1 a0_2 a0_3) else (some false)) else (span_holds.j0 k a1 a0_0 a0_1 a0_2 a0_3))))) = some r := h
 clear h
 have HC3 := Aside0.mk H
 clear H
 go_enter Tryz.func20, Tryz.ntmps20
 go_upto_if 9 with (first | (refine be 2 #[.string a0_0, .string a0_1, .bool a0_2, .bool a0_3] 30 ?_; intro gb242 hg w4 hbox hb; have BK242 := Aside0.mk (hbox); have GW242 := gW hg; have GE242 := gW hg; replace HB := sB hb; clear hb hbox hg; have hcz5_0 : w4.cell? ⟨gb242, 0, none⟩ = some (.string a0_0) := (blk_cell BK242.out 0).trans rfl; have hcz5_1 : w4.cell? ⟨gb242, 1, none⟩ = some (.string a0_1) := (blk_cell BK242.out 1).trans rfl; have hcz5_2 : w4.cell? ⟨gb242, 2, none⟩ = some (.bool a0_2) := (blk_cell BK242.out 2).trans rfl; have hcz5_3 : w4.cell? ⟨gb242, 3, none⟩ = some (.bool a0_3) := (blk_cell BK242.out 3).trans rfl; have hfz5_0 := blk_frozen BK242.out 0; have hfz5_1 := blk_frozen BK242.out 1; have hfz5_2 := blk_frozen BK242.out 2; have hfz5_3 := blk_frozen BK242.out 3))
 (try simp only [Act.put, List.setIfInBounds_toArray, List.set_cons_zero, List.set_cons_succ])
 go_cut [] (fun wc => ∃ (kq : Nat), Aside0 (span_holds.j0 kq a1 a0_0 a0_1 a0_2 a0_3 = some r) ∧ Aside0 (kq ≤ k) ∧ Aside0 (wc.heap[gb242]? = some (.cells #[.string a0_0, .string a0_1, .bool a0_2, .bool a0_3] 30 (0, 0))) ∧ Aside0 (Below w.heap.size w wc))
 case first =>
  have H := HC3.out
  clear HC3
  by_cases c6 : a0_0.toList = ([] : List UInt8)
  ·rw [if_pos c6] at H
   obtain ⟨c6b0, c6b1⟩ := eqT c6
   (try (have c6b2 : a0_0.toList.isEmpty = true := by simpa using c6))
   clear c6
   (first | rw [c6b0] | rw [c6b2] | (simp only [i64_w, i32_w]; rw [c6b0]) | skip)
   have H' := Aside0.mk H
   clear H
   go_wp2
   go_meet
   case rel => exact ⟨_, H', ⟨by first | omega | exact Nat.le_refl _⟩, ⟨bK BK242⟩, ⟨bG⟩⟩
  rw [if_neg c6] at H
  obtain ⟨c6b0, c6b1⟩ := eqF c6
  (try (have c6b2 : a0_0.toList.isEmpty = false := by simpa using c6))
  (first | rw [c6b0] | rw [c6b2] | (simp only [i64_w, i32_w]; rw [c6b0]) | skip)
  replace H := bi H
  obtain ⟨t243, A70, H⟩ := H
  try dsimp only at H
  have A7 := Aside0.mk A70
  clear A70
  by_cases c8 : t243 < 0
  ·rw [if_pos c8] at H
   have c8b0 := dT c8
   clear c8
   obtain rfl := Option.some.inj H
   obtain ⟨hcz9_0, hcz9_1, hcz9_2, hcz9_3, hfz9_0, hfz9_1, hfz9_2, hfz9_3⟩ := cells4 BK242
   go_wp2_with (first | (refine gl (some 13) Tryz.func34 #[.string a1, .string a0_0] ?_; (with_reducible refine (order_Compare.calls k a1 a0_0 t243 _ (gS HG) A7.out).mono ?_); rintro e w10 ⟨rfl, hb⟩; refine ⟨_, rfl, ?_⟩; replace BK242 := kB BK242 hb; replace HB := sB hb; (try clear hb)))
   go_ret
   exact ⟨eA, bG⟩
  rw [if_neg c8] at H
  have c8b0 := dF c8
  clear c8
  by_cases c11 : t243 = 0
  rotate_left
  ·rw [if_neg c11] at H
   obtain ⟨c11b0, c11b1⟩ := eqF c11
   have H' := Aside0.mk H
   clear H
   obtain ⟨hcz19_0, hcz19_1, hcz19_2, hcz19_3, hfz19_0, hfz19_1, hfz19_2, hfz19_3⟩ := cells4 BK242
   go_wp2_with (first | (refine gl (some 13) Tryz.func34 #[.string a1, .string a0_0] ?_; (with_reducible refine (order_Compare.calls k a1 a0_0 t243 _ (gS HG) A7.out).mono ?_); rintro e w20 ⟨rfl, hb⟩; refine ⟨_, rfl, ?_⟩; replace BK242 := kB BK242 hb; replace HB := sB hb; (try clear hb)))
   go_meet
   case rel => exact ⟨_, H', ⟨by first | omega | exact Nat.le_refl _⟩, ⟨bK BK242⟩, ⟨bG⟩⟩
  rw [if_pos c11] at H
  obtain ⟨c11b0, c11b1⟩ := eqT c11
  clear c11
  by_cases c12 : a0_2 = true
  rotate_left
  ·replace c12 := Bool.eq_false_iff.mpr c12
   subst c12
   replace H : (some false) = some r := by rw [if_neg nF] at H; exact H
   obtain rfl := Option.some.inj H
   obtain ⟨hcz16_0, hcz16_1, hcz16_2, hcz16_3, hfz16_0, hfz16_1, hfz16_2, hfz16_3⟩ := cells4 BK242
   go_wp2_with (first | (refine gl (some 13) Tryz.func34 #[.string a1, .string a0_0] ?_; (with_reducible refine (order_Compare.calls k a1 a0_0 t243 _ (gS HG) A7.out).mono ?_); rintro e w17 ⟨rfl, hb⟩; refine ⟨_, rfl, ?_⟩; replace BK242 := kB BK242 hb; replace HB := sB hb; (try clear hb); have hcz18_0 : w17.cell? ⟨gb242, 0, none⟩ = some (.string a0_0) := (blk_cell BK242.out 0).trans rfl; have hcz18_1 : w17.cell? ⟨gb242, 1, none⟩ = some (.string a0_1) := (blk_cell BK242.out 1).trans rfl; have hcz18_2 : w17.cell? ⟨gb242, 2, none⟩ = some (.bool false) := (blk_cell BK242.out 2).trans rfl; have hcz18_3 : w17.cell? ⟨gb242, 3, none⟩ = some (.bool a0_3) := (blk_cell BK242.out 3).trans rfl; have hfz18_0 := blk_frozen BK242.out 0; have hfz18_1 := blk_frozen BK242.out 1; have hfz18_2 := blk_frozen BK242.out 2; have hfz18_3 := blk_frozen BK242.out 3))
   go_ret
   exact ⟨eA, bG⟩
  subst c12
  replace H : (span_holds.j0 k a1 a0_0 a0_1 true a0_3) = some r := by rw [if_pos rfl] at H; exact H
  have H' := Aside0.mk H
  clear H
  obtain ⟨hcz13_0, hcz13_1, hcz13_2, hcz13_3, hfz13_0, hfz13_1, hfz13_2, hfz13_3⟩ := cells4 BK242
  go_wp2_with (first | (refine gl (some 13) Tryz.func34 #[.string a1, .string a0_0] ?_; (with_reducible refine (order_Compare.calls k a1 a0_0 t243 _ (gS HG) A7.out).mono ?_); rintro e w14 ⟨rfl, hb⟩; refine ⟨_, rfl, ?_⟩; replace BK242 := kB BK242 hb; replace HB := sB hb; (try clear hb); have hcz15_0 : w14.cell? ⟨gb242, 0, none⟩ = some (.string a0_0) := (blk_cell BK242.out 0).trans rfl; have hcz15_1 : w14.cell? ⟨gb242, 1, none⟩ = some (.string a0_1) := (blk_cell BK242.out 1).trans rfl; have hcz15_2 : w14.cell? ⟨gb242, 2, none⟩ = some (.bool true) := (blk_cell BK242.out 2).trans rfl; have hcz15_3 : w14.cell? ⟨gb242, 3, none⟩ = some (.bool a0_3) := (blk_cell BK242.out 3).trans rfl; have hfz15_0 := blk_frozen BK242.out 0; have hfz15_1 := blk_frozen BK242.out 1; have hfz15_2 := blk_frozen BK242.out 2; have hfz15_3 := blk_frozen BK242.out 3))
  go_meet
  case rel => exact ⟨_, H', ⟨by first | omega | exact Nat.le_refl _⟩, ⟨bK BK242⟩, ⟨bG⟩⟩
 clear HC3
 try clear c1
 try clear c2
 try clear p2
 try clear c3
 try clear c6
 try clear c6b0
 try clear c6b1
 try clear c6b2
 try clear c8
 try clear c8b0
 try clear c11
 try clear c11b0
 try clear c11b1
 try clear c12
 try clear c20
 try clear hcz13_0
 try clear hcz13_1
 try clear hcz13_2
 try clear hcz13_3
 try clear hcz15_0
 try clear hcz15_1
 try clear hcz15_2
 try clear hcz15_3
 try clear hcz16_0
 try clear hcz16_1
 try clear hcz16_2
 try clear hcz16_3
 try clear hcz18_0
 try clear hcz18_1
 try clear hcz18_2
 try clear hcz18_3
 try clear hcz19_0
 try clear hcz19_1
 try clear hcz19_2
 try clear hcz19_3
 try clear hcz5_0
 try clear hcz5_1
 try clear hcz5_2
 try clear hcz5_3
 try clear hcz9_0
 try clear hcz9_1
 try clear hcz9_2
 try clear hcz9_3
 try clear hfz13_0
 try clear hfz13_1
 try clear hfz13_2
 try clear hfz13_3
 try clear hfz15_0
 try clear hfz15_1
 try clear hfz15_2
 try clear hfz15_3
 try clear hfz16_0
 try clear hfz16_1
 try clear hfz16_2
 try clear hfz16_3
 try clear hfz18_0
 try clear hfz18_1
 try clear hfz18_2
 try clear hfz18_3
 try clear hfz19_0
 try clear hfz19_1
 try clear hfz19_2
 try clear hfz19_3
 try clear hfz5_0
 try clear hfz5_1
 try clear hfz5_2
 try clear hfz5_3
 try clear hfz9_0
 try clear hfz9_1
 try clear hfz9_2
 try clear hfz9_3
 obtain ⟨kq, HA, HJ2, BK242, HB⟩ := hcut
 cases kq with
 | zero => exact absurd HA.out (by simp [span_holds.j0])
 | succ kj2 =>
  have H := HA.out
  clear HA
  simp only [span_holds.j0] at H
  by_cases c21 : a0_1.toList = ([] : List UInt8)
  ·rw [if_pos c21] at H
   obtain ⟨c21b0, c21b1⟩ := eqT c21
   (try (have c21b2 : a0_1.toList.isEmpty = true := by simpa using c21))
   clear c21
   obtain rfl := Option.some.inj H
   obtain ⟨hcz22_0, hcz22_1, hcz22_2, hcz22_3, hfz22_0, hfz22_1, hfz22_2, hfz22_3⟩ := cells4 BK242
   go_wp2
   go_ret
   exact ⟨eA, bG⟩
  rw [if_neg c21] at H
  obtain ⟨c21b0, c21b1⟩ := eqF c21
  (try (have c21b2 : a0_1.toList.isEmpty = false := by simpa using c21))
  replace H := bi H
  obtain ⟨t244, A230, H⟩ := H
  try dsimp only at H
  have A23 := Aside0.mk A230
  clear A230
  by_cases c24 : t244 > 0
  ·rw [if_pos c24] at H
   have c24b0 := dT c24
   clear c24
   obtain rfl := Option.some.inj H
   obtain ⟨hcz25_0, hcz25_1, hcz25_2, hcz25_3, hfz25_0, hfz25_1, hfz25_2, hfz25_3⟩ := cells4 BK242
   go_wp2_with (first | (refine gl (some 31) Tryz.func34 #[.string a1, .string a0_1] ?_; (with_reducible refine (order_Compare.calls kj2 a1 a0_1 t244 _ (gS HG) A23.out).mono ?_); rintro e w26 ⟨rfl, hb⟩; refine ⟨_, rfl, ?_⟩; replace BK242 := kB BK242 hb; replace HB := sB hb; (try clear hb)))
   go_ret
   exact ⟨eA, bG⟩
  rw [if_neg c24] at H
  have c24b0 := dF c24
  clear c24
  by_cases c27 : t244 = 0
  rotate_left
  ·rw [if_neg c27] at H
   obtain ⟨c27b0, c27b1⟩ := eqF c27
   obtain rfl := Option.some.inj H
   obtain ⟨hcz35_0, hcz35_1, hcz35_2, hcz35_3, hfz35_0, hfz35_1, hfz35_2, hfz35_3⟩ := cells4 BK242
   go_wp2_with (first | (refine gl (some 31) Tryz.func34 #[.string a1, .string a0_1] ?_; (with_reducible refine (order_Compare.calls kj2 a1 a0_1 t244 _ (gS HG) A23.out).mono ?_); rintro e w36 ⟨rfl, hb⟩; refine ⟨_, rfl, ?_⟩; replace BK242 := kB BK242 hb; replace HB := sB hb; (try clear hb)))
   go_ret
   exact ⟨eA, bG⟩
  rw [if_pos c27] at H
  obtain ⟨c27b0, c27b1⟩ := eqT c27
  clear c27
  by_cases c28 : a0_3 = true
  ·subst c28
   replace H : (some true) = some r := by rw [if_pos rfl] at H; exact H
   obtain rfl := Option.some.inj H
   obtain ⟨hcz29_0, hcz29_1, hcz29_2, hcz29_3, hfz29_0, hfz29_1, hfz29_2, hfz29_3⟩ := cells4 BK242
   go_wp2_with (first | (refine gl (some 31) Tryz.func34 #[.string a1, .string a0_1] ?_; (with_reducible refine (order_Compare.calls kj2 a1 a0_1 t244 _ (gS HG) A23.out).mono ?_); rintro e w30 ⟨rfl, hb⟩; refine ⟨_, rfl, ?_⟩; replace BK242 := kB BK242 hb; replace HB := sB hb; (try clear hb); have hcz31_0 : w30.cell? ⟨gb242, 0, none⟩ = some (.string a0_0) := (blk_cell BK242.out 0).trans rfl; have hcz31_1 : w30.cell? ⟨gb242, 1, none⟩ = some (.string a0_1) := (blk_cell BK242.out 1).trans rfl; have hcz31_2 : w30.cell? ⟨gb242, 2, none⟩ = some (.bool a0_2) := (blk_cell BK242.out 2).trans rfl; have hcz31_3 : w30.cell? ⟨gb242, 3, none⟩ = some (.bool true) := (blk_cell BK242.out 3).trans rfl; have hfz31_0 := blk_frozen BK242.out 0; have hfz31_1 := blk_frozen BK242.out 1; have hfz31_2 := blk_frozen BK242.out 2; have hfz31_3 := blk_frozen BK242.out 3))
   go_ret
   exact ⟨eA, bG⟩
  replace c28 := Bool.eq_false_iff.mpr c28
  subst c28
  replace H : (some false) = some r := by rw [if_neg nF] at H; exact H
  obtain rfl := Option.some.inj H
  obtain ⟨hcz32_0, hcz32_1, hcz32_2, hcz32_3, hfz32_0, hfz32_1, hfz32_2, hfz32_3⟩ := cells4 BK242
  go_wp2_with (first | (refine gl (some 31) Tryz.func34 #[.string a1, .string a0_1] ?_; (with_reducible refine (order_Compare.calls kj2 a1 a0_1 t244 _ (gS HG) A23.out).mono ?_); rintro e w33 ⟨rfl, hb⟩; refine ⟨_, rfl, ?_⟩; replace BK242 := kB BK242 hb; replace HB := sB hb; (try clear hb); have hcz34_0 : w33.cell? ⟨gb242, 0, none⟩ = some (.string a0_0) := (blk_cell BK242.out 0).trans rfl; have hcz34_1 : w33.cell? ⟨gb242, 1, none⟩ = some (.string a0_1) := (blk_cell BK242.out 1).trans rfl; have hcz34_2 : w33.cell? ⟨gb242, 2, none⟩ = some (.bool a0_2) := (blk_cell BK242.out 2).trans rfl; have hcz34_3 : w33.cell? ⟨gb242, 3, none⟩ = some (.bool false) := (blk_cell BK242.out 3).trans rfl; have hfz34_0 := blk_frozen BK242.out 0; have hfz34_1 := blk_frozen BK242.out 1; have hfz34_2 := blk_frozen BK242.out 2; have hfz34_3 := blk_frozen BK242.out 3))
  go_ret
  exact ⟨eA, bG⟩
end Go.Proofs.YtgdjfcmmpjcaaaaGreatDoor.Q
namespace Go.Proofs.YtgdjfcmmpjcaaaaGreatDoor.Q
open Go.RowKit Go.Proofs.YtgdjfcmmpjcaaaaGreatDoorW.PrintWords Go.Proofs.YtgdjfcmmpjcaaaaGreatDoorW.PrintLast Go.Proofs.YtgdjfcmmpjcaaaaGreatDoorW.Own Go.Proofs.YtgdjfcmmpjcaaaaGreatDoorW.PrintMore
attribute [local go_sem] max2_int min2_int max_two min_two max_three min_three max_four min_four   -- for this text's walks alone
set_option linter.unusedVariables false
set_option linter.unusedSimpArgs false
def span_Holds.one (k : Nat) (v : ByteArray) (s : S30) : Option Bool := span_holds.f k s.f0 s.f1 s.f2 s.f3 v
def span_Holds.l0 : Nat → List S30 → ByteArray → Int → Option Int
  | 0, _, _, _ => none
  | k + 1, l, v, i => if i < (l.length : Int) then (if 0 ≤ i then ((span_Holds.one k v (rd_T30 l i)).bind fun b => if b = true then some i else span_Holds.l0 k l v (wrap64 (i + 1))) else none) else some (-1)
def span_Holds.f (k : Nat) (l0 : List S30) (a1 : ByteArray) : Option Bool := (span_Holds.l0 k l0 a1 0).bind fun i => some (decide (i ≥ 0))
theorem span_Holds.mono_l : ∀ k, (∀ y0 y1 y2, LeO (span_Holds.l0 k y0 y1 y2) (span_Holds.l0 (k + 1) y0 y1 y2))
  | 0 => fun _ _ _ r h => by simp [span_Holds.l0] at h
  | k + 1 => by
    have ih0 := span_Holds.mono_l k
    · intro y0 y1 y2
      unfold span_Holds.l0
      unfold span_Holds.one
      repeat' first
      | (with_reducible exact ih0 _ _ _)
      | (with_reducible exact span_holds.mono _ _ _ _ _ _)
      | (with_reducible exact LeO.refl _)
      | (with_reducible exact LeO.none _)
      | (with_reducible refine LeO.ite ?_ ?_)
      | (with_reducible refine LeO.bind ?_ (fun _ => ?_))
theorem span_Holds.mono : ∀ a0 a1 k, LeO (span_Holds.f k a0 a1) (span_Holds.f (k + 1) a0 a1) := by
  intro a0 a1 k
  have ih0 := span_Holds.mono_l k
  unfold span_Holds.f
  repeat' first
      | (with_reducible exact ih0 _ _ _)
      | (with_reducible exact LeO.refl _)
      | (with_reducible refine LeO.bind ?_ (fun _ => ?_))
set_option maxHeartbeats 8000000 in
set_option maxRecDepth 100000 in
theorem span_Holds.calls1 (k : Nat) (s : S30) (v : ByteArray) (g : Nat) (r : Bool) (w : World) (hc : w.cell? ⟨g, 0, none⟩ = some (.string v)) (hG : Glob w) (h : span_Holds.one k v s = some r) :
    Calls Tryz.prog 19 #[.agg #[.string s.f0, .string s.f1, .bool s.f2, .bool s.f3], .pointer (some ⟨g, 0, none⟩)] w fun e w' => e = .returned (.bool r) ∧ Below w.heap.size w w' := by
  have hu := Tryz.underlying30
  have HG := Aside0.mk hG
  have HC := Aside0.mk hc
  have H := Aside0.mk (show span_holds.f k s.f0 s.f1 s.f2 s.f3 v = some r from h)
  clear hG hc h
  go_enter Tryz.func19, Tryz.ntmps19
  have HB := Aside0.mk (Below.refl w.heap.size w)
  go_upto_region 1 with (first | ((with_reducible refine gate_dst (N := 2) rfl ?_); refine box_event ?hg (N := 2) ?hd (cs := #[.string s.f0, .string s.f1, .bool s.f2, .bool s.f3]) (t := 30) ?hr ?_; (case hd => rfl); (case hg => rfl); (case hr => first | (go_simp; done) | (go_simp; rfl)); intro gb hg w3 hbox hb; have HX := Aside0.mk hbox; have n0_ := Aside0.mk (below_step (by repeat (first | (with_reducible first | exact HB.out | apply below_alloc | apply pw_below_drewN | apply below_drew1) | exact HB.out)) hb); have n1_ := Aside0.mk ((hb.cell (World.block_lt_of_cell? _ _ HC.out)).trans HC.out); clear HB HC; have HB := n0_; have HC := n1_; clear n0_ n1_; clear hb hbox hg))
  have hX0 : w3.cell? ⟨gb, 0, none⟩ = some (.string s.f0) := (blk_cell HX.out 0).trans rfl
  have hX1 : w3.cell? ⟨gb, 1, none⟩ = some (.string s.f1) := (blk_cell HX.out 1).trans rfl
  have hX2 : w3.cell? ⟨gb, 2, none⟩ = some (.bool s.f2) := (blk_cell HX.out 2).trans rfl
  have hX3 : w3.cell? ⟨gb, 3, none⟩ = some (.bool s.f3) := (blk_cell HX.out 3).trans rfl
  have hCv := HC.out
  go_wp2_with (first | (go_at_call 20; (with_reducible refine (span_holds.calls k s.f0 s.f1 s.f2 s.f3 v r _ ?side1 H.out).mono ?_); (case side1 => exact Glob.step HG.out (by repeat (first | (with_reducible first | exact HB.out | apply below_alloc | apply pw_below_drewN | apply below_drew1) | exact HB.out))); rintro e w4 ⟨rfl, hb⟩; have n0_ := Aside0.mk (below_step (by repeat (first | (with_reducible first | exact HB.out | apply below_alloc | apply pw_below_drewN | apply below_drew1) | exact HB.out)) hb); clear HB; have HB := n0_; clear n0_; clear hb))
  go_ret
  exact ⟨rfl, by repeat (first | (with_reducible first | exact HB.out | apply below_alloc | apply pw_below_drewN | apply below_drew1) | exact HB.out)⟩
set_option maxHeartbeats 8000000 in
set_option maxRecDepth 100000 in
theorem span_Holds.calls2 (k : Nat) (A0 : Option Addr) (c0 : Nat) (l0 : List S30) (v : ByteArray) (g : Nat) (r : Int) (w : World) (hr0 : Kd.C k30 w A0 l0.length l0) (hc0 : l0.length ≤ c0) (hc : w.cell? ⟨g, 0, none⟩ = some (.string v)) (hG : Glob w) (h : span_Holds.l0 k l0 v 0 = some r) :
    Calls Tryz.prog 36 #[.slice A0 l0.length c0, .func (.func 19) #[] #[.pointer (some ⟨g, 0, none⟩)]] w fun e w' => e = .returned (.int .i64 r) ∧ Below w.heap.size w w' := by
  have hu := Tryz.underlying30
  have HG := Aside0.mk hG
  have HR0 := Aside0.mk hr0
  have HC0 := Aside0.mk hc0
  have HC := Aside0.mk hc
  have HB := Aside0.mk (Below.refl w.heap.size w)
  have H' := Aside0.mk h
  clear hG hr0 hc0 hc h
  go_enter Tryz.func36, Tryz.ntmps36
  go_wp2
  go_loopg [8] k (fun kq v8 w' => ∃ (x8_1 : Int), v8 = .int .i64 x8_1 ∧ Aside0 (span_Holds.l0 kq l0 v x8_1 = some r) ∧ Aside0 (kq ≤ k) ∧ Aside0 (Below w.heap.size w w'))
  case atStart => exact ⟨(0), (by first | rfl | (simp; done) | (simp [*]; done) | (simp; exact isEmpty_bne _)), H', ⟨Nat.le_refl _⟩, ⟨by repeat (first | (with_reducible first | exact HB.out | apply below_alloc | apply pw_below_drewN | apply below_drew1) | exact HB.out)⟩⟩
  case round =>
    clear H' HB
    obtain ⟨x8_1, rfl, HA, HK1, HB⟩ := hrel
    cases gk with
    | zero => exact absurd HA.out (by simp [span_Holds.l0])
    | succ k1 =>
      have H := HA.out
      clear HA
      simp only [span_Holds.l0] at H
      by_cases c3 : x8_1 < (l0.length : Int)
      · rw [if_pos c3] at H
        have c3b0 : decide (x8_1 < (l0.length : Int)) = true := decide_eq_true c3
        by_cases c4 : 0 ≤ x8_1
        · rw [if_pos c4] at H
          have c4b0 : decide (0 ≤ x8_1) = true := decide_eq_true c4
          obtain ⟨ad, e_, hx0, hx1, hx2, hx3⟩ := at_T30 HR0.out x8_1 c4 c3
          cases e_
          replace hx0 := (HB.out.cell (World.block_lt_of_cell? w _ hx0)).trans hx0
          replace hx1 := (HB.out.cell (World.block_lt_of_cell? w _ hx1)).trans hx1
          replace hx2 := (HB.out.cell (World.block_lt_of_cell? w _ hx2)).trans hx2
          replace hx3 := (HB.out.cell (World.block_lt_of_cell? w _ hx3)).trans hx3
          have p_ := eq_true c4
          have q_ := eq_true c3
          clear c3 c4
          replace H := Option.bind_eq_some_iff.mp H
          obtain ⟨t103, A60, H⟩ := H
          have A6 := Aside0.mk A60
          clear A60
          cases t103 with
          | true =>
            rw [if_pos rfl] at H
            obtain rfl := Option.some.inj H
            clear H
            go_wp2_with (first | (go_at_call 19; (with_reducible refine (span_Holds.calls1 k1 (rd_T30 l0 x8_1) v g true _ ?side0 ?side1 A6.out).mono ?_); (case side0 => exact (Below.cell (w := w) (by repeat (first | (with_reducible first | exact HB.out | apply below_alloc | apply pw_below_drewN | apply below_drew1) | exact HB.out)) (World.block_lt_of_cell? w _ HC.out)).trans HC.out); (case side1 => exact Glob.step HG.out (by repeat (first | (with_reducible first | exact HB.out | apply below_alloc | apply pw_below_drewN | apply below_drew1) | exact HB.out))); rintro e w4 ⟨rfl, hb⟩; have n0_ := Aside0.mk (below_step (by repeat (first | (with_reducible first | exact HB.out | apply below_alloc | apply pw_below_drewN | apply below_drew1) | exact HB.out)) hb); clear HB; have HB := n0_; clear n0_; clear hb))
            go_ret
            exact ⟨rfl, by repeat (first | (with_reducible first | exact HB.out | apply below_alloc | apply pw_below_drewN | apply below_drew1) | exact HB.out)⟩
          | false =>
            rw [if_neg (by decide)] at H
            have H' := Aside0.mk H
            clear H
            go_wp2_with (first | (go_at_call 19; (with_reducible refine (span_Holds.calls1 k1 (rd_T30 l0 x8_1) v g false _ ?side0 ?side1 A6.out).mono ?_); (case side0 => exact (Below.cell (w := w) (by repeat (first | (with_reducible first | exact HB.out | apply below_alloc | apply pw_below_drewN | apply below_drew1) | exact HB.out)) (World.block_lt_of_cell? w _ HC.out)).trans HC.out); (case side1 => exact Glob.step HG.out (by repeat (first | (with_reducible first | exact HB.out | apply below_alloc | apply pw_below_drewN | apply below_drew1) | exact HB.out))); rintro e w4 ⟨rfl, hb⟩; have n0_ := Aside0.mk (below_step (by repeat (first | (with_reducible first | exact HB.out | apply below_alloc | apply pw_below_drewN | apply below_drew1) | exact HB.out)) hb); clear HB; have HB := n0_; clear n0_; clear hb))
            go_roundg k1
            case measure => have := HK1.out; omega
            case rel => exact ⟨(wrap64 (x8_1 + 1)), (by first | rfl | (simp; done) | (simp [*]; done) | (simp; exact isEmpty_bne _)), H', ⟨by have := HK1.out; omega⟩, ⟨by repeat (first | (with_reducible first | exact HB.out | apply below_alloc | apply pw_below_drewN | apply below_drew1) | exact HB.out)⟩⟩
        · rw [if_neg c4] at H
          exact absurd H (by simp)
      · rw [if_neg c3] at H
        have c3b0 : decide (x8_1 < (l0.length : Int)) = false := decide_eq_false c3
        clear c3
        obtain rfl := Option.some.inj H
        go_wp2
        go_ret
        exact ⟨rfl, by repeat (first | (with_reducible first | exact HB.out | apply below_alloc | apply pw_below_drewN | apply below_drew1) | exact HB.out)⟩
set_option maxHeartbeats 8000000 in
set_option maxRecDepth 100000 in
theorem span_Holds.calls3 (k : Nat) (A0 : Option Addr) (c0 : Nat) (l0 : List S30) (v : ByteArray) (g : Nat) (r : Int) (w : World) (hr0 : Kd.C k30 w A0 l0.length l0) (hc0 : l0.length ≤ c0) (hc : w.cell? ⟨g, 0, none⟩ = some (.string v)) (hG : Glob w) (h : span_Holds.l0 k l0 v 0 = some r) :
    Calls Tryz.prog 18 #[.slice A0 l0.length c0, .func (.func 19) #[] #[.pointer (some ⟨g, 0, none⟩)]] w fun e w' => e = .returned (.bool (decide (r ≥ 0))) ∧ Below w.heap.size w w' := by
  have HG := Aside0.mk hG
  have HR0 := Aside0.mk hr0
  have HC0 := Aside0.mk hc0
  have HC := Aside0.mk hc
  have HB := Aside0.mk (Below.refl w.heap.size w)
  have H' := Aside0.mk h
  clear hG hr0 hc0 hc h
  go_enter Tryz.func18, Tryz.ntmps18
  go_wp2_with (first | (go_at_call 36; (with_reducible refine (span_Holds.calls2 k A0 c0 l0 v g r _ ?sidea ?sideb ?side0 ?side1 H'.out).mono ?_); (case sidea => exact Kd.C_below HR0.out (by repeat (first | (with_reducible first | exact HB.out | apply below_alloc | apply pw_below_drewN | apply below_drew1) | exact HB.out))); (case sideb => exact HC0.out); (case side0 => exact (Below.cell (w := w) (by repeat (first | (with_reducible first | exact HB.out | apply below_alloc | apply pw_below_drewN | apply below_drew1) | exact HB.out)) (World.block_lt_of_cell? w _ HC.out)).trans HC.out); (case side1 => exact Glob.step HG.out (by repeat (first | (with_reducible first | exact HB.out | apply below_alloc | apply pw_below_drewN | apply below_drew1) | exact HB.out))); rintro e w4 ⟨rfl, hb⟩; have n0_ := Aside0.mk (below_step (by repeat (first | (with_reducible first | exact HB.out | apply below_alloc | apply pw_below_drewN | apply below_drew1) | exact HB.out)) hb); clear HB; have HB := n0_; clear n0_; clear hb))
  go_ret
  exact ⟨by first | rfl | (simp; done), by repeat (first | (with_reducible first | exact HB.out | apply below_alloc | apply pw_below_drewN | apply below_drew1) | exact HB.out)⟩
set_option maxHeartbeats 8000000 in
set_option maxRecDepth 100000 in
theorem span_Holds.calls (k : Nat) (A0 : Option Addr) (c0 : Nat) (l0 : List S30) (a1 : ByteArray) (r : Bool) (w : World) (hr0 : Kd.C k30 w A0 l0.length l0) (hc0 : l0.length ≤ c0) (hG : Glob w) (h : span_Holds.f k l0 a1 = some r) :
    Calls Tryz.prog 8 #[.slice A0 l0.length c0, .string a1] w fun e w' => e = .returned (.bool r) ∧ Below w.heap.size w w' := by
  unfold span_Holds.f at h
  replace h := Option.bind_eq_some_iff.mp h
  obtain ⟨ix, h, hr⟩ := h
  obtain rfl := Option.some.inj hr
  clear hr
  have HG := Aside0.mk hG
  have HR0 := Aside0.mk hr0
  have HC0 := Aside0.mk hc0
  have HB := Aside0.mk (Below.refl w.heap.size w)
  have H' := Aside0.mk h
  clear hG hr0 hc0 h
  go_enter Tryz.func8, Tryz.ntmps8
  go_upto_region 1 with (first | ((with_reducible refine gate_dst (N := 3) rfl ?_); refine box_event ?hg (N := 3) ?hd (cs := #[.string a1]) (t := 9) ?hr ?_; (case hd => rfl); (case hg => rfl); (case hr => first | (go_simp; done) | (go_simp; rfl)); intro gb hg w3 hbox hb; have HX := Aside0.mk hbox; have n0_ := Aside0.mk (below_step (by repeat (first | (with_reducible first | exact HB.out | apply below_alloc | apply pw_below_drewN | apply below_drew1) | exact HB.out)) hb); clear HB; have HB := n0_; clear n0_; clear hb hbox hg))
  have HX0 : Aside0 (w3.cell? ⟨gb, 0, none⟩ = some (.string a1)) := Aside0.mk ((blk_cell HX.out 0).trans rfl)
  have HL := Aside0.mk (Below.refl w3.heap.size w3)
  go_wp2_with (first | (go_at_call 18; (with_reducible refine (span_Holds.calls3 k A0 c0 l0 a1 gb ix _ ?sidea ?sideb ?side0 ?side1 H'.out).mono ?_); (case sidea => exact Kd.C_below HR0.out (by repeat (first | (with_reducible first | exact HB.out | apply below_alloc | apply pw_below_drewN | apply below_drew1) | exact HB.out))); (case sideb => exact HC0.out); (case side0 => exact (Below.cell (w := w3) (by repeat (first | exact HL.out | apply below_alloc | apply pw_below_drewN | apply below_drew1)) (World.block_lt_of_cell? w3 _ HX0.out)).trans HX0.out); (case side1 => exact Glob.step HG.out (by repeat (first | (with_reducible first | exact HB.out | apply below_alloc | apply pw_below_drewN | apply below_drew1) | exact HB.out))); rintro e w4 ⟨rfl, hb⟩; have n0_ := Aside0.mk (below_step (by repeat (first | (with_reducible first | exact HB.out | apply below_alloc | apply pw_below_drewN | apply below_drew1) | exact HB.out)) hb); clear HB; have HB := n0_; clear n0_; clear hb))
  go_ret
  exact ⟨rfl, by repeat (first | (with_reducible first | exact HB.out | apply below_alloc | apply pw_below_drewN | apply below_drew1) | exact HB.out)⟩
end Go.Proofs.YtgdjfcmmpjcaaaaGreatDoor.Q
namespace Go.Proofs.YtgdjfcmmpjcaaaaGreatDoor.Q
open Go.RowKit Go.Proofs.YtgdjfcmmpjcaaaaGreatDoorW.PrintWords Go.Proofs.YtgdjfcmmpjcaaaaGreatDoorW.PrintLast Go.Proofs.YtgdjfcmmpjcaaaaGreatDoorW.Own Go.Proofs.YtgdjfcmmpjcaaaaGreatDoorW.PrintMore
attribute [local go_sem] max2_int min2_int max_two min_two max_three min_three max_four min_four   -- for this text's walks alone
set_option linter.unusedVariables false
set_option linter.unusedSimpArgs false
set_option maxHeartbeats 20000000
set_option maxRecDepth 100000
def strings_IndexByte.f (a0 : ByteArray) (a1 : Int) : Option Int := some (Lib.indexByte a0.data.toList a1.toNat.toUInt8)
theorem strings_IndexByte.calls (a0 : ByteArray) (a1 : Int) (r : Int) (w : World) (hG : Glob w) (h : strings_IndexByte.f a0 a1 = some r) :
 Calls Tryz.prog 76 #[.string a0, .int .u8 a1] w fun e w' => e = .returned (.int .i64 r) ∧ Drawn0 w w' := by
 obtain rfl := Option.some.inj h
 exact (Tryz.strings_IndexByte a0 a1 w).mono fun e w' hh => ⟨hh.1, ⟨⟨0, hh.2⟩⟩⟩
def words_Right_1.f (a0 : Int) : Option (Bool) := if a0 < 33 then (some true) else (if a0 > 126 then (some true) else ((strings_IndexByte.f (⟨#[91, 93, 40, 41, 44]⟩ : ByteArray) a0).bind fun t106 => (some (decide (t106 ≥ 0)))))
theorem words_Right_1.calls (a0 : Int) (r : Bool) (w : World) (hG : Glob w) (h : words_Right_1.f a0 = some r) :
 Calls Tryz.prog 75 #[.int .u8 a0] w fun e w' => e = .returned (.bool r) ∧ Drawn0 w w' := by
 have HG := Aside0.mk hG
 clear hG
 have H : (if a0 < 33 then (some true) else (if a0 > 126 then (some true) else ((strings_IndexByte.f (⟨#[91, 93, 40, 41, 44]⟩ : ByteArray) a0).bind fun t106 => (some (decide (t106 ≥ 0)))))) = some r := h
 clear h
 by_cases c2 : a0 < 33
 ·rw [if_pos c2] at H
  have c2b0 := dT c2
  clear c2
  obtain rfl := Option.some.inj H
  go_enter Tryz.func75, Tryz.ntmps75
  go_wp2
  go_ret
  exact ⟨by first | rfl | (simp; done) | (simp [*]; done), by repeat (first | exact Drawn0.refl _ | apply Drawn0.step)⟩
 rw [if_neg c2] at H
 have c2b0 := dF c2
 clear c2
 by_cases c3 : a0 > 126
 ·rw [if_pos c3] at H
  have c3b0 := dT c3
  clear c3
  obtain rfl := Option.some.inj H
  go_enter Tryz.func75, Tryz.ntmps75
  go_wp2
  go_ret
  exact ⟨by first | rfl | (simp; done) | (simp [*]; done), by repeat (first | exact Drawn0.refl _ | apply Drawn0.step)⟩
 rw [if_neg c3] at H
 have c3b0 := dF c3
 clear c3
 replace H := bi H
 obtain ⟨t106, A40, H⟩ := H
 try dsimp only at H
 have A4 := Aside0.mk A40
 clear A40
 obtain rfl := Option.some.inj H
 go_enter Tryz.func75, Tryz.ntmps75
 go_wp2_with (first | (go_at_call 76; (with_reducible refine (strings_IndexByte.calls (⟨#[91, 93, 40, 41, 44]⟩ : ByteArray) a0 t106 _ ?side1 A4.out).mono ?_); (case side1 => exact Glob.drawn HG.out (by repeat (first | exact Drawn0.refl _ | apply Drawn0.step))); rintro e w' ⟨rfl, ⟨nd, rfl⟩⟩))
 go_ret
 exact ⟨by first | rfl | (simp; done) | (simp [*]; done), by repeat (first | exact Drawn0.refl _ | apply Drawn0.step)⟩
def slices_IndexFunc_byte_byte.l0 : Nat → List Int → Int → Int → Option (Int)
 | 0, _, _, _ => none
 | k + 1, x0, x7, x8 => if x8 < x7 then (if 0 ≤ x8 then (if x8 < (x0.length : Int) then ((words_Right_1.f (rd x0 x8)).bind fun t108 => (if t108 = true then (some x8) else (slices_IndexFunc_byte_byte.l0 k x0 x7 (wrap64 (x8 + 1))))) else (none)) else (none)) else (some (-1))
def slices_IndexFunc_byte_byte.f (k : Nat) (l0 : List Int)  : Option (Int) := slices_IndexFunc_byte_byte.l0 k l0 (l0.length : Int) 0
theorem slices_IndexFunc_byte_byte.mono_l : ∀ k, (∀ y0 y1 y2, LeO (slices_IndexFunc_byte_byte.l0 k y0 y1 y2) (slices_IndexFunc_byte_byte.l0 (k + 1) y0 y1 y2))
 | 0 => fun _ _ _ r h => by simp [slices_IndexFunc_byte_byte.l0] at h
 | k + 1 => by
  have ih0 := slices_IndexFunc_byte_byte.mono_l k
  ·intro y0 y1 y2
   unfold slices_IndexFunc_byte_byte.l0
   exact mo
theorem slices_IndexFunc_byte_byte.mono : ∀ a0 k, LeO (slices_IndexFunc_byte_byte.f k a0) (slices_IndexFunc_byte_byte.f (k + 1) a0) := by
 intro a0 k
 have ih0 := slices_IndexFunc_byte_byte.mono_l k
 unfold slices_IndexFunc_byte_byte.f
 exact mo
theorem slices_IndexFunc_byte_byte.calls (k : Nat) (A0 : Option Addr) (c0 : Nat) (l0 : List Int)  (r : Int) (w : World) (hr0 : Kd.C (Kd.int .u8) w A0 l0.length l0) (hc0 : l0.length ≤ c0) (hG : Glob w) (h : slices_IndexFunc_byte_byte.f k l0 = some r) :
 Calls Tryz.prog 95 #[.slice A0 l0.length c0, .func (.func 75) #[] #[]] w fun e w' => e = .returned (.int .i64 r) ∧ Drawn0 w w' := by
 have HG := Aside0.mk hG
 clear hG
 have HR0 := Aside0.mk hr0
 have HC0 := Aside0.mk hc0
 clear hr0 hc0
 have H : (slices_IndexFunc_byte_byte.l0 k l0 (l0.length : Int) 0) = some r := h
 clear h
 have H' := Aside0.mk H
 clear H
 go_enter Tryz.func95, Tryz.ntmps95
 go_wp2
 go_loopg [8] k (fun kq v8 w' => ∃ (x8_1 : Int), v8 = .int .i64 x8_1 ∧ Aside0 (slices_IndexFunc_byte_byte.l0 kq l0 (l0.length : Int) x8_1 = some r) ∧ Aside0 (kq ≤ k) ∧ Drawn0 w w')
 case atStart => exact ⟨(0), cA, H', ⟨Nat.le_refl _⟩, by repeat (first | exact Drawn0.refl _ | apply Drawn0.step)⟩
 clear H'
 try clear p2
 obtain ⟨x8_1, rfl, HA, HK1, ⟨m1, rfl⟩⟩ := hrel
 cases gk with
 | zero => exact absurd HA.out (by simp [slices_IndexFunc_byte_byte.l0])
 | succ k1 =>
  have H := HA.out
  clear HA
  simp only [slices_IndexFunc_byte_byte.l0] at H
  by_cases c3 : x8_1 < (l0.length : Int)
  rotate_left
  ·rw [if_neg c3] at H
   have c3b0 := dF c3
   clear c3
   obtain rfl := Option.some.inj H
   go_wp2
   go_ret
   exact ⟨by first | rfl | (simp; done) | (simp [*]; done), by repeat (first | exact Drawn0.refl _ | apply Drawn0.step)⟩
  rw [if_pos c3] at H
  have c3b0 := dT c3
  clear c3
  obtain ⟨c4, H⟩ := gp H
  have c4b0 := dT c4
  clear c4
  obtain ⟨c5, H⟩ := gp H
  have c5b0 := dT c5
  clear c5
  replace H := bi H
  obtain ⟨t108, A60, H⟩ := H
  try dsimp only at H
  have A6 := Aside0.mk A60
  clear A60
  by_cases c7 : t108 = true
  ·subst c7
   replace H : (some x8_1) = some r := by rw [if_pos rfl] at H; exact H
   obtain rfl := Option.some.inj H
   have p107 : 0 ≤ (x8_1 : Int) := dA
   have q107 : x8_1 < (l0.length : Int) := dA
   obtain ⟨ad107, e107, hx107_0⟩ := Kd.at_int HR0.out x8_1 p107 q107
   cases e107
   replace p107 := eq_true p107
   replace q107 := eq_true q107
   go_wp2_with (first | (go_at_call 75; (with_reducible refine (words_Right_1.calls (rd l0 x8_1) true _ ?side1 A6.out).mono ?_); (case side1 => exact Glob.drawn HG.out (by repeat (first | exact Drawn0.refl _ | apply Drawn0.step))); rintro e w' ⟨rfl, ⟨nd, rfl⟩⟩))
   go_ret
   exact ⟨by first | rfl | (simp; done) | (simp [*]; done), by repeat (first | exact Drawn0.refl _ | apply Drawn0.step)⟩
  replace c7 := Bool.eq_false_iff.mpr c7
  subst c7
  replace H : (slices_IndexFunc_byte_byte.l0 k1 l0 (l0.length : Int) (wrap64 (x8_1 + 1))) = some r := by rw [if_neg nF] at H; exact H
  have H' := Aside0.mk H
  clear H
  have p107 : 0 ≤ (x8_1 : Int) := dA
  have q107 : x8_1 < (l0.length : Int) := dA
  obtain ⟨ad107, e107, hx107_0⟩ := Kd.at_int HR0.out x8_1 p107 q107
  cases e107
  replace p107 := eq_true p107
  replace q107 := eq_true q107
  go_wp2_with (first | (go_at_call 75; (with_reducible refine (words_Right_1.calls (rd l0 x8_1) false _ ?side1 A6.out).mono ?_); (case side1 => exact Glob.drawn HG.out (by repeat (first | exact Drawn0.refl _ | apply Drawn0.step))); rintro e w' ⟨rfl, ⟨nd, rfl⟩⟩))
  go_roundg k1
  case measure => have := HK1.out; omega
  case rel => exact ⟨(wrap64 (x8_1 + 1)), cA, H', ⟨by have := HK1.out; omega⟩, by repeat (first | exact Drawn0.refl _ | apply Drawn0.step)⟩
def slices_ContainsFunc_byte_byte.f (k : Nat) (l0 : List Int)  : Option (Bool) := (slices_IndexFunc_byte_byte.f k l0).bind fun t109 => (some (decide (t109 ≥ 0)))
theorem slices_ContainsFunc_byte_byte.mono : ∀ a0 k, LeO (slices_ContainsFunc_byte_byte.f k a0) (slices_ContainsFunc_byte_byte.f (k + 1) a0) := by
 intro a0 k
 unfold slices_ContainsFunc_byte_byte.f
 have m0 := @slices_IndexFunc_byte_byte.mono
 exact mo
theorem slices_ContainsFunc_byte_byte.calls (k : Nat) (A0 : Option Addr) (c0 : Nat) (l0 : List Int)  (r : Bool) (w : World) (hr0 : Kd.C (Kd.int .u8) w A0 l0.length l0) (hc0 : l0.length ≤ c0) (hG : Glob w) (h : slices_ContainsFunc_byte_byte.f k l0 = some r) :
 Calls Tryz.prog 74 #[.slice A0 l0.length c0, .func (.func 75) #[] #[]] w fun e w' => e = .returned (.bool r) ∧ Drawn0 w w' := by
 have HG := Aside0.mk hG
 clear hG
 have HR0 := Aside0.mk hr0
 have HC0 := Aside0.mk hc0
 clear hr0 hc0
 have H : ((slices_IndexFunc_byte_byte.f k l0).bind fun t109 => (some (decide (t109 ≥ 0)))) = some r := h
 clear h
 replace H := bi H
 obtain ⟨t109, A30, H⟩ := H
 try dsimp only at H
 have A3 := Aside0.mk A30
 clear A30
 obtain rfl := Option.some.inj H
 go_enter Tryz.func74, Tryz.ntmps74
 go_wp2_with (first | (refine gl (some 7) Tryz.func95 #[.slice A0 l0.length c0, .func (.func 75) #[] #[]] ?_; (with_reducible refine (slices_IndexFunc_byte_byte.calls k _ _ l0  t109 _ ?side1 ?side2 ?side3 A3.out).mono ?_); (case side1 => repeat (first | exact HR0.out | (with_reducible refine Kd.C_alloc ?_ _) | (with_reducible refine Kd.C_drewN ?_ _) | (with_reducible refine Kd.C_drew ?_))); (case side2 => exact HC0.out); (case side3 => exact Glob.drawn HG.out (by repeat (first | exact Drawn0.refl _ | apply Drawn0.step))); rintro e w' ⟨rfl, ⟨nd, rfl⟩⟩; refine ⟨_, rfl, ?_⟩))
 go_ret
 exact ⟨by first | rfl | (simp; done) | (simp [*]; done), by repeat (first | exact Drawn0.refl _ | apply Drawn0.step)⟩
def words_Right.f (k : Nat) (a0 : ByteArray) : Option Bool := if 1 ≤ a0.size ∧ a0.size ≤ 100 then (slices_ContainsFunc_byte_byte.f k (bytesOf a0)).bind fun t => some (!t) else some false
theorem words_Right.mono : ∀ a0 k, LeO (words_Right.f k a0) (words_Right.f (k + 1) a0) := by
 intro a0 k
 unfold words_Right.f
 exact LeO.ite (LeO.bind (slices_ContainsFunc_byte_byte.mono _ _) (fun _ => LeO.refl _)) (LeO.refl _)
theorem words_Right.calls (k : Nat) (a0 : ByteArray) (r : Bool) (w : World) (hG : Glob w) (h : words_Right.f k a0 = some r) :
 Calls Tryz.prog 50 #[.string a0] w fun e w' => e = .returned (.bool r) ∧ Below w.heap.size w w' := by
 unfold words_Right.f at h
 go_enter Tryz.func50, Tryz.ntmps50
 by_cases c1 : 1 ≤ a0.size
 rotate_left
 ·rw [if_neg (fun h => c1 h.1)] at h
  obtain rfl := Option.some.inj h
  have d1 : decide (1 ≤ (a0.size : Int)) = false := decide_eq_false (by omega)
  have d1' : decide (1 ≤ a0.size) = false := decide_eq_false (by omega)
  go_wp2
  go_ret
  exact ⟨rfl, Below.refl _ _⟩
 by_cases c2 : a0.size ≤ 100
 ·rw [if_pos ⟨c1, c2⟩] at h
  obtain ⟨t, ht, h⟩ := Option.bind_eq_some_iff.1 h
  obtain rfl := Option.some.inj h
  have d1 : decide (1 ≤ (a0.size : Int)) = true := decide_eq_true (by omega)
  have d1' : decide (1 ≤ a0.size) = true := decide_eq_true (by omega)
  have d2 : decide ((a0.size : Int) ≤ 100) = true := decide_eq_true (by omega)
  have d2' : decide (a0.size ≤ 100) = true := decide_eq_true (by omega)
  have kb := fun W => print_bytes (P := Tryz.prog) 9 60 5 Tryz.underlying9 Tryz.underlying60 Tryz.underlying5 a0 W
  go_wp2_with (fail)
  have hr : Kd.C (Kd.int .u8) (Lib.bytesWorld w 5 a0) (some ⟨w.heap.size, 0, none⟩) a0.size (bytesOf a0) := Kd.C_of_reads (enc := Value.int .u8) (d := (0 : Int)) (h1 := fun _ => rfl) (bytes_reads w 5 a0 (by omega))
  have hb : Below w.heap.size w (Lib.bytesWorld w 5 a0) := bytes_below (Below.refl _ _) (Nat.le_refl _) _ _
  rw [← bytesOf_length] at hr ⊢
  refine (slices_ContainsFunc_byte_byte.calls k _ _ (bytesOf a0) t _ hr ?_ (hG.step hb) ht).mono fun e w' hh => ?_
  ·rw [bytesOf_length]; exact grownCap_ge _ _ _ _
  obtain ⟨rfl, hd⟩ := hh
  go_wp2
  go_ret
  exact ⟨rfl, hb.trans (hd.below.mono hb.size)⟩
 ·rw [if_neg (fun h => c2 h.2)] at h
  obtain rfl := Option.some.inj h
  have d1 : decide (1 ≤ (a0.size : Int)) = true := decide_eq_true (by omega)
  have d1' : decide (1 ≤ a0.size) = true := decide_eq_true (by omega)
  have d2 : decide ((a0.size : Int) ≤ 100) = false := decide_eq_false (by omega)
  have d2' : decide (a0.size ≤ 100) = false := decide_eq_false (by omega)
  go_wp2
  go_ret
  exact ⟨rfl, Below.refl _ _⟩
def span_bound.f (k : Nat) (a0 : ByteArray) (a1 : Bool) : Option (Bool) := (words_Right.f k a0).bind fun t110 => (if t110 = true then (some true) else (if a0.toList = ([] : List UInt8) then (some (!a1)) else (some false)))
theorem span_bound.mono : ∀ a0 a1 k, LeO (span_bound.f k a0 a1) (span_bound.f (k + 1) a0 a1) := by
 intro a0 a1 k
 unfold span_bound.f
 have m0 := @words_Right.mono
 exact mo
theorem span_bound.calls (k : Nat) (a0 : ByteArray) (a1 : Bool) (r : Bool) (w : World) (hG : Glob w) (h : span_bound.f k a0 a1 = some r) :
 Calls Tryz.prog 35 #[.string a0, .bool a1] w fun e w' => e = .returned (.bool r) ∧ Below w.heap.size w w' := by
 have HG := Aside0.mk hG
 clear hG
 have HB := Aside0.mk (Below.refl w.heap.size w)
 have H : ((words_Right.f k a0).bind fun t110 => (if t110 = true then (some true) else (if a0.toList = ([] : List UInt8) then (some (!a1)) else (some false)))) = some r := h
 clear h
 replace H := bi H
 obtain ⟨t110, A30, H⟩ := H
 try dsimp only at H
 have A3 := Aside0.mk A30
 clear A30
 by_cases c4 : t110 = true
 ·subst c4
  replace H : (some true) = some r := by rw [if_pos rfl] at H; exact H
  obtain rfl := Option.some.inj H
  go_enter Tryz.func35, Tryz.ntmps35
  go_wp2_with (first | (refine gl (some 6) Tryz.func50 #[.string a0] ?_; (with_reducible refine (words_Right.calls k a0 true _ (gS HG) A3.out).mono ?_); rintro e w5 ⟨rfl, hb⟩; refine ⟨_, rfl, ?_⟩; replace HB := sB hb; (try clear hb)))
  go_ret
  exact ⟨eA, bE⟩
 replace c4 := Bool.eq_false_iff.mpr c4
 subst c4
 replace H : (if a0.toList = ([] : List UInt8) then (some (!a1)) else (some false)) = some r := by rw [if_neg nF] at H; exact H
 by_cases c6 : a0.toList = ([] : List UInt8)
 rotate_left
 ·rw [if_neg c6] at H
  obtain ⟨c6b0, c6b1⟩ := eqF c6
  (try (have c6b2 : a0.toList.isEmpty = false := by simpa using c6))
  obtain rfl := Option.some.inj H
  go_enter Tryz.func35, Tryz.ntmps35
  go_wp2_with (first | (refine gl (some 6) Tryz.func50 #[.string a0] ?_; (with_reducible refine (words_Right.calls k a0 false _ (gS HG) A3.out).mono ?_); rintro e w8 ⟨rfl, hb⟩; refine ⟨_, rfl, ?_⟩; replace HB := sB hb; (try clear hb)))
  go_ret
  exact ⟨eA, bE⟩
 rw [if_pos c6] at H
 obtain ⟨c6b0, c6b1⟩ := eqT c6
 (try (have c6b2 : a0.toList.isEmpty = true := by simpa using c6))
 clear c6
 obtain rfl := Option.some.inj H
 go_enter Tryz.func35, Tryz.ntmps35
 go_wp2_with (first | (refine gl (some 6) Tryz.func50 #[.string a0] ?_; (with_reducible refine (words_Right.calls k a0 false _ (gS HG) A3.out).mono ?_); rintro e w7 ⟨rfl, hb⟩; refine ⟨_, rfl, ?_⟩; replace HB := sB hb; (try clear hb)))
 go_ret
 exact ⟨eA, bE⟩
def span_may.j0 : Nat → Bool → ByteArray → ByteArray → Bool → Bool → Option (Bool)
 | 0, _, _, _, _, _ => none
 | k + 1, x17, x208000, x208001, x208002, x208003 => if x17 = true then (some false) else (if x208000.toList = ([] : List UInt8) then (some true) else (if x208001.toList = ([] : List UInt8) then (some true) else ((order_Compare.f k x208000 x208001).bind fun t210 => (if t210 < 0 then (some true) else (if t210 = 0 then (if x208002 = true then (some x208003) else (some false)) else (some false))))))
def span_may.f (k : Nat) (a0_0 : ByteArray) (a0_1 : ByteArray) (a0_2 : Bool) (a0_3 : Bool) : Option (Bool) := (span_bound.f k a0_0 a0_2).bind fun t208 => (if t208 = true then ((span_bound.f k a0_1 a0_3).bind fun t209 => (span_may.j0 k (!t209) a0_0 a0_1 a0_2 a0_3)) else (span_may.j0 k true a0_0 a0_1 a0_2 a0_3))
theorem span_may.mono_l : ∀ k, (∀ y0 y1 y2 y3 y4, LeO (span_may.j0 k y0 y1 y2 y3 y4) (span_may.j0 (k + 1) y0 y1 y2 y3 y4))
 | 0 => fun _ _ _ _ _ r h => by simp [span_may.j0] at h
 | k + 1 => by
  have ih0 := span_may.mono_l k
  ·intro y0 y1 y2 y3 y4
   unfold span_may.j0
   have m0 := @order_Compare.mono
   have m1 := @span_bound.mono
   exact mo
theorem span_may.mono : ∀ a0 a1 a2 a3 k, LeO (span_may.f k a0 a1 a2 a3) (span_may.f (k + 1) a0 a1 a2 a3) := by
 intro a0 a1 a2 a3 k
 have ih0 := span_may.mono_l k
 unfold span_may.f
 have m0 := @order_Compare.mono
 have m1 := @span_bound.mono
 exact mo
theorem span_may.calls (k : Nat) (a0_0 : ByteArray) (a0_1 : ByteArray) (a0_2 : Bool) (a0_3 : Bool) (r : Bool) (w : World) (hG : Glob w) (h : span_may.f k a0_0 a0_1 a0_2 a0_3 = some r) :
 Calls Tryz.prog 17 #[.agg #[.string a0_0, .string a0_1, .bool a0_2, .bool a0_3]] w fun e w' => e = .returned (.bool r) ∧ Below w.heap.size w w' := by
 have hu30 := Tryz.underlying30
 have HG := Aside0.mk hG
 clear hG
 have HB := Aside0.mk (Below.refl w.heap.size w)
 have H : ((span_bound.f k a0_0 a0_2).bind fun t208 => (if t208 = true then ((span_bound.f k a0_1 a0_3).bind fun t209 => (span_may.j0 k (!t209) a0_0 a0_1 a0_2 a0_3)) else (span_may.j0 k true a0_0 a0_1 a0_2 a0_3))) = some r := h
 clear h
 have HC2 := Aside0.mk H
 clear H
 go_enter Tryz.func17, Tryz.ntmps17
 go_upto_region 1 with (first | (refine be 1 #[.string a0_0, .string a0_1, .bool a0_2, .bool a0_3] 30 ?_; intro gb207 hg w3 hbox hb; have BK207 := Aside0.mk (hbox); have GW207 := gW hg; have GE207 := gW hg; replace HB := sB hb; clear hb hbox hg))
 (try simp only [Act.put, List.setIfInBounds_toArray, List.set_cons_zero, List.set_cons_succ])
 go_cut [17] (fun v17 wc => ∃ (kq : Nat) (x17_1 : Bool), v17 = .bool x17_1 ∧ Aside0 (span_may.j0 kq x17_1 a0_0 a0_1 a0_2 a0_3 = some r) ∧ Aside0 (kq ≤ k) ∧ Aside0 (wc.heap[gb207]? = some (.cells #[.string a0_0, .string a0_1, .bool a0_2, .bool a0_3] 30 (0, 0))) ∧ Aside0 (Below w.heap.size w wc))
 case first =>
  have H := HC2.out
  clear HC2
  replace H := bi H
  obtain ⟨t208, A40, H⟩ := H
  try dsimp only at H
  have A4 := Aside0.mk A40
  clear A40
  by_cases c5 : t208 = true
  rotate_left
  ·replace c5 := Bool.eq_false_iff.mpr c5
   subst c5
   replace H : (span_may.j0 k true a0_0 a0_1 a0_2 a0_3) = some r := by rw [if_neg nF] at H; exact H
   have H' := Aside0.mk H
   clear H
   obtain ⟨hcz11_0, hcz11_1, hcz11_2, hcz11_3, hfz11_0, hfz11_1, hfz11_2, hfz11_3⟩ := cells4 BK207
   go_wp2_with (first | (refine gl (some 8) Tryz.func35 #[.string a0_0, .bool a0_2] ?_; (with_reducible refine (span_bound.calls k a0_0 a0_2 false _ (gS HG) A4.out).mono ?_); rintro e w12 ⟨rfl, hb⟩; refine ⟨_, rfl, ?_⟩; replace BK207 := kB BK207 hb; replace HB := sB hb; (try clear hb)))
   go_meet
   case rel => exact ⟨_, (true), cA, H', ⟨by first | omega | exact Nat.le_refl _⟩, ⟨bK BK207⟩, ⟨bG⟩⟩
  subst c5
  replace H : ((span_bound.f k a0_1 a0_3).bind fun t209 => (span_may.j0 k (!t209) a0_0 a0_1 a0_2 a0_3)) = some r := by rw [if_pos rfl] at H; exact H
  replace H := bi H
  obtain ⟨t209, A60, H⟩ := H
  try dsimp only at H
  have A6 := Aside0.mk A60
  clear A60
  have H' := Aside0.mk H
  clear H
  obtain ⟨hcz7_0, hcz7_1, hcz7_2, hcz7_3, hfz7_0, hfz7_1, hfz7_2, hfz7_3⟩ := cells4 BK207
  go_wp2_with (first | (refine gl (some 8) Tryz.func35 #[.string a0_0, .bool a0_2] ?_; (with_reducible refine (span_bound.calls k a0_0 a0_2 true _ (gS HG) A4.out).mono ?_); rintro e w8 ⟨rfl, hb⟩; refine ⟨_, rfl, ?_⟩; replace BK207 := kB BK207 hb; replace HB := sB hb; (try clear hb); have hcz9_0 : w8.cell? ⟨gb207, 0, none⟩ = some (.string a0_0) := (blk_cell BK207.out 0).trans rfl; have hcz9_1 : w8.cell? ⟨gb207, 1, none⟩ = some (.string a0_1) := (blk_cell BK207.out 1).trans rfl; have hcz9_2 : w8.cell? ⟨gb207, 2, none⟩ = some (.bool a0_2) := (blk_cell BK207.out 2).trans rfl; have hcz9_3 : w8.cell? ⟨gb207, 3, none⟩ = some (.bool a0_3) := (blk_cell BK207.out 3).trans rfl; have hfz9_0 := blk_frozen BK207.out 0; have hfz9_1 := blk_frozen BK207.out 1; have hfz9_2 := blk_frozen BK207.out 2; have hfz9_3 := blk_frozen BK207.out 3) | (go_at_call 35; (with_reducible refine (span_bound.calls k a0_1 a0_3 t209 _ (gS HG) A6.out).mono ?_); rintro e w10 ⟨rfl, hb⟩; replace BK207 := kB BK207 hb; replace HB := sB hb; (try clear hb)))
  go_meet
  case rel => exact ⟨_, (!t209), cA, H', ⟨by first | omega | exact Nat.le_refl _⟩, ⟨bK BK207⟩, ⟨bG⟩⟩
 clear HC2
 try clear c1
 try clear p2
 try clear c3
 try clear c5
 try clear hcz11_0
 try clear hcz11_1
 try clear hcz11_2
 try clear hcz11_3
 try clear hcz7_0
 try clear hcz7_1
 try clear hcz7_2
 try clear hcz7_3
 try clear hcz9_0
 try clear hcz9_1
 try clear hcz9_2
 try clear hcz9_3
 try clear hfz11_0
 try clear hfz11_1
 try clear hfz11_2
 try clear hfz11_3
 try clear hfz7_0
 try clear hfz7_1
 try clear hfz7_2
 try clear hfz7_3
 try clear hfz9_0
 try clear hfz9_1
 try clear hfz9_2
 try clear hfz9_3
 obtain ⟨kq, x17_1, rfl, HA, HJ1, BK207, HB⟩ := hcut
 cases kq with
 | zero => exact absurd HA.out (by simp [span_may.j0])
 | succ kj1 =>
  have H := HA.out
  clear HA
  simp only [span_may.j0] at H
  by_cases c13 : x17_1 = true
  ·subst c13
   replace H : (some false) = some r := by rw [if_pos rfl] at H; exact H
   obtain rfl := Option.some.inj H
   go_wp2
   go_ret
   exact ⟨eA, bG⟩
  replace c13 := Bool.eq_false_iff.mpr c13
  subst c13
  replace H : (if a0_0.toList = ([] : List UInt8) then (some true) else (if a0_1.toList = ([] : List UInt8) then (some true) else ((order_Compare.f kj1 a0_0 a0_1).bind fun t210 => (if t210 < 0 then (some true) else (if t210 = 0 then (if a0_2 = true then (some a0_3) else (some false)) else (some false)))))) = some r := by rw [if_neg nF] at H; exact H
  by_cases c14 : a0_0.toList = ([] : List UInt8)
  ·rw [if_pos c14] at H
   obtain ⟨c14b0, c14b1⟩ := eqT c14
   (try (have c14b2 : a0_0.toList.isEmpty = true := by simpa using c14))
   clear c14
   obtain rfl := Option.some.inj H
   obtain ⟨hcz15_0, hcz15_1, hcz15_2, hcz15_3, hfz15_0, hfz15_1, hfz15_2, hfz15_3⟩ := cells4 BK207
   go_wp2
   go_ret
   exact ⟨eA, bG⟩
  rw [if_neg c14] at H
  obtain ⟨c14b0, c14b1⟩ := eqF c14
  (try (have c14b2 : a0_0.toList.isEmpty = false := by simpa using c14))
  by_cases c16 : a0_1.toList = ([] : List UInt8)
  ·rw [if_pos c16] at H
   obtain ⟨c16b0, c16b1⟩ := eqT c16
   (try (have c16b2 : a0_1.toList.isEmpty = true := by simpa using c16))
   clear c16
   obtain rfl := Option.some.inj H
   obtain ⟨hcz17_0, hcz17_1, hcz17_2, hcz17_3, hfz17_0, hfz17_1, hfz17_2, hfz17_3⟩ := cells4 BK207
   go_wp2
   go_ret
   exact ⟨eA, bG⟩
  rw [if_neg c16] at H
  obtain ⟨c16b0, c16b1⟩ := eqF c16
  (try (have c16b2 : a0_1.toList.isEmpty = false := by simpa using c16))
  replace H := bi H
  obtain ⟨t210, A180, H⟩ := H
  try dsimp only at H
  have A18 := Aside0.mk A180
  clear A180
  by_cases c19 : t210 < 0
  ·rw [if_pos c19] at H
   have c19b0 := dT c19
   clear c19
   obtain rfl := Option.some.inj H
   obtain ⟨hcz20_0, hcz20_1, hcz20_2, hcz20_3, hfz20_0, hfz20_1, hfz20_2, hfz20_3⟩ := cells4 BK207
   go_wp2_with (first | (refine gl (some 30) Tryz.func34 #[.string a0_0, .string a0_1] ?_; (with_reducible refine (order_Compare.calls kj1 a0_0 a0_1 t210 _ (gS HG) A18.out).mono ?_); rintro e w21 ⟨rfl, hb⟩; refine ⟨_, rfl, ?_⟩; replace BK207 := kB BK207 hb; replace HB := sB hb; (try clear hb)))
   go_ret
   exact ⟨eA, bG⟩
  rw [if_neg c19] at H
  have c19b0 := dF c19
  clear c19
  by_cases c22 : t210 = 0
  rotate_left
  ·rw [if_neg c22] at H
   obtain ⟨c22b0, c22b1⟩ := eqF c22
   obtain rfl := Option.some.inj H
   obtain ⟨hcz30_0, hcz30_1, hcz30_2, hcz30_3, hfz30_0, hfz30_1, hfz30_2, hfz30_3⟩ := cells4 BK207
   go_wp2_with (first | (refine gl (some 30) Tryz.func34 #[.string a0_0, .string a0_1] ?_; (with_reducible refine (order_Compare.calls kj1 a0_0 a0_1 t210 _ (gS HG) A18.out).mono ?_); rintro e w31 ⟨rfl, hb⟩; refine ⟨_, rfl, ?_⟩; replace BK207 := kB BK207 hb; replace HB := sB hb; (try clear hb)))
   go_ret
   exact ⟨eA, bG⟩
  rw [if_pos c22] at H
  obtain ⟨c22b0, c22b1⟩ := eqT c22
  clear c22
  by_cases c23 : a0_2 = true
  ·subst c23
   replace H : (some a0_3) = some r := by rw [if_pos rfl] at H; exact H
   obtain rfl := Option.some.inj H
   obtain ⟨hcz24_0, hcz24_1, hcz24_2, hcz24_3, hfz24_0, hfz24_1, hfz24_2, hfz24_3⟩ := cells4 BK207
   go_wp2_with (first | (refine gl (some 30) Tryz.func34 #[.string a0_0, .string a0_1] ?_; (with_reducible refine (order_Compare.calls kj1 a0_0 a0_1 t210 _ (gS HG) A18.out).mono ?_); rintro e w25 ⟨rfl, hb⟩; refine ⟨_, rfl, ?_⟩; replace BK207 := kB BK207 hb; replace HB := sB hb; (try clear hb); have hcz26_0 : w25.cell? ⟨gb207, 0, none⟩ = some (.string a0_0) := (blk_cell BK207.out 0).trans rfl; have hcz26_1 : w25.cell? ⟨gb207, 1, none⟩ = some (.string a0_1) := (blk_cell BK207.out 1).trans rfl; have hcz26_2 : w25.cell? ⟨gb207, 2, none⟩ = some (.bool true) := (blk_cell BK207.out 2).trans rfl; have hcz26_3 : w25.cell? ⟨gb207, 3, none⟩ = some (.bool a0_3) := (blk_cell BK207.out 3).trans rfl; have hfz26_0 := blk_frozen BK207.out 0; have hfz26_1 := blk_frozen BK207.out 1; have hfz26_2 := blk_frozen BK207.out 2; have hfz26_3 := blk_frozen BK207.out 3))
   go_ret
   exact ⟨eA, bG⟩
  replace c23 := Bool.eq_false_iff.mpr c23
  subst c23
  replace H : (some false) = some r := by rw [if_neg nF] at H; exact H
  obtain rfl := Option.some.inj H
  obtain ⟨hcz27_0, hcz27_1, hcz27_2, hcz27_3, hfz27_0, hfz27_1, hfz27_2, hfz27_3⟩ := cells4 BK207
  go_wp2_with (first | (refine gl (some 30) Tryz.func34 #[.string a0_0, .string a0_1] ?_; (with_reducible refine (order_Compare.calls kj1 a0_0 a0_1 t210 _ (gS HG) A18.out).mono ?_); rintro e w28 ⟨rfl, hb⟩; refine ⟨_, rfl, ?_⟩; replace BK207 := kB BK207 hb; replace HB := sB hb; (try clear hb); have hcz29_0 : w28.cell? ⟨gb207, 0, none⟩ = some (.string a0_0) := (blk_cell BK207.out 0).trans rfl; have hcz29_1 : w28.cell? ⟨gb207, 1, none⟩ = some (.string a0_1) := (blk_cell BK207.out 1).trans rfl; have hcz29_2 : w28.cell? ⟨gb207, 2, none⟩ = some (.bool false) := (blk_cell BK207.out 2).trans rfl; have hcz29_3 : w28.cell? ⟨gb207, 3, none⟩ = some (.bool a0_3) := (blk_cell BK207.out 3).trans rfl; have hfz29_0 := blk_frozen BK207.out 0; have hfz29_1 := blk_frozen BK207.out 1; have hfz29_2 := blk_frozen BK207.out 2; have hfz29_3 := blk_frozen BK207.out 3))
  go_ret
  exact ⟨eA, bG⟩
end Go.Proofs.YtgdjfcmmpjcaaaaGreatDoor.Q
namespace Go.Proofs.YtgdjfcmmpjcaaaaGreatDoor.Q
open Go.RowKit Go.Proofs.YtgdjfcmmpjcaaaaGreatDoorW.PrintWords Go.Proofs.YtgdjfcmmpjcaaaaGreatDoorW.PrintLast Go.Proofs.YtgdjfcmmpjcaaaaGreatDoorW.Own Go.Proofs.YtgdjfcmmpjcaaaaGreatDoorW.PrintMore
attribute [local go_sem] max2_int min2_int max_two min_two max_three min_three max_four min_four   -- for this text's walks alone
set_option linter.unusedVariables false
set_option linter.unusedSimpArgs false
namespace IndexAnyG
open Go Go.RowKit Go.Lib
theorem dec_hi (s : ByteArray) (i : Nat) (h : i < s.size) (hx : 128 ≤ (s.get! i).toNat) :
    1 ≤ (Utf8.decode s i).2 ∧ i + (Utf8.decode s i).2 ≤ s.size ∧ 128 ≤ (Utf8.decode s i).1 ∧ (Utf8.decode s i).1 ≤ 1114111 ∧ ∀ j, j < (Utf8.decode s i).2 → 128 ≤ (s.get! (i + j)).toNat := by
  have k0 : ∀ j, j < 1 → 128 ≤ (s.get! (i + j)).toNat := fun j hj => by
    obtain rfl : j = 0 := by omega
    exact hx
  have bad : 1 ≤ (Utf8.runeError, 1).2 ∧ i + (Utf8.runeError, 1).2 ≤ s.size ∧ 128 ≤ (Utf8.runeError, 1).1 ∧ (Utf8.runeError, 1).1 ≤ 1114111 ∧ ∀ j, j < (Utf8.runeError, 1).2 → 128 ≤ (s.get! (i + j)).toNat := ⟨Nat.le_refl _, h, by decide, by decide, k0⟩
  have hb : ∀ k, (s.get! (i + k)).toNat < 256 := fun k => UInt8.toNat_lt _
  unfold Utf8.decode
  simp only [Nat.add_zero]
  rw [if_neg (by omega)]
  have c1 : ∀ k, (decide (i + k < s.size) && (s.get! (i + k)).toNat / 64 == 2) = true → i + k < s.size ∧ 128 ≤ (s.get! (i + k)).toNat := fun k hk => by
    simp only [Bool.and_eq_true, decide_eq_true_eq, beq_iff_eq] at hk
    exact ⟨hk.1, by omega⟩
  split
  · rename_i h2
    simp only [Bool.and_eq_true] at h2
    obtain ⟨h21, h22⟩ := h2
    have d1 := c1 1 (by simpa using h22)
    have h21 : (s.get! i).toNat / 32 = 6 := by simpa using h21
    have b0 := hb 0; simp only [Nat.add_zero] at b0
    split
    · rename_i h3
      refine ⟨by show 1 ≤ 2; omega, by show i + 2 ≤ _; omega, by show 128 ≤ _; omega, by show _ ≤ 1114111; omega, fun j hj => ?_⟩
      have hj : j < 2 := hj
      rcases (by omega : j = 0 ∨ j = 1) with rfl | rfl
      · exact hx
      · exact d1.2
    · exact bad
  · split
    · rename_i h2
      simp only [Bool.and_eq_true] at h2
      obtain ⟨⟨h21, h22⟩, h23⟩ := h2
      have d1 := c1 1 (by simpa using h22)
      have d2 := c1 2 (by simpa using h23)
      have h21 : (s.get! i).toNat / 16 = 14 := by simpa using h21
      split
      · rename_i h3
        simp only [Bool.and_eq_true, decide_eq_true_eq] at h3
        refine ⟨by show 1 ≤ 3; omega, by show i + 3 ≤ _; omega, by show 128 ≤ _; omega, by show _ ≤ 1114111; omega, fun j hj => ?_⟩
        have hj : j < 3 := hj
        rcases (by omega : j = 0 ∨ j = 1 ∨ j = 2) with rfl | rfl | rfl
        · exact hx
        · exact d1.2
        · exact d2.2
      · exact bad
    · split
      · rename_i h2
        simp only [Bool.and_eq_true] at h2
        obtain ⟨⟨⟨h21, h22⟩, h23⟩, h24⟩ := h2
        have d1 := c1 1 (by simpa using h22)
        have d2 := c1 2 (by simpa using h23)
        have d3 := c1 3 (by simpa using h24)
        split
        · rename_i h3
          simp only [Bool.and_eq_true, decide_eq_true_eq] at h3
          have hv := h3.2
          refine ⟨by show 1 ≤ 4; omega, by show i + 4 ≤ _; omega, by show 128 ≤ _; omega, ?_, fun j hj => ?_⟩
          · simp only [Utf8.valid] at hv
            show _ ≤ 1114111
            simp at hv
            omega
          · have hj : j < 4 := hj
            rcases (by omega : j = 0 ∨ j = 1 ∨ j = 2 ∨ j = 3) with rfl | rfl | rfl | rfl
            · exact hx
            · exact d1.2
            · exact d2.2
            · exact d3.2
        · exact bad
      · exact bad
theorem get_data (s : ByteArray) (i : Nat) (h : i < s.size) : s.data.toList[i]? = some (s.get! i) := by
  have h1 : i < s.data.size := h
  have h2 : s.get! i = s.data[i] := by
    show s.data[i]! = _
    rw [getElem!_pos s.data i h1]
  rw [h2, List.getElem?_eq_getElem (by simpa using h1)]
  simp
theorem indexByte_none (l : List UInt8) (c : UInt8) (h : ∀ b ∈ l, b ≠ c) : Lib.indexByte l c = -1 := by
  rcases Int.lt_or_le (Lib.indexByte l c) 0 with h0 | h0
  · have := Lib.indexByte_ge l c
    omega
  · exfalso
    have := Lib.contains_iff_indexByte l c
    rw [decide_eq_true h0] at this
    exact h c (by simpa using this) rfl
set_option maxHeartbeats 8000000 in
set_option maxRecDepth 1000000 in
theorem indexRune_hi (s : ByteArray) (r : Int) (w : World) (h0 : 128 ≤ r) (h1 : r ≤ 1114111) (hs : s.size < 4294967281) (hascii : ∀ (j : Nat) b, s.data.toList[j]? = some b → b.toNat < 128) :
    Calls Tryz.prog 51 #[.string s, .int .i32 r] w fun e w' => e = .returned (.int .i64 (-1)) ∧ Below w.heap.size w w' := by
  have HA : Aside (∀ (j : Nat) b, s.data.toList[j]? = some b → b.toNat < 128) := hascii
  clear hascii
  have n128 : decide (r < 128) = false := decide_eq_false (by omega)
  have p0 : decide (0 ≤ r) = true := decide_eq_true (by omega)
  by_cases hE : r = 65533
  · subst hE
    go_enter Tryz.func51, Tryz.ntmps51
    go_wp2
    go_loopg [] s.size (fun g wx => ∃ i : Nat, i + g = s.size ∧ wx = w.iter s i)
    case atStart => exact ⟨0, by omega, rfl⟩
    case round =>
      obtain ⟨i, hig, rfl⟩ := hrel
      cases gk with
      | zero =>
        obtain rfl : i = s.size := by omega
        have hnx := run_next_end (P := Tryz.prog) w s s.size
        go_wp2
        go_ret
        exact ⟨rfl, (Below.refl _ _).alloc (Nat.le_refl _) _⟩
      | succ g =>
        have hi : i < s.size := by omega
        have hx128 : (s[i]'hi).toNat < 128 := HA.out i _ (Lib.data_getElem? s i hi)
        have hnx := fun ty => run_next_ascii (P := Tryz.prog) w s i ty hi hx128
        obtain ⟨x, hx⟩ : ∃ x : Nat, (s[i]'hi).toNat = x := ⟨_, rfl⟩
        rw [hx] at hnx hx128
        clear hx
        have hne : (((x : Nat) : Int) == 65533) = false := beq_eq_false_iff_ne.2 (by omega)
        go_wp2
        go_roundg g
        case measure => omega
        case rel => exact ⟨i + 1, by omega, rfl⟩
  · have bE : (r == 65533) = false := beq_eq_false_iff_ne.2 hE
    by_cases hv : Lib.validRune r = true
    · have hv' : Utf8.valid r = true := by rw [Go.validRune_eq]; exact hv
      obtain ⟨he2, he4, hlast⟩ := encode_facts r hv' h0
      obtain ⟨t, ht⟩ : ∃ t : ByteArray, Utf8.encode r = t := ⟨_, rfl⟩
      rw [ht] at he2 he4 hlast
      have HT : Aside (Utf8.encode r = t) := ht
      clear ht
      go_enter Tryz.func51, Tryz.ntmps51
      go_wp2_with (first | (go_at_call 77; refine (Tryz.utf8_ValidRune _ _).mono ?_; rintro e w' ⟨rfl, rfl⟩; rw [hv]))
      go_step3
      have hr128 : decide (r < 128) = false := n128
      go_wp2
      obtain ⟨m, hm⟩ : ∃ m, t.size = m + 1 := ⟨t.size - 1, by omega⟩
      have hw : wrap64 ((t.size : Int) - 1) = (m : Int) := by unfold wrap64; omega
      rw [HT.out, hw]
      have hm3 : m ≤ 3 := by omega
      have hmt : m < t.size := by omega
      obtain ⟨c, hc⟩ : ∃ c : UInt8, t[m]'hmt = c := ⟨_, rfl⟩
      have hc128 : 128 ≤ c.toNat := by
        have h1 := hlast (by omega)
        have h2 : t[t.size - 1]'(by omega) = t[m]'hmt := by congr 1; omega
        rw [h2, hc] at h1
        exact h1
      have HM : Aside (t.size = m + 1) := hm
      clear hm hw he2 he4 hlast HT
      refine wp_loop_rounds 1 ?_
      rw [rounds_succ]
      by_cases hlt : m < s.size
      · have hd : decide ((m : Int) < (s.size : Int)) = true := decide_eq_true (by omega)
        have hx128 : (s[m]'hlt).toNat < 128 := HA.out m _ (Lib.data_getElem? s m hlt)
        obtain ⟨x, hx⟩ : ∃ x : UInt8, s[m]'hlt = x := ⟨_, rfl⟩
        rw [hx] at hx128
        have hne : ((x.toNat : Int) != (c.toNat : Int)) = true := bne_iff_ne.2 (by omega)
        have hno : Lib.indexByte (s.extract (m + 1) s.size).data.toList c = -1 := by
          refine indexByte_none _ _ (fun b hb hbc => ?_)
          have hb' := mem_extract hb
          obtain ⟨j, hj⟩ := List.mem_iff_getElem?.1 hb'
          have := HA.out j b hj
          rw [hbc] at this
          omega
        have HN := Lib.hid hno
        clear hno
        have HX := Lib.hid hx
        have HC := Lib.hid hc
        go_wp2_with (fail)
        go_step3
        go_wp2_with (fail)
        have px : (m : Int) < (s.size : Int) := by omega
        have pt : (m : Int) < (t.size : Int) := by omega
        go_quiet (fail)
        generalize hWx : World.drewN _ _ = W2
        have HBW : Aside (Below w'.heap.size w' W2) := by
          rw [← hWx]
          exact pw_below_drewN (Below.refl _ _) _
        clear hWx
        go_wp2_with (fail)
        have e1 : IntKind.i64.wrap ((m : Int) + 1) = (m : Int) + 1 := by rw [i64_w]; unfold wrap64; omega
        have e2 : ((m : Int) + 1).toNat = m + 1 := by omega
        have e3 : (0 : Int) ≤ (m : Int) + 1 := by omega
        have e4 : (m : Int) + 1 ≤ (s.size : Int) := by omega
        go_quiet ((go_at_call 76; exact Calls.quiet_of_same (Tryz.strings_IndexByte _ _ _)))
        generalize hO : Lib.indexByte _ _ = o
        have ho : o = -1 := by
          rw [← hO]
          simpa using HN.out
        clear hO
        subst ho
        go_wp2_with (fail)
        rw [Exit.noGoto_ret]
        simp only [Exit.inBlock, Exit.then]
        rw [Exit.noGoto_ret]
        simp only [Exit.inBlock]
        go_ret
        exact ⟨rfl, pw_below_drewN HBW.out _⟩
      · have hd : decide ((m : Int) < (s.size : Int)) = false := decide_eq_false (by omega)
        go_wp2
        rw [Exit.noGoto_ret]
        go_ret
        exact ⟨rfl, Below.refl _ _⟩
    · have hv' : Lib.validRune r = false := by simpa using hv
      clear hv
      go_enter Tryz.func51, Tryz.ntmps51
      go_wp2_with (first | (go_at_call 77; refine (Tryz.utf8_ValidRune _ _).mono ?_; rintro e w' ⟨rfl, rfl⟩; rw [hv']))
      go_ret
      exact ⟨rfl, Below.refl _ _⟩
theorem below_iterAt {B : Nat} {a w : World} (h : Below B a w) (k : Nat) (hk : B ≤ k) (s : ByteArray) (pos : Nat) : Below B a (w.iterAt k s pos) :=
  h.trans ⟨rfl, rfl, rfl, by simp [World.iterAt], fun i hi => by simp only [World.iterAt]; rw [Array.getElem?_setIfInBounds_ne (by omega)]⟩
theorem NoAny_step (l chars : List UInt8) (i k : Nat) (h : Lib.NoAny l chars i) (hc : ∀ j, i ≤ j → j < i + k → ∀ b, l[j]? = some b → chars.contains b = false) : Lib.NoAny l chars (i + k) := by
  induction k with
  | zero => exact h
  | succ k ih =>
    have h1 := ih (fun j h1 h2 => hc j h1 (by omega))
    rcases Nat.lt_or_ge (i + k) l.length with hl | hl
    · have hx : l[i + k]? = some l[i + k] := List.getElem?_eq_getElem hl
      exact h1.succ hx (hc (i + k) (by omega) (by omega) _ hx)
    · intro j b hj hb
      have hjl := (List.getElem?_eq_some_iff.1 hb).1
      exact h1 j b (by omega) hb
set_option maxHeartbeats 8000000 in
set_option maxRecDepth 1000000 in
theorem indexAny_short (s chars : ByteArray) (w : World) (h2 : 2 ≤ chars.size) (h8 : s.size ≤ 8) (hcs : chars.size < 4294967281) (hac : ∀ (j : Nat) b, chars.data.toList[j]? = some b → b.toNat < 128) :
    Calls Tryz.prog 37 #[.string s, .string chars] w fun e w' => e = .returned (.int .i64 (Lib.indexAny s.data.toList chars.data.toList)) ∧ Below w.heap.size w w' := by
  have HA : Aside (∀ (j : Nat) b, chars.data.toList[j]? = some b → b.toNat < 128) := hac
  clear hac
  have hemp : chars.toList.isEmpty = false := by
    rw [Lib.toList_data]
    cases h : chars.data.toList with
    | nil => have := Lib.size_eq chars; rw [h, List.length_nil] at this; omega
    | cons _ _ => rfl
  have hn1 : ((chars.size : Int) == 1) = false := beq_eq_false_iff_ne.2 (by omega)
  have h8z : decide ((8 : Int) < (s.size : Int)) = false := decide_eq_false (by omega)
  go_enter Tryz.func37, Tryz.ntmps37
  go_wp2_with (go_at_call 52; refine (Tryz.strings_shouldUseASCIISet _ _).mono ?_; rintro e w' ⟨rfl, rfl⟩; rw [h8z])
  have HB0 : Aside (Below w'.heap.size w' (w'.iter s 0)) := (Below.refl _ _).alloc (Nat.le_refl _) _
  have HI0 : Aside ((w'.iter s 0).heap[w'.heap.size]? = some (.stringIter s 0)) := World.iter_heap _ _ _
  generalize w'.iter s 0 = wi at *
  go_loopg [] s.size (fun g wx => ∃ i : Nat, s.size ≤ i + g ∧ i ≤ s.size ∧ Aside (wx.heap[w'.heap.size]? = some (.stringIter s i)) ∧ Aside (Below w'.heap.size w' wx) ∧ Aside (Lib.NoAny s.data.toList chars.data.toList i))
  case atStart => exact ⟨0, by omega, by omega, HI0, HB0, Lib.NoAny.zero _ _⟩
  case round =>
    clear HB0 HI0
    obtain ⟨i, hig, his, HI, HB, HN⟩ := hrel
    by_cases hi : i < s.size
    · obtain ⟨g, rfl⟩ : ∃ g, gk = g + 1 := ⟨gk - 1, by omega⟩
      have hnx := fun ty => Lib.run_next_any_at (P := Tryz.prog) wr w'.heap.size s i ty HI.out hi
      have HB2 : Aside (Below w'.heap.size w' (wr.iterAt w'.heap.size s (i + (Utf8.decode s i).2))) := below_iterAt HB.out _ (Nat.le_refl _) _ _
      have HI2 : Aside ((wr.iterAt w'.heap.size s (i + (Utf8.decode s i).2)).heap[w'.heap.size]? = some (.stringIter s (i + (Utf8.decode s i).2))) := Lib.iterAt_heap _ _ _ _ _ HI.out
      obtain ⟨W2, hW2⟩ : ∃ W2, wr.iterAt w'.heap.size s (i + (Utf8.decode s i).2) = W2 := ⟨_, rfl⟩
      rw [hW2] at hnx HB2 HI2
      clear hW2
      have hsz : w'.heap.size < W2.heap.size := by
        rcases Nat.lt_or_ge w'.heap.size W2.heap.size with h | h
        · exact h
        · have := HI2.out
          rw [Array.getElem?_eq_none h] at this
          exact absurd this (by simp)
      by_cases hx : 128 ≤ (s.get! i).toNat
      · obtain ⟨d1, d2, d3, d4, d5⟩ := dec_hi s i hi hx
        obtain ⟨c, hc⟩ : ∃ c, (Utf8.decode s i).1 = c := ⟨_, rfl⟩
        obtain ⟨k, hk⟩ : ∃ k, (Utf8.decode s i).2 = k := ⟨_, rfl⟩
        rw [hc] at hnx d3 d4
        rw [hk] at d1 d2 d5 HI2
        clear hc hk hx
        have HN2 : Aside (Lib.NoAny s.data.toList chars.data.toList (i + k)) := NoAny_step _ _ _ _ HN.out (fun j h1 h2 b hb => by
          have hjs : j < s.size := by omega
          rw [get_data s j hjs] at hb
          obtain rfl := Option.some.inj hb
          have hhi := d5 (j - i) (by omega)
          rw [show i + (j - i) = j by omega] at hhi
          rcases hcon : chars.data.toList.contains (s.get! j) with _ | _
          · rfl
          · exfalso
            obtain ⟨q, hq⟩ := List.mem_iff_getElem?.1 (by simpa using hcon : s.get! j ∈ chars.data.toList)
            have := HA.out q _ hq
            omega)
        clear d5 HN
        go_wp2_with (go_at_call 51; refine (indexRune_hi _ _ _ (by omega) (by omega) hcs HA.out).mono ?_; rintro e w3 ⟨rfl, hb3⟩)
        go_roundg g
        case measure => omega
        case rel => exact ⟨i + k, by omega, by omega, (by show w3.heap[_]? = _; rw [hb3.block _ hsz]; exact HI2.out), HB2.out.trans (hb3.mono (by omega)), HN2⟩
      · have h0 : Utf8.decode s i = ((s.get! i).toNat, 1) := by
          unfold Utf8.decode
          simp only [Nat.add_zero]
          rw [if_pos (by omega)]
        rw [h0] at hnx HI2
        obtain ⟨x, hxx⟩ : ∃ x : UInt8, s.get! i = x := ⟨_, rfl⟩
        have Hx : Aside (s.data.toList[i]? = some x) := by rw [← hxx]; exact get_data s i hi
        rw [hxx] at hnx hx
        clear hxx h0
        have hcon := Lib.contains_iff_indexByte chars.data.toList x
        have hback : ((x.toNat : Int)).toNat.toUInt8 = x := by simp
        cases hin : chars.data.toList.contains x
        · rw [hin] at hcon
          have hlt : ¬ ((0 : Int) ≤ Lib.indexByte chars.data.toList x) := of_decide_eq_false hcon.symm
          clear hcon
          go_wp2_with (go_at_call 51; refine (Tryz.strings_IndexRune_ascii _ _ _ (by omega) (by omega)).mono ?_; rintro e w3 ⟨rfl, hw⟩; rw [hw, hback])
          go_roundg g
          case measure => omega
          case rel => exact ⟨i + 1, by omega, by omega, HI2, HB2, HN.out.succ Hx.out hin⟩
        · rw [hin] at hcon
          have hge : (0 : Int) ≤ Lib.indexByte chars.data.toList x := of_decide_eq_true hcon.symm
          clear hcon
          go_wp2_with (go_at_call 51; refine (Tryz.strings_IndexRune_ascii _ _ _ (by omega) (by omega)).mono ?_; rintro e w3 ⟨rfl, hw⟩; rw [hw, hback])
          go_ret
          exact ⟨by rw [Lib.indexAny_hit HN.out Hx.out hin]; rfl, HB2.out⟩
    · obtain rfl : i = s.size := by omega
      have hnx := fun ty => Lib.run_next_end_at (P := Tryz.prog) wr w'.heap.size s s.size ty HI.out (by omega)
      go_wp2
      go_ret
      exact ⟨by rw [Lib.indexAny_none (by rw [← Lib.size_eq]; exact HN.out)]; rfl, HB.out⟩
end IndexAnyG
def strings_IndexAny.f (a0 a1 : ByteArray) : Option Int := if a0.size < 4294967281 ∧ 2 ≤ a1.size ∧ a1.size < 4294967281 ∧ (a1.data.toList.all fun b => decide (b.toNat < 128)) = true then some (Lib.indexAny a0.data.toList a1.data.toList) else none
set_option maxHeartbeats 2000000 in
theorem strings_IndexAny.calls (a0 a1 : ByteArray) (r : Int) (w : World) (hG : Glob w) (h : strings_IndexAny.f a0 a1 = some r) :
    Calls Tryz.prog 37 #[.string a0, .string a1] w fun e w' => e = .returned (.int .i64 r) ∧ Below w.heap.size w w' := by
  unfold strings_IndexAny.f at h
  split at h
  · rename_i hs
    obtain ⟨hs0, hs1, hs2, hs3⟩ := hs
    obtain rfl := Option.some.inj h
    have hac : ∀ (j : Nat) b, a1.data.toList[j]? = some b → b.toNat < 128 := fun j b hb => by
      have := List.all_eq_true.1 hs3 b (List.mem_iff_getElem?.2 ⟨j, hb⟩)
      simpa using this
    clear hs3
    rcases Nat.lt_or_ge 8 a0.size with h8 | h8
    · exact (Tryz.strings_IndexAny_long (fun w => by kernel_rfl) a0 a1 w hs1 h8 hs0 hs2 hac).mono fun e w' hh => ⟨hh.1, by rw [hh.2]; exact ((Below.refl _ _).alloc (Nat.le_refl _) _).alloc (by simp) _⟩
    · exact IndexAnyG.indexAny_short a0 a1 w hs1 h8 hs2 hac
  · exact absurd h (by simp)
end Go.Proofs.YtgdjfcmmpjcaaaaGreatDoor.Q
namespace Go.Proofs.YtgdjfcmmpjcaaaaGreatDoor.Q
open Go.RowKit Go.Proofs.YtgdjfcmmpjcaaaaGreatDoorW.PrintWords Go.Proofs.YtgdjfcmmpjcaaaaGreatDoorW.PrintLast Go.Proofs.YtgdjfcmmpjcaaaaGreatDoorW.Own Go.Proofs.YtgdjfcmmpjcaaaaGreatDoorW.PrintMore
attribute [local go_sem] max2_int min2_int max_two min_two max_three min_three max_four min_four   -- for this text's walks alone
set_option linter.unusedVariables false
set_option linter.unusedSimpArgs false
set_option maxHeartbeats 20000000
set_option maxRecDepth 100000
def strings_Cut.f (a0 a1 : ByteArray) : Option (ByteArray × ByteArray × Bool) := if a0.size < 4294967281 then some (⟨(Lib.cut a0.data.toList a1.data.toList).1.toArray⟩, ⟨(Lib.cut a0.data.toList a1.data.toList).2.1.toArray⟩, (Lib.cut a0.data.toList a1.data.toList).2.2) else none
theorem strings_Cut.calls (a0 a1 : ByteArray) (r1 r2 : ByteArray) (r3 : Bool) (w : World) (hG : Glob w) (h : strings_Cut.f a0 a1 = some (r1, r2, r3)) :
 Calls Tryz.prog 38 #[.string a0, .string a1] w fun e w' => e = .returned (.tuple #[.string r1, .string r2, .bool r3]) ∧ Drawn0 w w' := by
 unfold strings_Cut.f at h
 split at h
 ·rename_i hs
  simp only [Option.some.injEq, Prod.mk.injEq] at h
  obtain ⟨rfl, rfl, rfl⟩ := h
  obtain ⟨m, hm⟩ := hG
  exact (Tryz.strings_Cut a0 a1 m w hs hm).mono fun e w' hh => ⟨hh.1, ⟨hh.2⟩⟩
 ·exact absurd h (by simp)
def strings_Trim.f (a0 a1 : ByteArray) : Option ByteArray := if a1.size = 1 ∧ (a1.data.toList.getD 0 0).toNat < 128 ∧ a0.size ≤ 9223372036854775807 then some ⟨(Lib.trimB a0.data.toList (a1.data.toList.getD 0 0)).toArray⟩ else none
theorem strings_Trim.calls (a0 a1 : ByteArray) (r : ByteArray) (w : World) (hG : Glob w) (h : strings_Trim.f a0 a1 = some r) :
 Calls Tryz.prog 39 #[.string a0, .string a1] w fun e w' => e = .returned (.string r) ∧ Drawn0 w w' := by
 unfold strings_Trim.f at h
 split at h
 ·rename_i hs
  obtain rfl := Option.some.inj h
  obtain ⟨c, rfl⟩ : ∃ c : UInt8, a1 = ⟨#[c]⟩ := by
   rcases a1 with ⟨⟨l⟩⟩
   match l, hs.1 with
   | [c], _ => exact ⟨c, rfl⟩
  refine (Tryz.strings_Trim_one a0 c hs.2.1 w hs.2.2).mono fun e w' hh => ⟨hh.1, ?_⟩
  rcases hh.2 with rfl | rfl
  ·exact Drawn0.refl _
  ·exact (Drawn0.refl w).step 1
 ·exact absurd h (by simp)
def span_one.j0 : Nat → ByteArray → Int → ByteArray → ByteArray → Bool → ByteArray → ByteArray → Bool → Bool → Option (ByteArray × ByteArray × Bool × Bool × ByteArray × Bool)
 | 0, _, _, _, _, _, _, _, _, _ => none
 | k + 1, x0, x5, x7, x8, x9, x215000, x215001, x215002, x215003 => (strings_Trim.f x7 (⟨#[32]⟩ : ByteArray)).bind fun t218 => ((strings_Trim.f x8 (⟨#[32]⟩ : ByteArray)).bind fun t219 => (if x9 = true then (if 0 ≤ (wrap64 (x5 + 1)) then (if (wrap64 (x5 + 1)) ≤ (x0.size : Int) then ((span_may.f k t218 t219 x215002 x215003).bind fun t220 => (some (t218, t219, x215002, x215003, x0.extract ((wrap64 (x5 + 1)) : Int).toNat x0.size, t220))) else (none)) else (none)) else (if x215002 = true then (if x215003 = true then (if 0 ≤ (wrap64 (x5 + 1)) then (if (wrap64 (x5 + 1)) ≤ (x0.size : Int) then ((span_may.f k t218 t219 x215002 x215003).bind fun t221 => (some (t218, t219, x215002, x215003, x0.extract ((wrap64 (x5 + 1)) : Int).toNat x0.size, t221))) else (none)) else (none)) else (some ((⟨#[]⟩ : ByteArray), (⟨#[]⟩ : ByteArray), false, false, (⟨#[]⟩ : ByteArray), false))) else (some ((⟨#[]⟩ : ByteArray), (⟨#[]⟩ : ByteArray), false, false, (⟨#[]⟩ : ByteArray), false)))))
def span_one.f (k : Nat) (a0 : ByteArray) : Option (ByteArray × ByteArray × Bool × Bool × ByteArray × Bool) := (span_Is.f a0).bind fun t212 => (if t212 = true then ((strings_IndexAny.f a0 (⟨#[93, 41]⟩ : ByteArray)).bind fun t213 => (if t213 < 0 then (some ((⟨#[]⟩ : ByteArray), (⟨#[]⟩ : ByteArray), false, false, (⟨#[]⟩ : ByteArray), false)) else (if 0 < (a0.size : Int) then (if 0 ≤ t213 then (if t213 < (a0.size : Int) then (if 1 ≤ t213 then (if t213 ≤ (a0.size : Int) then ((strings_Cut.f (a0.extract 1 (t213 : Int).toNat) (⟨#[44]⟩ : ByteArray)).bind fun bt215 => (if bt215.2.2 = true then (span_one.j0 k a0 t213 bt215.1 bt215.2.1 bt215.2.2 (⟨#[]⟩ : ByteArray) (⟨#[]⟩ : ByteArray) ((bt a0 0) == 91) ((bt a0 t213) == 93)) else (span_one.j0 k a0 t213 bt215.1 bt215.1 bt215.2.2 (⟨#[]⟩ : ByteArray) (⟨#[]⟩ : ByteArray) ((bt a0 0) == 91) ((bt a0 t213) == 93)))) else (none)) else (none)) else (none)) else (none)) else (none)))) else (some ((⟨#[]⟩ : ByteArray), (⟨#[]⟩ : ByteArray), false, false, (⟨#[]⟩ : ByteArray), false)))
theorem span_one.mono_l : ∀ k, (∀ y0 y1 y2 y3 y4 y5 y6 y7 y8, LeO (span_one.j0 k y0 y1 y2 y3 y4 y5 y6 y7 y8) (span_one.j0 (k + 1) y0 y1 y2 y3 y4 y5 y6 y7 y8))
 | 0 => fun _ _ _ _ _ _ _ _ _ r h => by simp [span_one.j0] at h
 | k + 1 => by
  have ih0 := span_one.mono_l k
  ·intro y0 y1 y2 y3 y4 y5 y6 y7 y8
   unfold span_one.j0
   have m0 := @span_may.mono
   exact mo
theorem span_one.mono : ∀ a0 k, LeO (span_one.f k a0) (span_one.f (k + 1) a0) := by
 intro a0 k
 have ih0 := span_one.mono_l k
 unfold span_one.f
 have m0 := @span_may.mono
 exact mo
def span_one.T6 : Bool × List (List Nat × List Nat) := (true, [([], []), ([0], [0]), ([1], [1]), ([], []), ([], []), ([3, 4], [3, 4]), ([5], [5]), ([2, 6], [2, 6]), ([], []), ([8, 7, 0, 1, 2, 3, 4, 5, 6, 7, 8], [7, 8])])
def span_one.B6 : List Nat := [0, 1, 3, 0, 0, 24, 56, 127, 0, 511]
theorem span_one.tab6 : rtab .any (opsOf Tryz.f21 6) = span_one.T6 := by kernel_rfl
theorem span_one.bits6 : waitsOk span_one.T6.2 span_one.B6 = true := by kernel_rfl
def span_one.T13 : Bool × List (List Nat × List Nat) := (true, [([], []), ([], []), ([], []), ([2], [2]), ([1, 3], [1, 3]), ([], []), ([5], [5]), ([0, 6, 0], [0]), ([4, 7, 0, 1, 2, 3, 4, 7], [4]), ([6, 8, 0, 1, 2, 3, 4, 5, 6, 7, 8], [6])])
def span_one.B13 : List Nat := [0, 0, 0, 4, 14, 0, 32, 97, 255, 511]
theorem span_one.tab13 : rtab .any (opsOf Tryz.f21 13) = span_one.T13 := by kernel_rfl
theorem span_one.bits13 : waitsOk span_one.T13.2 span_one.B13 = true := by kernel_rfl
theorem span_one.calls (k : Nat) (a0 : ByteArray) (r1 : ByteArray) (r2 : ByteArray) (r3 : Bool) (r4 : Bool) (r5 : ByteArray) (r6 : Bool) (w : World) (hG : Glob w) (h : span_one.f k a0 = some (r1, r2, r3, r4, r5, r6)) :
 Calls Tryz.prog 21 #[.string a0] w fun e w' => e = .returned (.tuple #[.agg #[.string r1, .string r2, .bool r3, .bool r4], .string r5, .bool r6]) ∧ Below w.heap.size w w' := by
 have hu30 := Tryz.underlying30
 have HG := Aside0.mk hG
 clear hG
 have HB := Aside0.mk (Below.refl w.heap.size w)
 have H : ((span_Is.f a0).bind fun t212 => (if t212 = true then ((strings_IndexAny.f a0 (⟨#[93, 41]⟩ : ByteArray)).bind fun t213 => (if t213 < 0 then (some ((⟨#[]⟩ : ByteArray), (⟨#[]⟩ : ByteArray), false, false, (⟨#[]⟩ : ByteArray), false)) else (if 0 < (a0.size : Int) then (if 0 ≤ t213 then (if t213 < (a0.size : Int) then (if 1 ≤ t213 then (if t213 ≤ (a0.size : Int) then ((strings_Cut.f (a0.extract 1 (t213 : Int).toNat) (⟨#[44]⟩ : ByteArray)).bind fun bt215 => (if bt215.2.2 = true then (span_one.j0 k a0 t213 bt215.1 bt215.2.1 bt215.2.2 (⟨#[]⟩ : ByteArray) (⟨#[]⟩ : ByteArray) ((bt a0 0) == 91) ((bt a0 t213) == 93)) else (span_one.j0 k a0 t213 bt215.1 bt215.1 bt215.2.2 (⟨#[]⟩ : ByteArray) (⟨#[]⟩ : ByteArray) ((bt a0 0) == 91) ((bt a0 t213) == 93)))) else (none)) else (none)) else (none)) else (none)) else (none)))) else (some ((⟨#[]⟩ : ByteArray), (⟨#[]⟩ : ByteArray), false, false, (⟨#[]⟩ : ByteArray), false)))) = some (r1, r2, r3, r4, r5, r6) := h
 clear h
 replace H := bi H
 obtain ⟨t212, A20, H⟩ := H
 try dsimp only at H
 have A2 := Aside0.mk A20
 clear A20
 by_cases c3 : t212 = true
 rotate_left
 ·replace c3 := Bool.eq_false_iff.mpr c3
  subst c3
  replace H : (some ((⟨#[]⟩ : ByteArray), (⟨#[]⟩ : ByteArray), false, false, (⟨#[]⟩ : ByteArray), false)) = some (r1, r2, r3, r4, r5, r6) := by rw [if_neg nF] at H; exact H
  simp only [Option.some.injEq, Prod.mk.injEq] at H
  obtain ⟨rfl, rfl, rfl, rfl, rfl, rfl⟩ := H
  go_enter Tryz.func21, Tryz.ntmps21
  go_wp2_with (first | (refine be 2 #[.string (⟨#[]⟩ : ByteArray), .string (⟨#[]⟩ : ByteArray), .bool false, .bool false] 30 ?_; intro gb211 hg w64 hbox hb; have BK211 := Aside0.mk (hbox); have GW211 := gW hg; have GE211 := gW hg; replace HB := sB hb; clear hb hbox hg) | ((with_reducible refine gate_callee (f := 10) rfl ?_); refine goesL_ (some 11) rfl rfl Tryz.func10 (by kernel_rfl) rfl #[.string a0] rfl (by (try simp only [List.map_toArray, List.map_cons, List.map_nil]); first | done | rfl | (simp only [List.length_drop, List.length_take]; rfl) | (rw [show ((bt a0 t213) == 93) = true by assumption]; rfl) | (rw [show ((bt a0 t213) == 93) = true by assumption, show ((bt a0 0) == 91) = true by assumption]; rfl)) ?_; (with_reducible refine (span_Is.calls a0 false _ (gS HG) A2.out).mono ?_); rintro e w' ⟨rfl, ⟨nd, rfl⟩⟩; refine ⟨_, rfl, ?_⟩; (try ((try simp only [World.drewN_drewN]); (first | generalize hq_ : World.drewN w64 _ = w64 | (rw [drewN_self w64]; generalize hq_ : World.drewN w64 _ = w64)); have n0_ : Aside0 (w64.heap[gb211]? = some (.cells #[.string (⟨#[]⟩ : ByteArray), .string (⟨#[]⟩ : ByteArray), .bool false, .bool false] 30 (0, 0))) := ⟨by rw [← hq_]; exact (bK BK211)⟩; have n1_ : Aside0 (Below w.heap.size w w64) := ⟨by rw [← hq_]; exact bG⟩; clear BK211 HB hq_; have BK211 := n0_; have HB := n1_; clear n0_ n1_)); have hcz65_0 : w64.cell? ⟨gb211, 0, none⟩ = some (.string (⟨#[]⟩ : ByteArray)) := (blk_cell BK211.out 0).trans rfl; have hcz65_1 : w64.cell? ⟨gb211, 1, none⟩ = some (.string (⟨#[]⟩ : ByteArray)) := (blk_cell BK211.out 1).trans rfl; have hcz65_2 : w64.cell? ⟨gb211, 2, none⟩ = some (.bool false) := (blk_cell BK211.out 2).trans rfl; have hcz65_3 : w64.cell? ⟨gb211, 3, none⟩ = some (.bool false) := (blk_cell BK211.out 3).trans rfl; have hfz65_0 := blk_frozen BK211.out 0; have hfz65_1 := blk_frozen BK211.out 1; have hfz65_2 := blk_frozen BK211.out 2; have hfz65_3 := blk_frozen BK211.out 3))
  refine bodyPost_ret (results_ctt rfl _ _ gb211 30 #[.string (⟨#[]⟩ : ByteArray), .string (⟨#[]⟩ : ByteArray), .bool false, .bool false] (0, 0) _ rfl (bP BK211) Tryz.underlying30 rfl (by kernel_rfl)) rfl ?_
  exact ⟨eA, bG⟩
 subst c3
 replace H : ((strings_IndexAny.f a0 (⟨#[93, 41]⟩ : ByteArray)).bind fun t213 => (if t213 < 0 then (some ((⟨#[]⟩ : ByteArray), (⟨#[]⟩ : ByteArray), false, false, (⟨#[]⟩ : ByteArray), false)) else (if 0 < (a0.size : Int) then (if 0 ≤ t213 then (if t213 < (a0.size : Int) then (if 1 ≤ t213 then (if t213 ≤ (a0.size : Int) then ((strings_Cut.f (a0.extract 1 (t213 : Int).toNat) (⟨#[44]⟩ : ByteArray)).bind fun bt215 => (if bt215.2.2 = true then (span_one.j0 k a0 t213 bt215.1 bt215.2.1 bt215.2.2 (⟨#[]⟩ : ByteArray) (⟨#[]⟩ : ByteArray) ((bt a0 0) == 91) ((bt a0 t213) == 93)) else (span_one.j0 k a0 t213 bt215.1 bt215.1 bt215.2.2 (⟨#[]⟩ : ByteArray) (⟨#[]⟩ : ByteArray) ((bt a0 0) == 91) ((bt a0 t213) == 93)))) else (none)) else (none)) else (none)) else (none)) else (none)))) = some (r1, r2, r3, r4, r5, r6) := by rw [if_pos rfl] at H; exact H
 replace H := bi H
 obtain ⟨t213, A40, H⟩ := H
 try dsimp only at H
 have A4 := Aside0.mk A40
 clear A40
 by_cases c5 : t213 < 0
 ·rw [if_pos c5] at H
  have c5b0 := dT c5
  clear c5
  simp only [Option.some.injEq, Prod.mk.injEq] at H
  obtain ⟨rfl, rfl, rfl, rfl, rfl, rfl⟩ := H
  go_enter Tryz.func21, Tryz.ntmps21
  go_wp2_with (first | (refine be 2 #[.string (⟨#[]⟩ : ByteArray), .string (⟨#[]⟩ : ByteArray), .bool false, .bool false] 30 ?_; intro gb211 hg w6 hbox hb; have BK211 := Aside0.mk (hbox); have GW211 := gW hg; have GE211 := gW hg; replace HB := sB hb; clear hb hbox hg) | ((with_reducible refine gate_callee (f := 10) rfl ?_); refine goesL_ (some 11) rfl rfl Tryz.func10 (by kernel_rfl) rfl #[.string a0] rfl (by (try simp only [List.map_toArray, List.map_cons, List.map_nil]); first | done | rfl | (simp only [List.length_drop, List.length_take]; rfl) | (rw [show ((bt a0 t213) == 93) = true by assumption]; rfl) | (rw [show ((bt a0 t213) == 93) = true by assumption, show ((bt a0 0) == 91) = true by assumption]; rfl)) ?_; (with_reducible refine (span_Is.calls a0 true _ (gS HG) A2.out).mono ?_); rintro e w' ⟨rfl, ⟨nd, rfl⟩⟩; refine ⟨_, rfl, ?_⟩; (try ((try simp only [World.drewN_drewN]); (first | generalize hq_ : World.drewN w6 _ = w6 | (rw [drewN_self w6]; generalize hq_ : World.drewN w6 _ = w6)); have n0_ : Aside0 (w6.heap[gb211]? = some (.cells #[.string (⟨#[]⟩ : ByteArray), .string (⟨#[]⟩ : ByteArray), .bool false, .bool false] 30 (0, 0))) := ⟨by rw [← hq_]; exact (bK BK211)⟩; have n1_ : Aside0 (Below w.heap.size w w6) := ⟨by rw [← hq_]; exact bG⟩; clear BK211 HB hq_; have BK211 := n0_; have HB := n1_; clear n0_ n1_))) | ((with_reducible refine gate_callee (f := 37) rfl ?_); refine goesL_ (some 15) rfl rfl Tryz.func37 (by kernel_rfl) rfl #[.string a0, .string (⟨#[93, 41]⟩ : ByteArray)] rfl (by (try simp only [List.map_toArray, List.map_cons, List.map_nil]); first | done | rfl | (simp only [List.length_drop, List.length_take]; rfl) | (rw [show ((bt a0 t213) == 93) = true by assumption]; rfl) | (rw [show ((bt a0 t213) == 93) = true by assumption, show ((bt a0 0) == 91) = true by assumption]; rfl)) ?_; (with_reducible refine (strings_IndexAny.calls a0 (⟨#[93, 41]⟩ : ByteArray) t213 _ (gS HG) A4.out).mono ?_); rintro e w7 ⟨rfl, hb⟩; refine ⟨_, rfl, ?_⟩; replace BK211 := kB BK211 hb; replace HB := sB hb; (try clear hb); have hcz8_0 : w7.cell? ⟨gb211, 0, none⟩ = some (.string (⟨#[]⟩ : ByteArray)) := (blk_cell BK211.out 0).trans rfl; have hcz8_1 : w7.cell? ⟨gb211, 1, none⟩ = some (.string (⟨#[]⟩ : ByteArray)) := (blk_cell BK211.out 1).trans rfl; have hcz8_2 : w7.cell? ⟨gb211, 2, none⟩ = some (.bool false) := (blk_cell BK211.out 2).trans rfl; have hcz8_3 : w7.cell? ⟨gb211, 3, none⟩ = some (.bool false) := (blk_cell BK211.out 3).trans rfl; have hfz8_0 := blk_frozen BK211.out 0; have hfz8_1 := blk_frozen BK211.out 1; have hfz8_2 := blk_frozen BK211.out 2; have hfz8_3 := blk_frozen BK211.out 3))
  refine bodyPost_ret (results_ctt rfl _ _ gb211 30 #[.string (⟨#[]⟩ : ByteArray), .string (⟨#[]⟩ : ByteArray), .bool false, .bool false] (0, 0) _ rfl (bP BK211) Tryz.underlying30 rfl (by kernel_rfl)) rfl ?_
  exact ⟨eA, bG⟩
 rw [if_neg c5] at H
 have c5b0 := dF c5
 clear c5
 obtain ⟨c9, H⟩ := gp H
 have c9b0 := dT c9
 have c9b1 : decide (0 < a0.size) = true := decide_eq_true (by omega)
 clear c9
 obtain ⟨c11, H⟩ := gp H
 have c11b0 := dT c11
 clear c11
 obtain ⟨c12, H⟩ := gp H
 have c12b0 := dT c12
 clear c12
 obtain ⟨c14, H⟩ := gp H
 have c14b0 := eq_true c14
 have c14b1 := dT c14
 clear c14
 obtain ⟨c15, H⟩ := gp H
 have c15b0 := eq_true c15
 have c15b1 := dT c15
 clear c15
 replace H := bi H
 obtain ⟨⟨t215, t216, t217⟩, A160, H⟩ := H
 try dsimp only at H
 have A16 := Aside0.mk A160
 clear A160
 have HC17 := Aside0.mk H
 clear H
 go_enter Tryz.func21, Tryz.ntmps21
 try go_wp2_with (first | (refine be 2 #[.string (⟨#[]⟩ : ByteArray), .string (⟨#[]⟩ : ByteArray), .bool false, .bool false] 30 ?_; intro gb211 hg w18 hbox hb; have BK211 := Aside0.mk (hbox); have GW211 := gW hg; have GE211 := gW hg; replace HB := sB hb; clear hb hbox hg) | ((with_reducible refine gate_callee (f := 10) rfl ?_); refine goesL_ (some 11) rfl rfl Tryz.func10 (by kernel_rfl) rfl #[.string a0] rfl (by (try simp only [List.map_toArray, List.map_cons, List.map_nil]); first | done | rfl | (simp only [List.length_drop, List.length_take]; rfl) | (rw [show ((bt a0 t213) == 93) = true by assumption]; rfl) | (rw [show ((bt a0 t213) == 93) = true by assumption, show ((bt a0 0) == 91) = true by assumption]; rfl)) ?_; (with_reducible refine (span_Is.calls a0 true _ (gS HG) A2.out).mono ?_); rintro e w' ⟨rfl, ⟨nd, rfl⟩⟩; refine ⟨_, rfl, ?_⟩; (try ((try simp only [World.drewN_drewN]); (first | generalize hq_ : World.drewN w18 _ = w18 | (rw [drewN_self w18]; generalize hq_ : World.drewN w18 _ = w18)); have n0_ : Aside0 (w18.heap[gb211]? = some (.cells #[.string (⟨#[]⟩ : ByteArray), .string (⟨#[]⟩ : ByteArray), .bool false, .bool false] 30 (0, 0))) := ⟨by rw [← hq_]; exact (bK BK211)⟩; have n1_ : Aside0 (Below w.heap.size w w18) := ⟨by rw [← hq_]; exact bG⟩; clear BK211 HB hq_; have BK211 := n0_; have HB := n1_; clear n0_ n1_))) | ((with_reducible refine gate_callee (f := 37) rfl ?_); refine goesL_ (some 15) rfl rfl Tryz.func37 (by kernel_rfl) rfl #[.string a0, .string (⟨#[93, 41]⟩ : ByteArray)] rfl (by (try simp only [List.map_toArray, List.map_cons, List.map_nil]); first | done | rfl | (simp only [List.length_drop, List.length_take]; rfl) | (rw [show ((bt a0 t213) == 93) = true by assumption]; rfl) | (rw [show ((bt a0 t213) == 93) = true by assumption, show ((bt a0 0) == 91) = true by assumption]; rfl)) ?_; (with_reducible refine (strings_IndexAny.calls a0 (⟨#[93, 41]⟩ : ByteArray) t213 _ (gS HG) A4.out).mono ?_); rintro e w19 ⟨rfl, hb⟩; refine ⟨_, rfl, ?_⟩; replace BK211 := kB BK211 hb; replace HB := sB hb; (try clear hb)))
 replace BK211 := Aside0.mk (blk_drew BK211.out)
 replace HB := Aside0.mk (below_drew1 HB.out)
 have p10 : 0 ≤ (0 : Int) := (by omega)
 have q10 : 0 < a0.size := (by have : (0 : Int) < (a0.size : Int) := dA; omega)
 have hx10 : ∀ h : 0 < a0.size, ((a0[0]'h).toNat : Int) = bt a0 0 := bt_at a0 0
 clear p10
 have qi10 : (0 < (a0.size : Int)) = True := eq_true (dA)
 replace q10 := eq_true q10
 have p13 : 0 ≤ (t213 : Int) := dA
 have q13 : t213 < (a0.size : Int) := dA
 have hx13 := bt_at a0 t213
 replace p13 := eq_true p13
 replace q13 := eq_true q13
 refine start_ (n := 10) (S := fun w' => True) (ds := []) #[false, false, false, false, false, false, false, false, false, false] (by kernel_rfl) rfl rfl trivial (fun hHeld => ?_); refine with_tabW span_one.tab6 span_one.bits6 (fun HT_ HW_ => ?_)
 generalize w19.drew = w20 at BK211 HB hHeld ⊢
 refine pz 0 (some 19) HT_ ?_
 refine pz 3 (some 22) HT_ ?_
 refine pz 4 (some 23) HT_ ?_
 refine tk 1 (some 20) HT_ HW_ hHeld ?_
 refine pz 2 (some 21) HT_ ?_
 refine tk 5 (some 24) HT_ HW_ hHeld ?_
 refine pz 6 (some 25) HT_ ?_
 refine pz 7 (some 26) HT_ ?_
 refine on 8 (some 6) HT_ (fun K hK => ?_)
 refine bs 6 #[.string (⟨#[]⟩ : ByteArray), .string (⟨#[]⟩ : ByteArray), .bool false, .bool false] 30 ?_
 intro gb214 hg w21 hbox hb
 have BK214 := Aside0.mk (hbox)
 have GW214 := gW hg
 have GE214 := gW hg
 replace HB := sB hb
 have NB211_214 := nL BK211 hg
 have NB214_211 := nG BK211 hg
 replace BK211 := kB BK211 hb
 clear hb hbox hg
 refine hK.out _ _ trivial (fun hHeld => ?_)
 clear hK K
 refine nz (some 6) ?_
 refine on 9 (none) HT_ (fun K hK => ?_)
 have hs22 : w21.cell? ⟨gb214, 0, none⟩ = some (.string (⟨#[]⟩ : ByteArray)) := (blk_cell BK214.out 0).trans rfl
 have hfs22 := blk_frozen BK214.out 0
 have hns22_0 := NB211_214.out
 have hms22_0 := NB214_211.out
 have hs23 : w21.cell? ⟨gb214, 1, none⟩ = some (.string (⟨#[]⟩ : ByteArray)) := (blk_cell BK214.out 1).trans rfl
 have hfs23 := blk_frozen BK214.out 1
 have hns23_0 := NB211_214.out
 have hms23_0 := NB214_211.out
 have hs24 : w21.cell? ⟨gb214, 2, none⟩ = some (.bool false) := (blk_cell BK214.out 2).trans rfl
 have hfs24 := blk_frozen BK214.out 2
 have hns24_0 := NB211_214.out
 have hms24_0 := NB214_211.out
 have hs25 : w21.cell? ⟨gb214, 3, none⟩ = some (.bool false) := (blk_cell BK214.out 3).trans rfl
 have hfs25 := blk_frozen BK214.out 3
 have hns25_0 := NB211_214.out
 have hms25_0 := NB214_211.out
 refine skip_ (w1 := ?_) (by rfl) rfl ?_ ?_
 rotate_left
 ·go_simp
  rfl
 refine hK.out _ _ trivial (fun hHeld => ?_)
 clear hK K
 refine done_ (done_of HT_.out (by kernel_rfl)) ?_
 go_upto_if 36 with (first | ((with_reducible refine gate_callee (f := 38) rfl ?_); refine goesL_ (some 31) rfl rfl Tryz.func38 (by kernel_rfl) rfl #[.string (a0.extract 1 (t213 : Int).toNat), .string (⟨#[44]⟩ : ByteArray)] rfl (by (try simp only [List.map_toArray, List.map_cons, List.map_nil]); first | done | rfl | (simp only [List.length_drop, List.length_take]; rfl) | (rw [show ((bt a0 t213) == 93) = true by assumption]; rfl) | (rw [show ((bt a0 t213) == 93) = true by assumption, show ((bt a0 0) == 91) = true by assumption]; rfl)) ?_; (with_reducible refine (strings_Cut.calls (a0.extract 1 (t213 : Int).toNat) (⟨#[44]⟩ : ByteArray) t215 t216 t217 _ (gS HG) A16.out).mono ?_); rintro e w' ⟨rfl, ⟨nd, rfl⟩⟩; refine ⟨_, rfl, ?_⟩))
 (try simp only [Act.put, List.setIfInBounds_toArray, List.set_cons_zero, List.set_cons_succ])
 go_cut [8] (fun v8 wc => ∃ (kq : Nat) (x8_16 : ByteArray), v8 = .string x8_16 ∧ Aside0 (span_one.j0 kq a0 t213 t215 x8_16 t217 (⟨#[]⟩ : ByteArray) (⟨#[]⟩ : ByteArray) ((bt a0 0) == 91) ((bt a0 t213) == 93) = some (r1, r2, r3, r4, r5, r6)) ∧ Aside0 (kq ≤ k) ∧ Aside0 (wc.heap[gb211]? = some (.cells #[.string (⟨#[]⟩ : ByteArray), .string (⟨#[]⟩ : ByteArray), .bool false, .bool false] 30 (0, 0))) ∧ Aside0 (wc.heap[gb214]? = some (.cells #[.string (⟨#[]⟩ : ByteArray), .string (⟨#[]⟩ : ByteArray), .bool ((bt a0 0) == 91), .bool ((bt a0 t213) == 93)] 30 (0, 0))) ∧ Aside0 (Below w.heap.size w wc))
 case first =>
  have H := HC17.out
  clear HC17
  by_cases c26 : t217 = true
  ·subst c26
   replace H : (span_one.j0 k a0 t213 t215 t216 true (⟨#[]⟩ : ByteArray) (⟨#[]⟩ : ByteArray) ((bt a0 0) == 91) ((bt a0 t213) == 93)) = some (r1, r2, r3, r4, r5, r6) := by rw [if_pos rfl] at H; exact H
   have H' := Aside0.mk H
   clear H
   go_wp2
   go_meet
   case rel => exact ⟨_, (t216), cA, H', ⟨by first | omega | exact Nat.le_refl _⟩, ⟨by (with_reducible repeat (first | refine blk_drewN ?_ _ | refine blk_drew ?_ | refine blk_alloc ?_ _)); refine blk_far ?_ NB211_214.out _; (with_reducible repeat (first | refine blk_drewN ?_ _ | refine blk_drew ?_ | refine blk_alloc ?_ _)); refine blk_far ?_ NB211_214.out _; (with_reducible repeat (first | refine blk_drewN ?_ _ | refine blk_drew ?_ | refine blk_alloc ?_ _)); refine blk_far ?_ NB211_214.out _; (with_reducible repeat (first | refine blk_drewN ?_ _ | refine blk_drew ?_ | refine blk_alloc ?_ _)); refine blk_far ?_ NB211_214.out _; (with_reducible repeat (first | refine blk_drewN ?_ _ | refine blk_drew ?_ | refine blk_alloc ?_ _)); exact BK211.out⟩, ⟨bP BK214⟩, ⟨bG⟩⟩
  replace c26 := Bool.eq_false_iff.mpr c26
  subst c26
  replace H : (span_one.j0 k a0 t213 t215 t215 false (⟨#[]⟩ : ByteArray) (⟨#[]⟩ : ByteArray) ((bt a0 0) == 91) ((bt a0 t213) == 93)) = some (r1, r2, r3, r4, r5, r6) := by rw [if_neg nF] at H; exact H
  have H' := Aside0.mk H
  clear H
  go_wp2
  go_meet
  case rel => exact ⟨_, (t215), cA, H', ⟨by first | omega | exact Nat.le_refl _⟩, ⟨by (with_reducible repeat (first | refine blk_drewN ?_ _ | refine blk_drew ?_ | refine blk_alloc ?_ _)); refine blk_far ?_ NB211_214.out _; (with_reducible repeat (first | refine blk_drewN ?_ _ | refine blk_drew ?_ | refine blk_alloc ?_ _)); refine blk_far ?_ NB211_214.out _; (with_reducible repeat (first | refine blk_drewN ?_ _ | refine blk_drew ?_ | refine blk_alloc ?_ _)); refine blk_far ?_ NB211_214.out _; (with_reducible repeat (first | refine blk_drewN ?_ _ | refine blk_drew ?_ | refine blk_alloc ?_ _)); refine blk_far ?_ NB211_214.out _; (with_reducible repeat (first | refine blk_drewN ?_ _ | refine blk_drew ?_ | refine blk_alloc ?_ _)); exact BK211.out⟩, ⟨bP BK214⟩, ⟨bG⟩⟩
 clear HC17
 try clear c1
 try clear p1
 try clear q1
 try clear hx1
 try clear qi1
 try clear c2
 try clear p2
 try clear c3
 try clear c5
 try clear c5b0
 try clear c9
 try clear c9b0
 try clear c9b1
 try clear c10
 try clear p10
 try clear q10
 try clear hx10
 try clear qi10
 try clear c11
 try clear c11b0
 try clear c12
 try clear c12b0
 try clear p13
 try clear q13
 try clear hx13
 try clear c14
 try clear c14b0
 try clear c14b1
 try clear c15
 try clear c15b0
 try clear c15b1
 try clear c21
 try clear c26
 try clear hcz8_0
 try clear hcz8_1
 try clear hcz8_2
 try clear hcz8_3
 try clear hfz8_0
 try clear hfz8_1
 try clear hfz8_2
 try clear hfz8_3
 try clear p10
 try clear p13
 try clear q10
 try clear q13
 obtain ⟨kq, x8_16, rfl, HA, HJ16, BK211, BK214, HB⟩ := hcut
 cases kq with
 | zero => exact absurd HA.out (by simp [span_one.j0])
 | succ kj16 =>
  have H := HA.out
  clear HA
  simp only [span_one.j0] at H
  (try simp only [toList_lit] at H)
  replace H := bi H
  obtain ⟨t218, A270, H⟩ := H
  try dsimp only at H
  have A27 := Aside0.mk A270
  clear A270
  replace H := bi H
  obtain ⟨t219, A280, H⟩ := H
  try dsimp only at H
  have A28 := Aside0.mk A280
  clear A280
  by_cases c29 : t217 = true
  ·subst c29
   replace H : (if 0 ≤ (wrap64 (t213 + 1)) then (if (wrap64 (t213 + 1)) ≤ (a0.size : Int) then ((span_may.f kj16 t218 t219 ((bt a0 0) == 91) ((bt a0 t213) == 93)).bind fun t220 => (some (t218, t219, ((bt a0 0) == 91), ((bt a0 t213) == 93), a0.extract ((wrap64 (t213 + 1)) : Int).toNat a0.size, t220))) else (none)) else (none)) = some (r1, r2, r3, r4, r5, r6) := by rw [if_pos rfl] at H; exact H
   obtain ⟨ji30, hji30⟩ : ∃ j_ : Int, (wrap64 (t213 + 1)) = j_ := ⟨_, rfl⟩
   rw [hji30] at H
   (try rw [hji30] at A27)
   (try rw [hji30] at A28)
   have hji30w : (IntKind.i64.wrap (t213 + 1)) = ji30 := (i64_w _).trans hji30
   obtain ⟨c31, H⟩ := gp H
   have c31b0 := eq_true c31
   have c31b1 := dT c31
   clear c31
   obtain ⟨c32, H⟩ := gp H
   have c32b0 := eq_true c32
   have c32b1 := dT c32
   clear c32
   replace H := bi H
   obtain ⟨t220, A330, H⟩ := H
   try dsimp only at H
   have A33 := Aside0.mk A330
   clear A330
   simp only [Option.some.injEq, Prod.mk.injEq] at H
   obtain ⟨rfl, rfl, rfl, rfl, rfl, rfl⟩ := H
   try go_wp2_with (first | ((with_reducible refine gate_callee (f := 39) rfl ?_); refine goesL_ (some 39) rfl rfl Tryz.func39 (by kernel_rfl) rfl #[.string t215, .string (⟨#[32]⟩ : ByteArray)] rfl (by (try simp only [List.map_toArray, List.map_cons, List.map_nil]); first | done | rfl | (simp only [List.length_drop, List.length_take]; rfl) | (rw [show ((bt a0 t213) == 93) = true by assumption]; rfl) | (rw [show ((bt a0 t213) == 93) = true by assumption, show ((bt a0 0) == 91) = true by assumption]; rfl)) ?_; (with_reducible refine (strings_Trim.calls t215 (⟨#[32]⟩ : ByteArray) t218 _ (gS HG) A27.out).mono ?_); rintro e w' ⟨rfl, ⟨nd, rfl⟩⟩; refine ⟨_, rfl, ?_⟩; (try (rw [drewN_self wc]; generalize hq_ : World.drewN wc _ = wc; have n0_ : Aside0 (wc.heap[gb211]? = some (.cells #[.string (⟨#[]⟩ : ByteArray), .string (⟨#[]⟩ : ByteArray), .bool false, .bool false] 30 (0, 0))) := ⟨by rw [← hq_]; exact (bK BK211)⟩; have n1_ : Aside0 (wc.heap[gb214]? = some (.cells #[.string (⟨#[]⟩ : ByteArray), .string (⟨#[]⟩ : ByteArray), .bool ((bt a0 0) == 91), .bool ((bt a0 t213) == 93)] 30 (0, 0))) := ⟨by rw [← hq_]; exact (bK BK214)⟩; have n2_ : Aside0 (Below w.heap.size w wc) := ⟨by rw [← hq_]; exact bG⟩; clear BK211 BK214 HB hq_; have BK211 := n0_; have BK214 := n1_; have HB := n2_; clear n0_ n1_ n2_))) | ((with_reducible refine gate_callee (f := 39) rfl ?_); refine goesL_ (some 41) rfl rfl Tryz.func39 (by kernel_rfl) rfl #[.string x8_16, .string (⟨#[32]⟩ : ByteArray)] rfl (by (try simp only [List.map_toArray, List.map_cons, List.map_nil]); first | done | rfl | (simp only [List.length_drop, List.length_take]; rfl) | (rw [show ((bt a0 t213) == 93) = true by assumption]; rfl) | (rw [show ((bt a0 t213) == 93) = true by assumption, show ((bt a0 0) == 91) = true by assumption]; rfl)) ?_; (with_reducible refine (strings_Trim.calls x8_16 (⟨#[32]⟩ : ByteArray) t219 _ (gS HG) A28.out).mono ?_); rintro e w' ⟨rfl, ⟨nd, rfl⟩⟩; refine ⟨_, rfl, ?_⟩; (try (rw [drewN_self wc]; generalize hq_ : World.drewN wc _ = wc; have n0_ : Aside0 (wc.heap[gb211]? = some (.cells #[.string (⟨#[]⟩ : ByteArray), .string (⟨#[]⟩ : ByteArray), .bool false, .bool false] 30 (0, 0))) := ⟨by rw [← hq_]; exact (bK BK211)⟩; have n1_ : Aside0 (wc.heap[gb214]? = some (.cells #[.string (⟨#[]⟩ : ByteArray), .string (⟨#[]⟩ : ByteArray), .bool ((bt a0 0) == 91), .bool ((bt a0 t213) == 93)] 30 (0, 0))) := ⟨by rw [← hq_]; exact (bK BK214)⟩; have n2_ : Aside0 (Below w.heap.size w wc) := ⟨by rw [← hq_]; exact bG⟩; clear BK211 BK214 HB hq_; have BK211 := n0_; have BK214 := n1_; have HB := n2_; clear n0_ n1_ n2_)); have hnb34 := NB214_211.out; have hnc34 := NB211_214.out; have hcz35_0 : wc.cell? ⟨gb214, 0, none⟩ = some (.string (⟨#[]⟩ : ByteArray)) := (blk_cell BK214.out 0).trans rfl; have hcz35_1 : wc.cell? ⟨gb214, 1, none⟩ = some (.string (⟨#[]⟩ : ByteArray)) := (blk_cell BK214.out 1).trans rfl; have hcz35_2 : wc.cell? ⟨gb214, 2, none⟩ = some (.bool ((bt a0 0) == 91)) := (blk_cell BK214.out 2).trans rfl; have hcz35_3 : wc.cell? ⟨gb214, 3, none⟩ = some (.bool ((bt a0 t213) == 93)) := (blk_cell BK214.out 3).trans rfl; have hfz35_0 := blk_frozen BK214.out 0; have hfz35_1 := blk_frozen BK214.out 1; have hfz35_2 := blk_frozen BK214.out 2; have hfz35_3 := blk_frozen BK214.out 3))
   have n0_ : Aside0 (((wc.setCell ⟨gb214, 0, none⟩ (.string t218)).setCell ⟨gb214, 1, none⟩ (.string t219)).heap[gb211]? = some (.cells #[.string (⟨#[]⟩ : ByteArray), .string (⟨#[]⟩ : ByteArray), .bool false, .bool false] 30 (0, 0))) := ⟨by (with_reducible repeat (first | refine blk_drewN ?_ _ | refine blk_drew ?_ | refine blk_alloc ?_ _)); refine blk_far ?_ NB211_214.out _; (with_reducible repeat (first | refine blk_drewN ?_ _ | refine blk_drew ?_ | refine blk_alloc ?_ _)); refine blk_far ?_ NB211_214.out _; (with_reducible repeat (first | refine blk_drewN ?_ _ | refine blk_drew ?_ | refine blk_alloc ?_ _)); exact BK211.out⟩
   have n1_ : Aside0 (((wc.setCell ⟨gb214, 0, none⟩ (.string t218)).setCell ⟨gb214, 1, none⟩ (.string t219)).heap[gb214]? = some (.cells #[.string t218, .string t219, .bool ((bt a0 0) == 91), .bool ((bt a0 t213) == 93)] 30 (0, 0))) := ⟨bP BK214⟩
   have n2_ : Aside0 (Below w.heap.size w ((wc.setCell ⟨gb214, 0, none⟩ (.string t218)).setCell ⟨gb214, 1, none⟩ (.string t219))) := ⟨bG⟩
   (try clear BK211)
   (try clear BK214)
   (try clear HB)
   generalize ((wc.setCell ⟨gb214, 0, none⟩ (.string t218)).setCell ⟨gb214, 1, none⟩ (.string t219)) = w36 at n0_ n1_ n2_ ⊢
   have BK211 := n0_
   have BK214 := n1_
   have HB := n2_
   clear n0_ n1_ n2_
   replace BK211 := Aside0.mk (blk_drew BK211.out)
   replace BK214 := Aside0.mk (blk_drew BK214.out)
   replace HB := Aside0.mk (below_drew1 HB.out)
   refine start_ (n := 10) (S := fun w' => w'.cell? ⟨gb214, 0, none⟩ = some (.string t218) ∧ w'.cell? ⟨gb214, 1, none⟩ = some (.string t219) ∧ w'.cell? ⟨gb214, 2, none⟩ = some (.bool ((bt a0 0) == 91)) ∧ w'.cell? ⟨gb214, 3, none⟩ = some (.bool ((bt a0 t213) == 93))) (ds := []) #[false, false, false, false, false, false, false, false, false, false] (by kernel_rfl) rfl rfl ⟨(blk_cell BK214.out 0).trans rfl, (blk_cell BK214.out 1).trans rfl, (blk_cell BK214.out 2).trans rfl, (blk_cell BK214.out 3).trans rfl⟩ (fun hHeld => ?_); refine with_tabW span_one.tab13 span_one.bits13 (fun HT_ HW_ => ?_)
   generalize w36.drew = w37 at BK211 BK214 HB hHeld ⊢
   refine pz 1 (some 58) HT_ ?_
   refine pz 2 (some 59) HT_ ?_
   refine pz 3 (some 60) HT_ ?_
   refine pz 4 (some 61) HT_ ?_
   refine tm 0 (some 57) HT_ HW_ hHeld ?_
   refine tm 5 (some 62) HT_ HW_ hHeld ?_
   refine on 6 (some 63) HT_ (fun K hK => ?_)
   refine goes_ Tryz.func17 (by kernel_rfl) rfl #[.agg #[.string t218, .string t219, .bool ((bt a0 0) == 91), .bool ((bt a0 t213) == 93)]] (by rfl) rfl rfl (by (try simp only [List.map_toArray, List.map_cons, List.map_nil]); first | done | rfl | (simp only [List.length_drop, List.length_take]; rfl) | (rw [show ((bt a0 t213) == 93) = true by assumption]; rfl) | (rw [show ((bt a0 t213) == 93) = true by assumption, show ((bt a0 0) == 91) = true by assumption]; rfl)) ?_
   with_reducible refine (span_may.calls kj16 t218 t219 ((bt a0 0) == 91) ((bt a0 t213) == 93) t220 _ (gS HG) A33.out).mono ?_
   rintro e w38 ⟨rfl, hb⟩
   refine ⟨_, rfl, ?_⟩
   replace BK211 := kB BK211 hb
   replace BK214 := kB BK214 hb
   replace HB := sB hb
   (try clear hb)
   refine hK.out _ _ ⟨(blk_cell BK214.out 0).trans rfl, (blk_cell BK214.out 1).trans rfl, (blk_cell BK214.out 2).trans rfl, (blk_cell BK214.out 3).trans rfl⟩ (fun hHeld => ?_)
   clear hK K
   refine nz (some 63) ?_
   refine on 7 (none) HT_ (fun K hK => ?_)
   have hs39 : w38.cell? ⟨gb211, 0, none⟩ = some (.string (⟨#[]⟩ : ByteArray)) := (blk_cell BK211.out 0).trans rfl
   have hfs39 := blk_frozen BK211.out 0
   have hns39_1 := NB214_211.out
   have hms39_1 := NB211_214.out
   have hs40 : w38.cell? ⟨gb211, 1, none⟩ = some (.string (⟨#[]⟩ : ByteArray)) := (blk_cell BK211.out 1).trans rfl
   have hfs40 := blk_frozen BK211.out 1
   have hns40_1 := NB214_211.out
   have hms40_1 := NB211_214.out
   have hs41 : w38.cell? ⟨gb211, 2, none⟩ = some (.bool false) := (blk_cell BK211.out 2).trans rfl
   have hfs41 := blk_frozen BK211.out 2
   have hns41_1 := NB214_211.out
   have hms41_1 := NB211_214.out
   have hs42 : w38.cell? ⟨gb211, 3, none⟩ = some (.bool false) := (blk_cell BK211.out 3).trans rfl
   have hfs42 := blk_frozen BK211.out 3
   have hns42_1 := NB214_211.out
   have hms42_1 := NB211_214.out
   refine skip_ (w1 := ?_) (by rfl) rfl ?_ ?_
   rotate_left
   ·go_simp
    rfl
   refine hK.out _ _ ⟨((cell_far (p := ⟨gb211, _, none⟩) NB214_211.out _).trans (((cell_far (p := ⟨gb211, _, none⟩) NB214_211.out _).trans (((cell_far (p := ⟨gb211, _, none⟩) NB214_211.out _).trans (((cell_far (p := ⟨gb211, _, none⟩) NB214_211.out _).trans (hHeld.1)))))))), ((cell_far (p := ⟨gb211, _, none⟩) NB214_211.out _).trans (((cell_far (p := ⟨gb211, _, none⟩) NB214_211.out _).trans (((cell_far (p := ⟨gb211, _, none⟩) NB214_211.out _).trans (((cell_far (p := ⟨gb211, _, none⟩) NB214_211.out _).trans (hHeld.2.1)))))))), ((cell_far (p := ⟨gb211, _, none⟩) NB214_211.out _).trans (((cell_far (p := ⟨gb211, _, none⟩) NB214_211.out _).trans (((cell_far (p := ⟨gb211, _, none⟩) NB214_211.out _).trans (((cell_far (p := ⟨gb211, _, none⟩) NB214_211.out _).trans (hHeld.2.2.1)))))))), ((cell_far (p := ⟨gb211, _, none⟩) NB214_211.out _).trans (((cell_far (p := ⟨gb211, _, none⟩) NB214_211.out _).trans (((cell_far (p := ⟨gb211, _, none⟩) NB214_211.out _).trans (((cell_far (p := ⟨gb211, _, none⟩) NB214_211.out _).trans (hHeld.2.2.2))))))))⟩ (fun hHeld => ?_)
   clear hK K
   refine pz 8 (some 3) HT_ ?_
   refine pz 9 (some 4) HT_ ?_
   refine done_ (done_of HT_.out (by kernel_rfl)) ?_
   try go_wp2
   first | (refine bodyPost_ret (results_ctt rfl _ _ gb211 30 #[.string t218, .string t219, .bool ((bt a0 0) == 91), .bool ((bt a0 t213) == 93)] (0, 0) _ rfl (bP BK211) Tryz.underlying30 rfl (by kernel_rfl)) rfl ?_) | (refine bodyPost_ret (results_ctt rfl _ _ gb211 30 #[.string t218, .string t219, .bool true, .bool true] (0, 0) _ rfl (bP BK211) Tryz.underlying30 rfl (by kernel_rfl)) rfl ?_) | (refine bodyPost_ret (results_ctt rfl _ _ gb211 30 #[.string t218, .string t219, .bool true, .bool ((bt a0 t213) == 93)] (0, 0) _ rfl (bP BK211) Tryz.underlying30 rfl (by kernel_rfl)) rfl ?_) | (refine bodyPost_ret (results_ctt rfl _ _ gb211 30 #[.string t218, .string t219, .bool ((bt a0 0) == 91), .bool true] (0, 0) _ rfl (bP BK211) Tryz.underlying30 rfl (by kernel_rfl)) rfl ?_)
   exact ⟨by first | rfl | (simp [errW_none, errW_some] <;> rfl) | (simp only [← hji30]; first | rfl | (simp [errW_none, errW_some] <;> rfl)) | (simp [*, errW_none, errW_some] <;> rfl), bG⟩
  replace c29 := Bool.eq_false_iff.mpr c29
  subst c29
  replace H : (if ((bt a0 0) == 91) = true then (if ((bt a0 t213) == 93) = true then (if 0 ≤ (wrap64 (t213 + 1)) then (if (wrap64 (t213 + 1)) ≤ (a0.size : Int) then ((span_may.f kj16 t218 t219 ((bt a0 0) == 91) ((bt a0 t213) == 93)).bind fun t221 => (some (t218, t219, ((bt a0 0) == 91), ((bt a0 t213) == 93), a0.extract ((wrap64 (t213 + 1)) : Int).toNat a0.size, t221))) else (none)) else (none)) else (some ((⟨#[]⟩ : ByteArray), (⟨#[]⟩ : ByteArray), false, false, (⟨#[]⟩ : ByteArray), false))) else (some ((⟨#[]⟩ : ByteArray), (⟨#[]⟩ : ByteArray), false, false, (⟨#[]⟩ : ByteArray), false))) = some (r1, r2, r3, r4, r5, r6) := by rw [if_neg nF] at H; exact H
  by_cases c43 : ((bt a0 0) == 91) = true
  rotate_left
  ·rw [if_neg c43] at H
   have c43b0 : ((bt a0 0) == 91) = false := by simpa using c43
   (try (have c43b1 : decide ((bt a0 0) = 91) = false := by simpa using c43))
   (try (have c43b2 : ((bt a0 0) == 91) = false := by simpa using c43))
   (try (have c43b3 : ¬ ((bt a0 0) = 91) := by simpa using c43))
   clear c43
   simp only [Option.some.injEq, Prod.mk.injEq] at H
   obtain ⟨rfl, rfl, rfl, rfl, rfl, rfl⟩ := H
   go_wp2_with (first | ((with_reducible refine gate_callee (f := 39) rfl ?_); refine goesL_ (some 39) rfl rfl Tryz.func39 (by kernel_rfl) rfl #[.string t215, .string (⟨#[32]⟩ : ByteArray)] rfl (by (try simp only [List.map_toArray, List.map_cons, List.map_nil]); first | done | rfl | (simp only [List.length_drop, List.length_take]; rfl) | (rw [show ((bt a0 t213) == 93) = true by assumption]; rfl) | (rw [show ((bt a0 t213) == 93) = true by assumption, show ((bt a0 0) == 91) = true by assumption]; rfl)) ?_; (with_reducible refine (strings_Trim.calls t215 (⟨#[32]⟩ : ByteArray) t218 _ (gS HG) A27.out).mono ?_); rintro e w' ⟨rfl, ⟨nd, rfl⟩⟩; refine ⟨_, rfl, ?_⟩; (try (rw [drewN_self wc]; generalize hq_ : World.drewN wc _ = wc; have n0_ : Aside0 (wc.heap[gb211]? = some (.cells #[.string (⟨#[]⟩ : ByteArray), .string (⟨#[]⟩ : ByteArray), .bool false, .bool false] 30 (0, 0))) := ⟨by rw [← hq_]; exact (bK BK211)⟩; have n1_ : Aside0 (wc.heap[gb214]? = some (.cells #[.string (⟨#[]⟩ : ByteArray), .string (⟨#[]⟩ : ByteArray), .bool ((bt a0 0) == 91), .bool ((bt a0 t213) == 93)] 30 (0, 0))) := ⟨by rw [← hq_]; exact (bK BK214)⟩; have n2_ : Aside0 (Below w.heap.size w wc) := ⟨by rw [← hq_]; exact bG⟩; clear BK211 BK214 HB hq_; have BK211 := n0_; have BK214 := n1_; have HB := n2_; clear n0_ n1_ n2_))) | ((with_reducible refine gate_callee (f := 39) rfl ?_); refine goesL_ (some 41) rfl rfl Tryz.func39 (by kernel_rfl) rfl #[.string x8_16, .string (⟨#[32]⟩ : ByteArray)] rfl (by (try simp only [List.map_toArray, List.map_cons, List.map_nil]); first | done | rfl | (simp only [List.length_drop, List.length_take]; rfl) | (rw [show ((bt a0 t213) == 93) = true by assumption]; rfl) | (rw [show ((bt a0 t213) == 93) = true by assumption, show ((bt a0 0) == 91) = true by assumption]; rfl)) ?_; (with_reducible refine (strings_Trim.calls x8_16 (⟨#[32]⟩ : ByteArray) t219 _ (gS HG) A28.out).mono ?_); rintro e w' ⟨rfl, ⟨nd, rfl⟩⟩; refine ⟨_, rfl, ?_⟩; (try (rw [drewN_self wc]; generalize hq_ : World.drewN wc _ = wc; have n0_ : Aside0 (wc.heap[gb211]? = some (.cells #[.string (⟨#[]⟩ : ByteArray), .string (⟨#[]⟩ : ByteArray), .bool false, .bool false] 30 (0, 0))) := ⟨by rw [← hq_]; exact (bK BK211)⟩; have n1_ : Aside0 (wc.heap[gb214]? = some (.cells #[.string (⟨#[]⟩ : ByteArray), .string (⟨#[]⟩ : ByteArray), .bool ((bt a0 0) == 91), .bool ((bt a0 t213) == 93)] 30 (0, 0))) := ⟨by rw [← hq_]; exact (bK BK214)⟩; have n2_ : Aside0 (Below w.heap.size w wc) := ⟨by rw [← hq_]; exact bG⟩; clear BK211 BK214 HB hq_; have BK211 := n0_; have BK214 := n1_; have HB := n2_; clear n0_ n1_ n2_)); have hnb61 := NB214_211.out; have hnc61 := NB211_214.out; have hcz62_0 : wc.cell? ⟨gb214, 0, none⟩ = some (.string (⟨#[]⟩ : ByteArray)) := (blk_cell BK214.out 0).trans rfl; have hcz62_1 : wc.cell? ⟨gb214, 1, none⟩ = some (.string (⟨#[]⟩ : ByteArray)) := (blk_cell BK214.out 1).trans rfl; have hcz62_2 : wc.cell? ⟨gb214, 2, none⟩ = some (.bool ((bt a0 0) == 91)) := (blk_cell BK214.out 2).trans rfl; have hcz62_3 : wc.cell? ⟨gb214, 3, none⟩ = some (.bool ((bt a0 t213) == 93)) := (blk_cell BK214.out 3).trans rfl; have hfz62_0 := blk_frozen BK214.out 0; have hfz62_1 := blk_frozen BK214.out 1; have hfz62_2 := blk_frozen BK214.out 2; have hfz62_3 := blk_frozen BK214.out 3; have hcz63_0 : wc.cell? ⟨gb211, 0, none⟩ = some (.string (⟨#[]⟩ : ByteArray)) := (blk_cell BK211.out 0).trans rfl; have hcz63_1 : wc.cell? ⟨gb211, 1, none⟩ = some (.string (⟨#[]⟩ : ByteArray)) := (blk_cell BK211.out 1).trans rfl; have hcz63_2 : wc.cell? ⟨gb211, 2, none⟩ = some (.bool false) := (blk_cell BK211.out 2).trans rfl; have hcz63_3 : wc.cell? ⟨gb211, 3, none⟩ = some (.bool false) := (blk_cell BK211.out 3).trans rfl; have hfz63_0 := blk_frozen BK211.out 0; have hfz63_1 := blk_frozen BK211.out 1; have hfz63_2 := blk_frozen BK211.out 2; have hfz63_3 := blk_frozen BK211.out 3))
   refine bodyPost_ret (results_ctt rfl _ _ gb211 30 #[.string (⟨#[]⟩ : ByteArray), .string (⟨#[]⟩ : ByteArray), .bool false, .bool false] (0, 0) _ rfl (by (with_reducible repeat (first | refine blk_drewN ?_ _ | refine blk_drew ?_ | refine blk_alloc ?_ _)); refine blk_put (cs := #[.string (⟨#[]⟩ : ByteArray), .string (⟨#[]⟩ : ByteArray), .bool false, .bool false]) ?_ 3 _ rfl; (with_reducible repeat (first | refine blk_drewN ?_ _ | refine blk_drew ?_ | refine blk_alloc ?_ _)); refine blk_put (cs := #[.string (⟨#[]⟩ : ByteArray), .string (⟨#[]⟩ : ByteArray), .bool false, .bool false]) ?_ 2 _ rfl; (with_reducible repeat (first | refine blk_drewN ?_ _ | refine blk_drew ?_ | refine blk_alloc ?_ _)); refine blk_put (cs := #[.string (⟨#[]⟩ : ByteArray), .string (⟨#[]⟩ : ByteArray), .bool false, .bool false]) ?_ 1 _ rfl; (with_reducible repeat (first | refine blk_drewN ?_ _ | refine blk_drew ?_ | refine blk_alloc ?_ _)); refine blk_put (cs := #[.string (⟨#[]⟩ : ByteArray), .string (⟨#[]⟩ : ByteArray), .bool false, .bool false]) ?_ 0 _ rfl; (with_reducible repeat (first | refine blk_drewN ?_ _ | refine blk_drew ?_ | refine blk_alloc ?_ _)); refine blk_far ?_ NB211_214.out _; (with_reducible repeat (first | refine blk_drewN ?_ _ | refine blk_drew ?_ | refine blk_alloc ?_ _)); refine blk_far ?_ NB211_214.out _; (with_reducible repeat (first | refine blk_drewN ?_ _ | refine blk_drew ?_ | refine blk_alloc ?_ _)); exact BK211.out) Tryz.underlying30 rfl (by kernel_rfl)) rfl ?_
   exact ⟨eA, bG⟩
  rw [if_pos c43] at H
  have c43b0 : ((bt a0 0) == 91) = true := c43
  (try (have c43b1 : decide ((bt a0 0) = 91) = true := by simpa using c43))
  (try (have c43b2 : ((bt a0 0) == 91) = true := by simpa using c43))
  clear c43
  by_cases c44 : ((bt a0 t213) == 93) = true
  rotate_left
  ·rw [if_neg c44] at H
   have c44b0 : ((bt a0 t213) == 93) = false := by simpa using c44
   (try (have c44b1 : decide ((bt a0 t213) = 93) = false := by simpa using c44))
   (try (have c44b2 : ((bt a0 t213) == 93) = false := by simpa using c44))
   (try (have c44b3 : ¬ ((bt a0 t213) = 93) := by simpa using c44))
   clear c44
   simp only [Option.some.injEq, Prod.mk.injEq] at H
   obtain ⟨rfl, rfl, rfl, rfl, rfl, rfl⟩ := H
   go_wp2_with (first | ((with_reducible refine gate_callee (f := 39) rfl ?_); refine goesL_ (some 39) rfl rfl Tryz.func39 (by kernel_rfl) rfl #[.string t215, .string (⟨#[32]⟩ : ByteArray)] rfl (by (try simp only [List.map_toArray, List.map_cons, List.map_nil]); first | done | rfl | (simp only [List.length_drop, List.length_take]; rfl) | (rw [show ((bt a0 t213) == 93) = true by assumption]; rfl) | (rw [show ((bt a0 t213) == 93) = true by assumption, show ((bt a0 0) == 91) = true by assumption]; rfl)) ?_; (with_reducible refine (strings_Trim.calls t215 (⟨#[32]⟩ : ByteArray) t218 _ (gS HG) A27.out).mono ?_); rintro e w' ⟨rfl, ⟨nd, rfl⟩⟩; refine ⟨_, rfl, ?_⟩; (try (rw [drewN_self wc]; generalize hq_ : World.drewN wc _ = wc; have n0_ : Aside0 (wc.heap[gb211]? = some (.cells #[.string (⟨#[]⟩ : ByteArray), .string (⟨#[]⟩ : ByteArray), .bool false, .bool false] 30 (0, 0))) := ⟨by rw [← hq_]; exact (bK BK211)⟩; have n1_ : Aside0 (wc.heap[gb214]? = some (.cells #[.string (⟨#[]⟩ : ByteArray), .string (⟨#[]⟩ : ByteArray), .bool ((bt a0 0) == 91), .bool ((bt a0 t213) == 93)] 30 (0, 0))) := ⟨by rw [← hq_]; exact (bK BK214)⟩; have n2_ : Aside0 (Below w.heap.size w wc) := ⟨by rw [← hq_]; exact bG⟩; clear BK211 BK214 HB hq_; have BK211 := n0_; have BK214 := n1_; have HB := n2_; clear n0_ n1_ n2_))) | ((with_reducible refine gate_callee (f := 39) rfl ?_); refine goesL_ (some 41) rfl rfl Tryz.func39 (by kernel_rfl) rfl #[.string x8_16, .string (⟨#[32]⟩ : ByteArray)] rfl (by (try simp only [List.map_toArray, List.map_cons, List.map_nil]); first | done | rfl | (simp only [List.length_drop, List.length_take]; rfl) | (rw [show ((bt a0 t213) == 93) = true by assumption]; rfl) | (rw [show ((bt a0 t213) == 93) = true by assumption, show ((bt a0 0) == 91) = true by assumption]; rfl)) ?_; (with_reducible refine (strings_Trim.calls x8_16 (⟨#[32]⟩ : ByteArray) t219 _ (gS HG) A28.out).mono ?_); rintro e w' ⟨rfl, ⟨nd, rfl⟩⟩; refine ⟨_, rfl, ?_⟩; (try (rw [drewN_self wc]; generalize hq_ : World.drewN wc _ = wc; have n0_ : Aside0 (wc.heap[gb211]? = some (.cells #[.string (⟨#[]⟩ : ByteArray), .string (⟨#[]⟩ : ByteArray), .bool false, .bool false] 30 (0, 0))) := ⟨by rw [← hq_]; exact (bK BK211)⟩; have n1_ : Aside0 (wc.heap[gb214]? = some (.cells #[.string (⟨#[]⟩ : ByteArray), .string (⟨#[]⟩ : ByteArray), .bool ((bt a0 0) == 91), .bool ((bt a0 t213) == 93)] 30 (0, 0))) := ⟨by rw [← hq_]; exact (bK BK214)⟩; have n2_ : Aside0 (Below w.heap.size w wc) := ⟨by rw [← hq_]; exact bG⟩; clear BK211 BK214 HB hq_; have BK211 := n0_; have BK214 := n1_; have HB := n2_; clear n0_ n1_ n2_)); have hnb58 := NB214_211.out; have hnc58 := NB211_214.out; have hcz59_0 : wc.cell? ⟨gb214, 0, none⟩ = some (.string (⟨#[]⟩ : ByteArray)) := (blk_cell BK214.out 0).trans rfl; have hcz59_1 : wc.cell? ⟨gb214, 1, none⟩ = some (.string (⟨#[]⟩ : ByteArray)) := (blk_cell BK214.out 1).trans rfl; have hcz59_2 : wc.cell? ⟨gb214, 2, none⟩ = some (.bool ((bt a0 0) == 91)) := (blk_cell BK214.out 2).trans rfl; have hcz59_3 : wc.cell? ⟨gb214, 3, none⟩ = some (.bool ((bt a0 t213) == 93)) := (blk_cell BK214.out 3).trans rfl; have hfz59_0 := blk_frozen BK214.out 0; have hfz59_1 := blk_frozen BK214.out 1; have hfz59_2 := blk_frozen BK214.out 2; have hfz59_3 := blk_frozen BK214.out 3; have hcz60_0 : wc.cell? ⟨gb211, 0, none⟩ = some (.string (⟨#[]⟩ : ByteArray)) := (blk_cell BK211.out 0).trans rfl; have hcz60_1 : wc.cell? ⟨gb211, 1, none⟩ = some (.string (⟨#[]⟩ : ByteArray)) := (blk_cell BK211.out 1).trans rfl; have hcz60_2 : wc.cell? ⟨gb211, 2, none⟩ = some (.bool false) := (blk_cell BK211.out 2).trans rfl; have hcz60_3 : wc.cell? ⟨gb211, 3, none⟩ = some (.bool false) := (blk_cell BK211.out 3).trans rfl; have hfz60_0 := blk_frozen BK211.out 0; have hfz60_1 := blk_frozen BK211.out 1; have hfz60_2 := blk_frozen BK211.out 2; have hfz60_3 := blk_frozen BK211.out 3))
   refine bodyPost_ret (results_ctt rfl _ _ gb211 30 #[.string (⟨#[]⟩ : ByteArray), .string (⟨#[]⟩ : ByteArray), .bool false, .bool false] (0, 0) _ rfl (by (with_reducible repeat (first | refine blk_drewN ?_ _ | refine blk_drew ?_ | refine blk_alloc ?_ _)); refine blk_put (cs := #[.string (⟨#[]⟩ : ByteArray), .string (⟨#[]⟩ : ByteArray), .bool false, .bool false]) ?_ 3 _ rfl; (with_reducible repeat (first | refine blk_drewN ?_ _ | refine blk_drew ?_ | refine blk_alloc ?_ _)); refine blk_put (cs := #[.string (⟨#[]⟩ : ByteArray), .string (⟨#[]⟩ : ByteArray), .bool false, .bool false]) ?_ 2 _ rfl; (with_reducible repeat (first | refine blk_drewN ?_ _ | refine blk_drew ?_ | refine blk_alloc ?_ _)); refine blk_put (cs := #[.string (⟨#[]⟩ : ByteArray), .string (⟨#[]⟩ : ByteArray), .bool false, .bool false]) ?_ 1 _ rfl; (with_reducible repeat (first | refine blk_drewN ?_ _ | refine blk_drew ?_ | refine blk_alloc ?_ _)); refine blk_put (cs := #[.string (⟨#[]⟩ : ByteArray), .string (⟨#[]⟩ : ByteArray), .bool false, .bool false]) ?_ 0 _ rfl; (with_reducible repeat (first | refine blk_drewN ?_ _ | refine blk_drew ?_ | refine blk_alloc ?_ _)); refine blk_far ?_ NB211_214.out _; (with_reducible repeat (first | refine blk_drewN ?_ _ | refine blk_drew ?_ | refine blk_alloc ?_ _)); refine blk_far ?_ NB211_214.out _; (with_reducible repeat (first | refine blk_drewN ?_ _ | refine blk_drew ?_ | refine blk_alloc ?_ _)); exact BK211.out) Tryz.underlying30 rfl (by kernel_rfl)) rfl ?_
   exact ⟨eA, bG⟩
  rw [if_pos c44] at H
  have c44b0 : ((bt a0 t213) == 93) = true := c44
  (try (have c44b1 : decide ((bt a0 t213) = 93) = true := by simpa using c44))
  (try (have c44b2 : ((bt a0 t213) == 93) = true := by simpa using c44))
  clear c44
  obtain ⟨ji45, hji45⟩ : ∃ j_ : Int, (wrap64 (t213 + 1)) = j_ := ⟨_, rfl⟩
  rw [hji45] at H
  (try rw [hji45] at A27)
  (try rw [hji45] at A28)
  have hji45w : (IntKind.i64.wrap (t213 + 1)) = ji45 := (i64_w _).trans hji45
  obtain ⟨c46, H⟩ := gp H
  have c46b0 := eq_true c46
  have c46b1 := dT c46
  clear c46
  obtain ⟨c47, H⟩ := gp H
  have c47b0 := eq_true c47
  have c47b1 := dT c47
  clear c47
  replace H := bi H
  obtain ⟨t221, A480, H⟩ := H
  try dsimp only at H
  have A48 := Aside0.mk A480
  clear A480
  simp only [Option.some.injEq, Prod.mk.injEq] at H
  obtain ⟨rfl, rfl, rfl, rfl, rfl, rfl⟩ := H
  try go_wp2_with (first | ((with_reducible refine gate_callee (f := 39) rfl ?_); refine goesL_ (some 39) rfl rfl Tryz.func39 (by kernel_rfl) rfl #[.string t215, .string (⟨#[32]⟩ : ByteArray)] rfl (by (try simp only [List.map_toArray, List.map_cons, List.map_nil]); first | done | rfl | (simp only [List.length_drop, List.length_take]; rfl) | (rw [show ((bt a0 t213) == 93) = true by assumption]; rfl) | (rw [show ((bt a0 t213) == 93) = true by assumption, show ((bt a0 0) == 91) = true by assumption]; rfl)) ?_; (with_reducible refine (strings_Trim.calls t215 (⟨#[32]⟩ : ByteArray) t218 _ (gS HG) A27.out).mono ?_); rintro e w' ⟨rfl, ⟨nd, rfl⟩⟩; refine ⟨_, rfl, ?_⟩; (try (rw [drewN_self wc]; generalize hq_ : World.drewN wc _ = wc; have n0_ : Aside0 (wc.heap[gb211]? = some (.cells #[.string (⟨#[]⟩ : ByteArray), .string (⟨#[]⟩ : ByteArray), .bool false, .bool false] 30 (0, 0))) := ⟨by rw [← hq_]; exact (bK BK211)⟩; have n1_ : Aside0 (wc.heap[gb214]? = some (.cells #[.string (⟨#[]⟩ : ByteArray), .string (⟨#[]⟩ : ByteArray), .bool ((bt a0 0) == 91), .bool ((bt a0 t213) == 93)] 30 (0, 0))) := ⟨by rw [← hq_]; exact (bK BK214)⟩; have n2_ : Aside0 (Below w.heap.size w wc) := ⟨by rw [← hq_]; exact bG⟩; clear BK211 BK214 HB hq_; have BK211 := n0_; have BK214 := n1_; have HB := n2_; clear n0_ n1_ n2_))) | ((with_reducible refine gate_callee (f := 39) rfl ?_); refine goesL_ (some 41) rfl rfl Tryz.func39 (by kernel_rfl) rfl #[.string x8_16, .string (⟨#[32]⟩ : ByteArray)] rfl (by (try simp only [List.map_toArray, List.map_cons, List.map_nil]); first | done | rfl | (simp only [List.length_drop, List.length_take]; rfl) | (rw [show ((bt a0 t213) == 93) = true by assumption]; rfl) | (rw [show ((bt a0 t213) == 93) = true by assumption, show ((bt a0 0) == 91) = true by assumption]; rfl)) ?_; (with_reducible refine (strings_Trim.calls x8_16 (⟨#[32]⟩ : ByteArray) t219 _ (gS HG) A28.out).mono ?_); rintro e w' ⟨rfl, ⟨nd, rfl⟩⟩; refine ⟨_, rfl, ?_⟩; (try (rw [drewN_self wc]; generalize hq_ : World.drewN wc _ = wc; have n0_ : Aside0 (wc.heap[gb211]? = some (.cells #[.string (⟨#[]⟩ : ByteArray), .string (⟨#[]⟩ : ByteArray), .bool false, .bool false] 30 (0, 0))) := ⟨by rw [← hq_]; exact (bK BK211)⟩; have n1_ : Aside0 (wc.heap[gb214]? = some (.cells #[.string (⟨#[]⟩ : ByteArray), .string (⟨#[]⟩ : ByteArray), .bool ((bt a0 0) == 91), .bool ((bt a0 t213) == 93)] 30 (0, 0))) := ⟨by rw [← hq_]; exact (bK BK214)⟩; have n2_ : Aside0 (Below w.heap.size w wc) := ⟨by rw [← hq_]; exact bG⟩; clear BK211 BK214 HB hq_; have BK211 := n0_; have BK214 := n1_; have HB := n2_; clear n0_ n1_ n2_)); have hnb49 := NB214_211.out; have hnc49 := NB211_214.out; have hcz50_0 : wc.cell? ⟨gb214, 0, none⟩ = some (.string (⟨#[]⟩ : ByteArray)) := (blk_cell BK214.out 0).trans rfl; have hcz50_1 : wc.cell? ⟨gb214, 1, none⟩ = some (.string (⟨#[]⟩ : ByteArray)) := (blk_cell BK214.out 1).trans rfl; have hcz50_2 : wc.cell? ⟨gb214, 2, none⟩ = some (.bool ((bt a0 0) == 91)) := (blk_cell BK214.out 2).trans rfl; have hcz50_3 : wc.cell? ⟨gb214, 3, none⟩ = some (.bool ((bt a0 t213) == 93)) := (blk_cell BK214.out 3).trans rfl; have hfz50_0 := blk_frozen BK214.out 0; have hfz50_1 := blk_frozen BK214.out 1; have hfz50_2 := blk_frozen BK214.out 2; have hfz50_3 := blk_frozen BK214.out 3))
  have n0_ : Aside0 (((wc.setCell ⟨gb214, 0, none⟩ (.string t218)).setCell ⟨gb214, 1, none⟩ (.string t219)).heap[gb211]? = some (.cells #[.string (⟨#[]⟩ : ByteArray), .string (⟨#[]⟩ : ByteArray), .bool false, .bool false] 30 (0, 0))) := ⟨by (with_reducible repeat (first | refine blk_drewN ?_ _ | refine blk_drew ?_ | refine blk_alloc ?_ _)); refine blk_far ?_ NB211_214.out _; (with_reducible repeat (first | refine blk_drewN ?_ _ | refine blk_drew ?_ | refine blk_alloc ?_ _)); refine blk_far ?_ NB211_214.out _; (with_reducible repeat (first | refine blk_drewN ?_ _ | refine blk_drew ?_ | refine blk_alloc ?_ _)); exact BK211.out⟩
  have n1_ : Aside0 (((wc.setCell ⟨gb214, 0, none⟩ (.string t218)).setCell ⟨gb214, 1, none⟩ (.string t219)).heap[gb214]? = some (.cells #[.string t218, .string t219, .bool ((bt a0 0) == 91), .bool ((bt a0 t213) == 93)] 30 (0, 0))) := ⟨bP BK214⟩
  have n2_ : Aside0 (Below w.heap.size w ((wc.setCell ⟨gb214, 0, none⟩ (.string t218)).setCell ⟨gb214, 1, none⟩ (.string t219))) := ⟨bG⟩
  (try clear BK211)
  (try clear BK214)
  (try clear HB)
  generalize ((wc.setCell ⟨gb214, 0, none⟩ (.string t218)).setCell ⟨gb214, 1, none⟩ (.string t219)) = w51 at n0_ n1_ n2_ ⊢
  have BK211 := n0_
  have BK214 := n1_
  have HB := n2_
  clear n0_ n1_ n2_
  replace BK211 := Aside0.mk (blk_drew BK211.out)
  replace BK214 := Aside0.mk (blk_drew BK214.out)
  replace HB := Aside0.mk (below_drew1 HB.out)
  refine start_ (n := 10) (S := fun w' => w'.cell? ⟨gb214, 0, none⟩ = some (.string t218) ∧ w'.cell? ⟨gb214, 1, none⟩ = some (.string t219) ∧ w'.cell? ⟨gb214, 2, none⟩ = some (.bool ((bt a0 0) == 91)) ∧ w'.cell? ⟨gb214, 3, none⟩ = some (.bool ((bt a0 t213) == 93))) (ds := []) #[false, false, false, false, false, false, false, false, false, false] (by kernel_rfl) rfl rfl ⟨(blk_cell BK214.out 0).trans rfl, (blk_cell BK214.out 1).trans rfl, (blk_cell BK214.out 2).trans rfl, (blk_cell BK214.out 3).trans rfl⟩ (fun hHeld => ?_); refine with_tabW span_one.tab13 span_one.bits13 (fun HT_ HW_ => ?_)
  generalize w51.drew = w52 at BK211 BK214 HB hHeld ⊢
  refine pz 1 (some 58) HT_ ?_
  refine pz 2 (some 59) HT_ ?_
  refine pz 3 (some 60) HT_ ?_
  refine pz 4 (some 61) HT_ ?_
  refine tm 0 (some 57) HT_ HW_ hHeld ?_
  refine tm 5 (some 62) HT_ HW_ hHeld ?_
  refine on 6 (some 63) HT_ (fun K hK => ?_)
  refine goes_ Tryz.func17 (by kernel_rfl) rfl #[.agg #[.string t218, .string t219, .bool ((bt a0 0) == 91), .bool ((bt a0 t213) == 93)]] (by rfl) rfl rfl (by (try simp only [List.map_toArray, List.map_cons, List.map_nil]); first | done | rfl | (simp only [List.length_drop, List.length_take]; rfl) | (rw [show ((bt a0 t213) == 93) = true by assumption]; rfl) | (rw [show ((bt a0 t213) == 93) = true by assumption, show ((bt a0 0) == 91) = true by assumption]; rfl)) ?_
  with_reducible refine (span_may.calls kj16 t218 t219 ((bt a0 0) == 91) ((bt a0 t213) == 93) t221 _ (gS HG) A48.out).mono ?_
  rintro e w53 ⟨rfl, hb⟩
  refine ⟨_, rfl, ?_⟩
  replace BK211 := kB BK211 hb
  replace BK214 := kB BK214 hb
  replace HB := sB hb
  (try clear hb)
  refine hK.out _ _ ⟨(blk_cell BK214.out 0).trans rfl, (blk_cell BK214.out 1).trans rfl, (blk_cell BK214.out 2).trans rfl, (blk_cell BK214.out 3).trans rfl⟩ (fun hHeld => ?_)
  clear hK K
  refine nz (some 63) ?_
  refine on 7 (none) HT_ (fun K hK => ?_)
  have hs54 : w53.cell? ⟨gb211, 0, none⟩ = some (.string (⟨#[]⟩ : ByteArray)) := (blk_cell BK211.out 0).trans rfl
  have hfs54 := blk_frozen BK211.out 0
  have hns54_1 := NB214_211.out
  have hms54_1 := NB211_214.out
  have hs55 : w53.cell? ⟨gb211, 1, none⟩ = some (.string (⟨#[]⟩ : ByteArray)) := (blk_cell BK211.out 1).trans rfl
  have hfs55 := blk_frozen BK211.out 1
  have hns55_1 := NB214_211.out
  have hms55_1 := NB211_214.out
  have hs56 : w53.cell? ⟨gb211, 2, none⟩ = some (.bool false) := (blk_cell BK211.out 2).trans rfl
  have hfs56 := blk_frozen BK211.out 2
  have hns56_1 := NB214_211.out
  have hms56_1 := NB211_214.out
  have hs57 : w53.cell? ⟨gb211, 3, none⟩ = some (.bool false) := (blk_cell BK211.out 3).trans rfl
  have hfs57 := blk_frozen BK211.out 3
  have hns57_1 := NB214_211.out
  have hms57_1 := NB211_214.out
  refine skip_ (w1 := ?_) (by rfl) rfl ?_ ?_
  rotate_left
  ·go_simp
   rfl
  refine hK.out _ _ ⟨((cell_far (p := ⟨gb211, _, none⟩) NB214_211.out _).trans (((cell_far (p := ⟨gb211, _, none⟩) NB214_211.out _).trans (((cell_far (p := ⟨gb211, _, none⟩) NB214_211.out _).trans (((cell_far (p := ⟨gb211, _, none⟩) NB214_211.out _).trans (hHeld.1)))))))), ((cell_far (p := ⟨gb211, _, none⟩) NB214_211.out _).trans (((cell_far (p := ⟨gb211, _, none⟩) NB214_211.out _).trans (((cell_far (p := ⟨gb211, _, none⟩) NB214_211.out _).trans (((cell_far (p := ⟨gb211, _, none⟩) NB214_211.out _).trans (hHeld.2.1)))))))), ((cell_far (p := ⟨gb211, _, none⟩) NB214_211.out _).trans (((cell_far (p := ⟨gb211, _, none⟩) NB214_211.out _).trans (((cell_far (p := ⟨gb211, _, none⟩) NB214_211.out _).trans (((cell_far (p := ⟨gb211, _, none⟩) NB214_211.out _).trans (hHeld.2.2.1)))))))), ((cell_far (p := ⟨gb211, _, none⟩) NB214_211.out _).trans (((cell_far (p := ⟨gb211, _, none⟩) NB214_211.out _).trans (((cell_far (p := ⟨gb211, _, none⟩) NB214_211.out _).trans (((cell_far (p := ⟨gb211, _, none⟩) NB214_211.out _).trans (hHeld.2.2.2))))))))⟩ (fun hHeld => ?_)
  clear hK K
  refine pz 8 (some 3) HT_ ?_
  refine pz 9 (some 4) HT_ ?_
  refine done_ (done_of HT_.out (by kernel_rfl)) ?_
  try go_wp2
  first | (refine bodyPost_ret (results_ctt rfl _ _ gb211 30 #[.string t218, .string t219, .bool ((bt a0 0) == 91), .bool ((bt a0 t213) == 93)] (0, 0) _ rfl (bP BK211) Tryz.underlying30 rfl (by kernel_rfl)) rfl ?_) | (refine bodyPost_ret (results_ctt rfl _ _ gb211 30 #[.string t218, .string t219, .bool true, .bool true] (0, 0) _ rfl (bP BK211) Tryz.underlying30 rfl (by kernel_rfl)) rfl ?_) | (refine bodyPost_ret (results_ctt rfl _ _ gb211 30 #[.string t218, .string t219, .bool true, .bool ((bt a0 t213) == 93)] (0, 0) _ rfl (bP BK211) Tryz.underlying30 rfl (by kernel_rfl)) rfl ?_) | (refine bodyPost_ret (results_ctt rfl _ _ gb211 30 #[.string t218, .string t219, .bool ((bt a0 0) == 91), .bool true] (0, 0) _ rfl (bP BK211) Tryz.underlying30 rfl (by kernel_rfl)) rfl ?_)
  exact ⟨by first | rfl | (simp [errW_none, errW_some] <;> rfl) | (simp only [← hji45]; first | rfl | (simp [errW_none, errW_some] <;> rfl)) | (simp [*, errW_none, errW_some] <;> rfl), bG⟩
def span_behind.f (k : Nat) (a0_0 : ByteArray) (a0_1 : ByteArray) (a0_2 : Bool) (a0_3 : Bool) (a1_0 : ByteArray) (a1_1 : ByteArray) (a1_2 : Bool) (a1_3 : Bool) : Option (Bool) := if a0_1.toList = ([] : List UInt8) then (some false) else (if a1_0.toList = ([] : List UInt8) then (some false) else ((order_Compare.f k a0_1 a1_0).bind fun t224 => (if t224 < 0 then (some true) else (if t224 = 0 then (if a0_3 = true then (some (!a1_2)) else (some (!false))) else (some false)))))
theorem span_behind.mono : ∀ a0 a1 a2 a3 a4 a5 a6 a7 k, LeO (span_behind.f k a0 a1 a2 a3 a4 a5 a6 a7) (span_behind.f (k + 1) a0 a1 a2 a3 a4 a5 a6 a7) := by
 intro a0 a1 a2 a3 a4 a5 a6 a7 k
 unfold span_behind.f
 have m0 := @order_Compare.mono
 exact mo
theorem span_behind.calls (k : Nat) (a0_0 : ByteArray) (a0_1 : ByteArray) (a0_2 : Bool) (a0_3 : Bool) (a1_0 : ByteArray) (a1_1 : ByteArray) (a1_2 : Bool) (a1_3 : Bool) (r : Bool) (w : World) (hG : Glob w) (h : span_behind.f k a0_0 a0_1 a0_2 a0_3 a1_0 a1_1 a1_2 a1_3 = some r) :
 Calls Tryz.prog 22 #[.agg #[.string a0_0, .string a0_1, .bool a0_2, .bool a0_3], .agg #[.string a1_0, .string a1_1, .bool a1_2, .bool a1_3]] w fun e w' => e = .returned (.bool r) ∧ Below w.heap.size w w' := by
 have hu30 := Tryz.underlying30
 have HG := Aside0.mk hG
 clear hG
 have HB := Aside0.mk (Below.refl w.heap.size w)
 have H : (if a0_1.toList = ([] : List UInt8) then (some false) else (if a1_0.toList = ([] : List UInt8) then (some false) else ((order_Compare.f k a0_1 a1_0).bind fun t224 => (if t224 < 0 then (some true) else (if t224 = 0 then (if a0_3 = true then (some (!a1_2)) else (some (!false))) else (some false)))))) = some r := h
 clear h
 by_cases c3 : a0_1.toList = ([] : List UInt8)
 ·rw [if_pos c3] at H
  obtain ⟨c3b0, c3b1⟩ := eqT c3
  (try (have c3b2 : a0_1.toList.isEmpty = true := by simpa using c3))
  clear c3
  obtain rfl := Option.some.inj H
  go_enter Tryz.func22, Tryz.ntmps22
  go_wp2_with (first | (refine be 2 #[.string a0_0, .string a0_1, .bool a0_2, .bool a0_3] 30 ?_; intro gb222 hg w4 hbox hb; have BK222 := Aside0.mk (hbox); have GW222 := gW hg; have GE222 := gW hg; replace HB := sB hb; clear hb hbox hg) | (refine be 3 #[.string a1_0, .string a1_1, .bool a1_2, .bool a1_3] 30 ?_; intro gb223 hg w5 hbox hb; have BK223 := Aside0.mk (hbox); have GW223 := gW hg; have GE223 := gW hg; replace HB := sB hb; have NB222_223 := nL BK222 hg; have NB223_222 := nG BK222 hg; replace BK222 := kB BK222 hb; clear hb hbox hg; have hnb6 := NB222_223.out; have hnc6 := NB223_222.out; have hcz7_0 : w5.cell? ⟨gb222, 0, none⟩ = some (.string a0_0) := (blk_cell BK222.out 0).trans rfl; have hcz7_1 : w5.cell? ⟨gb222, 1, none⟩ = some (.string a0_1) := (blk_cell BK222.out 1).trans rfl; have hcz7_2 : w5.cell? ⟨gb222, 2, none⟩ = some (.bool a0_2) := (blk_cell BK222.out 2).trans rfl; have hcz7_3 : w5.cell? ⟨gb222, 3, none⟩ = some (.bool a0_3) := (blk_cell BK222.out 3).trans rfl; have hfz7_0 := blk_frozen BK222.out 0; have hfz7_1 := blk_frozen BK222.out 1; have hfz7_2 := blk_frozen BK222.out 2; have hfz7_3 := blk_frozen BK222.out 3))
  go_ret
  exact ⟨eA, bG⟩
 rw [if_neg c3] at H
 obtain ⟨c3b0, c3b1⟩ := eqF c3
 (try (have c3b2 : a0_1.toList.isEmpty = false := by simpa using c3))
 by_cases c8 : a1_0.toList = ([] : List UInt8)
 ·rw [if_pos c8] at H
  obtain ⟨c8b0, c8b1⟩ := eqT c8
  (try (have c8b2 : a1_0.toList.isEmpty = true := by simpa using c8))
  clear c8
  obtain rfl := Option.some.inj H
  go_enter Tryz.func22, Tryz.ntmps22
  go_wp2_with (first | (refine be 2 #[.string a0_0, .string a0_1, .bool a0_2, .bool a0_3] 30 ?_; intro gb222 hg w9 hbox hb; have BK222 := Aside0.mk (hbox); have GW222 := gW hg; have GE222 := gW hg; replace HB := sB hb; clear hb hbox hg) | (refine be 3 #[.string a1_0, .string a1_1, .bool a1_2, .bool a1_3] 30 ?_; intro gb223 hg w10 hbox hb; have BK223 := Aside0.mk (hbox); have GW223 := gW hg; have GE223 := gW hg; replace HB := sB hb; have NB222_223 := nL BK222 hg; have NB223_222 := nG BK222 hg; replace BK222 := kB BK222 hb; clear hb hbox hg; have hnb11 := NB222_223.out; have hnc11 := NB223_222.out; have hcz12_0 : w10.cell? ⟨gb222, 0, none⟩ = some (.string a0_0) := (blk_cell BK222.out 0).trans rfl; have hcz12_1 : w10.cell? ⟨gb222, 1, none⟩ = some (.string a0_1) := (blk_cell BK222.out 1).trans rfl; have hcz12_2 : w10.cell? ⟨gb222, 2, none⟩ = some (.bool a0_2) := (blk_cell BK222.out 2).trans rfl; have hcz12_3 : w10.cell? ⟨gb222, 3, none⟩ = some (.bool a0_3) := (blk_cell BK222.out 3).trans rfl; have hfz12_0 := blk_frozen BK222.out 0; have hfz12_1 := blk_frozen BK222.out 1; have hfz12_2 := blk_frozen BK222.out 2; have hfz12_3 := blk_frozen BK222.out 3; have hcz13_0 : w10.cell? ⟨gb223, 0, none⟩ = some (.string a1_0) := (blk_cell BK223.out 0).trans rfl; have hcz13_1 : w10.cell? ⟨gb223, 1, none⟩ = some (.string a1_1) := (blk_cell BK223.out 1).trans rfl; have hcz13_2 : w10.cell? ⟨gb223, 2, none⟩ = some (.bool a1_2) := (blk_cell BK223.out 2).trans rfl; have hcz13_3 : w10.cell? ⟨gb223, 3, none⟩ = some (.bool a1_3) := (blk_cell BK223.out 3).trans rfl; have hfz13_0 := blk_frozen BK223.out 0; have hfz13_1 := blk_frozen BK223.out 1; have hfz13_2 := blk_frozen BK223.out 2; have hfz13_3 := blk_frozen BK223.out 3))
  go_ret
  exact ⟨eA, bG⟩
 rw [if_neg c8] at H
 obtain ⟨c8b0, c8b1⟩ := eqF c8
 (try (have c8b2 : a1_0.toList.isEmpty = false := by simpa using c8))
 replace H := bi H
 obtain ⟨t224, A140, H⟩ := H
 try dsimp only at H
 have A14 := Aside0.mk A140
 clear A140
 by_cases c15 : t224 < 0
 ·rw [if_pos c15] at H
  have c15b0 := dT c15
  clear c15
  obtain rfl := Option.some.inj H
  go_enter Tryz.func22, Tryz.ntmps22
  go_wp2_with (first | (refine be 2 #[.string a0_0, .string a0_1, .bool a0_2, .bool a0_3] 30 ?_; intro gb222 hg w16 hbox hb; have BK222 := Aside0.mk (hbox); have GW222 := gW hg; have GE222 := gW hg; replace HB := sB hb; clear hb hbox hg) | (refine be 3 #[.string a1_0, .string a1_1, .bool a1_2, .bool a1_3] 30 ?_; intro gb223 hg w17 hbox hb; have BK223 := Aside0.mk (hbox); have GW223 := gW hg; have GE223 := gW hg; replace HB := sB hb; have NB222_223 := nL BK222 hg; have NB223_222 := nG BK222 hg; replace BK222 := kB BK222 hb; clear hb hbox hg; have hnb18 := NB222_223.out; have hnc18 := NB223_222.out; have hcz19_0 : w17.cell? ⟨gb222, 0, none⟩ = some (.string a0_0) := (blk_cell BK222.out 0).trans rfl; have hcz19_1 : w17.cell? ⟨gb222, 1, none⟩ = some (.string a0_1) := (blk_cell BK222.out 1).trans rfl; have hcz19_2 : w17.cell? ⟨gb222, 2, none⟩ = some (.bool a0_2) := (blk_cell BK222.out 2).trans rfl; have hcz19_3 : w17.cell? ⟨gb222, 3, none⟩ = some (.bool a0_3) := (blk_cell BK222.out 3).trans rfl; have hfz19_0 := blk_frozen BK222.out 0; have hfz19_1 := blk_frozen BK222.out 1; have hfz19_2 := blk_frozen BK222.out 2; have hfz19_3 := blk_frozen BK222.out 3; have hcz20_0 : w17.cell? ⟨gb223, 0, none⟩ = some (.string a1_0) := (blk_cell BK223.out 0).trans rfl; have hcz20_1 : w17.cell? ⟨gb223, 1, none⟩ = some (.string a1_1) := (blk_cell BK223.out 1).trans rfl; have hcz20_2 : w17.cell? ⟨gb223, 2, none⟩ = some (.bool a1_2) := (blk_cell BK223.out 2).trans rfl; have hcz20_3 : w17.cell? ⟨gb223, 3, none⟩ = some (.bool a1_3) := (blk_cell BK223.out 3).trans rfl; have hfz20_0 := blk_frozen BK223.out 0; have hfz20_1 := blk_frozen BK223.out 1; have hfz20_2 := blk_frozen BK223.out 2; have hfz20_3 := blk_frozen BK223.out 3) | (refine gl (some 18) Tryz.func34 #[.string a0_1, .string a1_0] ?_; (with_reducible refine (order_Compare.calls k a0_1 a1_0 t224 _ (gS HG) A14.out).mono ?_); rintro e w21 ⟨rfl, hb⟩; refine ⟨_, rfl, ?_⟩; replace BK222 := kB BK222 hb; replace BK223 := kB BK223 hb; replace HB := sB hb; (try clear hb)))
  go_ret
  exact ⟨eA, bG⟩
 rw [if_neg c15] at H
 have c15b0 := dF c15
 clear c15
 by_cases c22 : t224 = 0
 rotate_left
 ·rw [if_neg c22] at H
  obtain ⟨c22b0, c22b1⟩ := eqF c22
  obtain rfl := Option.some.inj H
  go_enter Tryz.func22, Tryz.ntmps22
  go_wp2_with (first | (refine be 2 #[.string a0_0, .string a0_1, .bool a0_2, .bool a0_3] 30 ?_; intro gb222 hg w39 hbox hb; have BK222 := Aside0.mk (hbox); have GW222 := gW hg; have GE222 := gW hg; replace HB := sB hb; clear hb hbox hg) | (refine be 3 #[.string a1_0, .string a1_1, .bool a1_2, .bool a1_3] 30 ?_; intro gb223 hg w40 hbox hb; have BK223 := Aside0.mk (hbox); have GW223 := gW hg; have GE223 := gW hg; replace HB := sB hb; have NB222_223 := nL BK222 hg; have NB223_222 := nG BK222 hg; replace BK222 := kB BK222 hb; clear hb hbox hg; have hnb41 := NB222_223.out; have hnc41 := NB223_222.out; have hcz42_0 : w40.cell? ⟨gb222, 0, none⟩ = some (.string a0_0) := (blk_cell BK222.out 0).trans rfl; have hcz42_1 : w40.cell? ⟨gb222, 1, none⟩ = some (.string a0_1) := (blk_cell BK222.out 1).trans rfl; have hcz42_2 : w40.cell? ⟨gb222, 2, none⟩ = some (.bool a0_2) := (blk_cell BK222.out 2).trans rfl; have hcz42_3 : w40.cell? ⟨gb222, 3, none⟩ = some (.bool a0_3) := (blk_cell BK222.out 3).trans rfl; have hfz42_0 := blk_frozen BK222.out 0; have hfz42_1 := blk_frozen BK222.out 1; have hfz42_2 := blk_frozen BK222.out 2; have hfz42_3 := blk_frozen BK222.out 3; have hcz43_0 : w40.cell? ⟨gb223, 0, none⟩ = some (.string a1_0) := (blk_cell BK223.out 0).trans rfl; have hcz43_1 : w40.cell? ⟨gb223, 1, none⟩ = some (.string a1_1) := (blk_cell BK223.out 1).trans rfl; have hcz43_2 : w40.cell? ⟨gb223, 2, none⟩ = some (.bool a1_2) := (blk_cell BK223.out 2).trans rfl; have hcz43_3 : w40.cell? ⟨gb223, 3, none⟩ = some (.bool a1_3) := (blk_cell BK223.out 3).trans rfl; have hfz43_0 := blk_frozen BK223.out 0; have hfz43_1 := blk_frozen BK223.out 1; have hfz43_2 := blk_frozen BK223.out 2; have hfz43_3 := blk_frozen BK223.out 3) | (refine gl (some 18) Tryz.func34 #[.string a0_1, .string a1_0] ?_; (with_reducible refine (order_Compare.calls k a0_1 a1_0 t224 _ (gS HG) A14.out).mono ?_); rintro e w44 ⟨rfl, hb⟩; refine ⟨_, rfl, ?_⟩; replace BK222 := kB BK222 hb; replace BK223 := kB BK223 hb; replace HB := sB hb; (try clear hb)))
  go_ret
  exact ⟨eA, bG⟩
 rw [if_pos c22] at H
 obtain ⟨c22b0, c22b1⟩ := eqT c22
 clear c22
 by_cases c23 : a0_3 = true
 ·subst c23
  replace H : (some (!a1_2)) = some r := by rw [if_pos rfl] at H; exact H
  obtain rfl := Option.some.inj H
  go_enter Tryz.func22, Tryz.ntmps22
  go_wp2_with (first | (refine be 2 #[.string a0_0, .string a0_1, .bool a0_2, .bool true] 30 ?_; intro gb222 hg w24 hbox hb; have BK222 := Aside0.mk (hbox); have GW222 := gW hg; have GE222 := gW hg; replace HB := sB hb; clear hb hbox hg) | (refine be 3 #[.string a1_0, .string a1_1, .bool a1_2, .bool a1_3] 30 ?_; intro gb223 hg w25 hbox hb; have BK223 := Aside0.mk (hbox); have GW223 := gW hg; have GE223 := gW hg; replace HB := sB hb; have NB222_223 := nL BK222 hg; have NB223_222 := nG BK222 hg; replace BK222 := kB BK222 hb; clear hb hbox hg; have hnb26 := NB222_223.out; have hnc26 := NB223_222.out; have hcz27_0 : w25.cell? ⟨gb222, 0, none⟩ = some (.string a0_0) := (blk_cell BK222.out 0).trans rfl; have hcz27_1 : w25.cell? ⟨gb222, 1, none⟩ = some (.string a0_1) := (blk_cell BK222.out 1).trans rfl; have hcz27_2 : w25.cell? ⟨gb222, 2, none⟩ = some (.bool a0_2) := (blk_cell BK222.out 2).trans rfl; have hcz27_3 : w25.cell? ⟨gb222, 3, none⟩ = some (.bool true) := (blk_cell BK222.out 3).trans rfl; have hfz27_0 := blk_frozen BK222.out 0; have hfz27_1 := blk_frozen BK222.out 1; have hfz27_2 := blk_frozen BK222.out 2; have hfz27_3 := blk_frozen BK222.out 3; have hcz28_0 : w25.cell? ⟨gb223, 0, none⟩ = some (.string a1_0) := (blk_cell BK223.out 0).trans rfl; have hcz28_1 : w25.cell? ⟨gb223, 1, none⟩ = some (.string a1_1) := (blk_cell BK223.out 1).trans rfl; have hcz28_2 : w25.cell? ⟨gb223, 2, none⟩ = some (.bool a1_2) := (blk_cell BK223.out 2).trans rfl; have hcz28_3 : w25.cell? ⟨gb223, 3, none⟩ = some (.bool a1_3) := (blk_cell BK223.out 3).trans rfl; have hfz28_0 := blk_frozen BK223.out 0; have hfz28_1 := blk_frozen BK223.out 1; have hfz28_2 := blk_frozen BK223.out 2; have hfz28_3 := blk_frozen BK223.out 3) | (refine gl (some 18) Tryz.func34 #[.string a0_1, .string a1_0] ?_; (with_reducible refine (order_Compare.calls k a0_1 a1_0 t224 _ (gS HG) A14.out).mono ?_); rintro e w29 ⟨rfl, hb⟩; refine ⟨_, rfl, ?_⟩; replace BK222 := kB BK222 hb; replace BK223 := kB BK223 hb; replace HB := sB hb; (try clear hb); have hcz30_0 : w29.cell? ⟨gb222, 0, none⟩ = some (.string a0_0) := (blk_cell BK222.out 0).trans rfl; have hcz30_1 : w29.cell? ⟨gb222, 1, none⟩ = some (.string a0_1) := (blk_cell BK222.out 1).trans rfl; have hcz30_2 : w29.cell? ⟨gb222, 2, none⟩ = some (.bool a0_2) := (blk_cell BK222.out 2).trans rfl; have hcz30_3 : w29.cell? ⟨gb222, 3, none⟩ = some (.bool true) := (blk_cell BK222.out 3).trans rfl; have hfz30_0 := blk_frozen BK222.out 0; have hfz30_1 := blk_frozen BK222.out 1; have hfz30_2 := blk_frozen BK222.out 2; have hfz30_3 := blk_frozen BK222.out 3; have hcz31_0 : w29.cell? ⟨gb223, 0, none⟩ = some (.string a1_0) := (blk_cell BK223.out 0).trans rfl; have hcz31_1 : w29.cell? ⟨gb223, 1, none⟩ = some (.string a1_1) := (blk_cell BK223.out 1).trans rfl; have hcz31_2 : w29.cell? ⟨gb223, 2, none⟩ = some (.bool a1_2) := (blk_cell BK223.out 2).trans rfl; have hcz31_3 : w29.cell? ⟨gb223, 3, none⟩ = some (.bool a1_3) := (blk_cell BK223.out 3).trans rfl; have hfz31_0 := blk_frozen BK223.out 0; have hfz31_1 := blk_frozen BK223.out 1; have hfz31_2 := blk_frozen BK223.out 2; have hfz31_3 := blk_frozen BK223.out 3))
  go_ret
  exact ⟨eA, bG⟩
 replace c23 := Bool.eq_false_iff.mpr c23
 subst c23
 replace H : (some (!false)) = some r := by rw [if_neg nF] at H; exact H
 obtain rfl := Option.some.inj H
 go_enter Tryz.func22, Tryz.ntmps22
 go_wp2_with (first | (refine be 2 #[.string a0_0, .string a0_1, .bool a0_2, .bool false] 30 ?_; intro gb222 hg w32 hbox hb; have BK222 := Aside0.mk (hbox); have GW222 := gW hg; have GE222 := gW hg; replace HB := sB hb; clear hb hbox hg) | (refine be 3 #[.string a1_0, .string a1_1, .bool a1_2, .bool a1_3] 30 ?_; intro gb223 hg w33 hbox hb; have BK223 := Aside0.mk (hbox); have GW223 := gW hg; have GE223 := gW hg; replace HB := sB hb; have NB222_223 := nL BK222 hg; have NB223_222 := nG BK222 hg; replace BK222 := kB BK222 hb; clear hb hbox hg; have hnb34 := NB222_223.out; have hnc34 := NB223_222.out; have hcz35_0 : w33.cell? ⟨gb222, 0, none⟩ = some (.string a0_0) := (blk_cell BK222.out 0).trans rfl; have hcz35_1 : w33.cell? ⟨gb222, 1, none⟩ = some (.string a0_1) := (blk_cell BK222.out 1).trans rfl; have hcz35_2 : w33.cell? ⟨gb222, 2, none⟩ = some (.bool a0_2) := (blk_cell BK222.out 2).trans rfl; have hcz35_3 : w33.cell? ⟨gb222, 3, none⟩ = some (.bool false) := (blk_cell BK222.out 3).trans rfl; have hfz35_0 := blk_frozen BK222.out 0; have hfz35_1 := blk_frozen BK222.out 1; have hfz35_2 := blk_frozen BK222.out 2; have hfz35_3 := blk_frozen BK222.out 3; have hcz36_0 : w33.cell? ⟨gb223, 0, none⟩ = some (.string a1_0) := (blk_cell BK223.out 0).trans rfl; have hcz36_1 : w33.cell? ⟨gb223, 1, none⟩ = some (.string a1_1) := (blk_cell BK223.out 1).trans rfl; have hcz36_2 : w33.cell? ⟨gb223, 2, none⟩ = some (.bool a1_2) := (blk_cell BK223.out 2).trans rfl; have hcz36_3 : w33.cell? ⟨gb223, 3, none⟩ = some (.bool a1_3) := (blk_cell BK223.out 3).trans rfl; have hfz36_0 := blk_frozen BK223.out 0; have hfz36_1 := blk_frozen BK223.out 1; have hfz36_2 := blk_frozen BK223.out 2; have hfz36_3 := blk_frozen BK223.out 3) | (refine gl (some 18) Tryz.func34 #[.string a0_1, .string a1_0] ?_; (with_reducible refine (order_Compare.calls k a0_1 a1_0 t224 _ (gS HG) A14.out).mono ?_); rintro e w37 ⟨rfl, hb⟩; refine ⟨_, rfl, ?_⟩; replace BK222 := kB BK222 hb; replace BK223 := kB BK223 hb; replace HB := sB hb; (try clear hb); have hcz38_0 : w37.cell? ⟨gb222, 0, none⟩ = some (.string a0_0) := (blk_cell BK222.out 0).trans rfl; have hcz38_1 : w37.cell? ⟨gb222, 1, none⟩ = some (.string a0_1) := (blk_cell BK222.out 1).trans rfl; have hcz38_2 : w37.cell? ⟨gb222, 2, none⟩ = some (.bool a0_2) := (blk_cell BK222.out 2).trans rfl; have hcz38_3 : w37.cell? ⟨gb222, 3, none⟩ = some (.bool false) := (blk_cell BK222.out 3).trans rfl; have hfz38_0 := blk_frozen BK222.out 0; have hfz38_1 := blk_frozen BK222.out 1; have hfz38_2 := blk_frozen BK222.out 2; have hfz38_3 := blk_frozen BK222.out 3))
 go_ret
 exact ⟨eA, bG⟩
def stringslite_CutPrefix.f (a0 : ByteArray) (a1 : ByteArray) : Option (ByteArray × Bool) := (stringslite_HasPrefix.f a0 a1).bind fun t225 => (if t225 = true then (if 0 ≤ (a1.size : Int) then (if (a1.size : Int) ≤ (a0.size : Int) then (some (a0.extract ((a1.size : Int) : Int).toNat a0.size, true)) else (none)) else (none)) else (some (a0, false)))
theorem stringslite_CutPrefix.calls (a0 : ByteArray) (a1 : ByteArray) (r1 : ByteArray) (r2 : Bool) (w : World) (hG : Glob w) (h : stringslite_CutPrefix.f a0 a1 = some (r1, r2)) :
 Calls Tryz.prog 40 #[.string a0, .string a1] w fun e w' => e = .returned (.tuple #[.string r1, .bool r2]) ∧ Drawn0 w w' := by
 have HG := Aside0.mk hG
 clear hG
 have H : ((stringslite_HasPrefix.f a0 a1).bind fun t225 => (if t225 = true then (if 0 ≤ (a1.size : Int) then (if (a1.size : Int) ≤ (a0.size : Int) then (some (a0.extract ((a1.size : Int) : Int).toNat a0.size, true)) else (none)) else (none)) else (some (a0, false)))) = some (r1, r2) := h
 clear h
 replace H := bi H
 obtain ⟨t225, A30, H⟩ := H
 try dsimp only at H
 have A3 := Aside0.mk A30
 clear A30
 by_cases c4 : t225 = true
 rotate_left
 ·replace c4 := Bool.eq_false_iff.mpr c4
  subst c4
  replace H : (some (a0, false)) = some (r1, r2) := by rw [if_neg nF] at H; exact H
  simp only [Option.some.injEq, Prod.mk.injEq] at H
  obtain ⟨rfl, rfl⟩ := H
  go_enter Tryz.func40, Tryz.ntmps40
  go_wp2_with (first | (refine gl (some 8) Tryz.func41 #[.string a0, .string a1] ?_; (with_reducible refine (stringslite_HasPrefix.calls a0 a1 false _ ?side1 A3.out).mono ?_); (case side1 => exact Glob.drawn HG.out (by repeat (first | exact Drawn0.refl _ | apply Drawn0.step))); rintro e w' ⟨rfl, ⟨nd, rfl⟩⟩; refine ⟨_, rfl, ?_⟩))
  go_ret2
  exact ⟨by first | rfl | (simp; done) | (simp [*]; done), by repeat (first | exact Drawn0.refl _ | apply Drawn0.step)⟩
 subst c4
 replace H : (if 0 ≤ (a1.size : Int) then (if (a1.size : Int) ≤ (a0.size : Int) then (some (a0.extract ((a1.size : Int) : Int).toNat a0.size, true)) else (none)) else (none)) = some (r1, r2) := by rw [if_pos rfl] at H; exact H
 obtain ⟨c5, H⟩ := gp H
 have c5b0 := eq_true c5
 have c5b1 := dT c5
 clear c5
 obtain ⟨c6, H⟩ := gp H
 have c6b0 := eq_true c6
 have c6b1 := dT c6
 clear c6
 simp only [Option.some.injEq, Prod.mk.injEq] at H
 obtain ⟨rfl, rfl⟩ := H
 go_enter Tryz.func40, Tryz.ntmps40
 go_wp2_with (first | (refine gl (some 8) Tryz.func41 #[.string a0, .string a1] ?_; (with_reducible refine (stringslite_HasPrefix.calls a0 a1 true _ ?side1 A3.out).mono ?_); (case side1 => exact Glob.drawn HG.out (by repeat (first | exact Drawn0.refl _ | apply Drawn0.step))); rintro e w' ⟨rfl, ⟨nd, rfl⟩⟩; refine ⟨_, rfl, ?_⟩))
 go_ret2
 exact ⟨by first | rfl | (simp; done) | (simp [*]; done), by repeat (first | exact Drawn0.refl _ | apply Drawn0.step)⟩
def strings_CutPrefix.f (a0 : ByteArray) (a1 : ByteArray) : Option (ByteArray × Bool) := (stringslite_CutPrefix.f a0 a1).bind fun bt226 => (some (bt226.1, bt226.2))
theorem strings_CutPrefix.calls (a0 : ByteArray) (a1 : ByteArray) (r1 : ByteArray) (r2 : Bool) (w : World) (hG : Glob w) (h : strings_CutPrefix.f a0 a1 = some (r1, r2)) :
 Calls Tryz.prog 23 #[.string a0, .string a1] w fun e w' => e = .returned (.tuple #[.string r1, .bool r2]) ∧ Drawn0 w w' := by
 have HG := Aside0.mk hG
 clear hG
 have H : ((stringslite_CutPrefix.f a0 a1).bind fun bt226 => (some (bt226.1, bt226.2))) = some (r1, r2) := h
 clear h
 replace H := bi H
 obtain ⟨⟨t226, t227⟩, A30, H⟩ := H
 try dsimp only at H
 have A3 := Aside0.mk A30
 clear A30
 simp only [Option.some.injEq, Prod.mk.injEq] at H
 obtain ⟨rfl, rfl⟩ := H
 go_enter Tryz.func23, Tryz.ntmps23
 go_wp2_with (first | (refine gl (some 8) Tryz.func40 #[.string a0, .string a1] ?_; (with_reducible refine (stringslite_CutPrefix.calls a0 a1 t226 t227 _ ?side1 A3.out).mono ?_); (case side1 => exact Glob.drawn HG.out (by repeat (first | exact Drawn0.refl _ | apply Drawn0.step))); rintro e w' ⟨rfl, ⟨nd, rfl⟩⟩; refine ⟨_, rfl, ?_⟩))
 go_ret2
 exact ⟨by first | rfl | (simp; done) | (simp [*]; done), by repeat (first | exact Drawn0.refl _ | apply Drawn0.step)⟩
end Go.Proofs.YtgdjfcmmpjcaaaaGreatDoor.Q
