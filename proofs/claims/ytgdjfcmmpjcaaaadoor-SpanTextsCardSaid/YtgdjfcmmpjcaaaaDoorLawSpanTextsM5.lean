/- Texts put together: what functions of the program compute, and plain words about them. -/
import Derived.Test.YtgdjfcmmpjcaaaaDoorLawSpanTextsM1
import Derived.Test.YtgdjfcmmpjcaaaaDoorLawSpanTextsM4
namespace Go.Proofs.YtgdjfcmmpjcaaaaDoor.Q
open Go.RowKit Go.Proofs.YtgdjfcmmpjcaaaaDoorW.PrintWords Go.Proofs.YtgdjfcmmpjcaaaaDoorW.PrintLast Go.Proofs.YtgdjfcmmpjcaaaaDoorW.Own Go.Proofs.YtgdjfcmmpjcaaaaDoorW.PrintMore
attribute [local go_sem] max2_int min2_int max_two min_two max_three min_three max_four min_four   -- for this text's walks alone
set_option linter.unusedVariables false
set_option linter.unusedSimpArgs false
set_option maxHeartbeats 8000000
set_option maxRecDepth 100000
mutual
def newelref05_word.j0 : Nat → Bool → ByteArray → Bool → Bool → Option (Int × ByteArray)
 | 0, _, _, _, _ => none
 | k + 1, x12, x252000, x252001, x252002 => if x12 = true then ((newelref05_number.f k x252000 x252001 x252002).bind fun bt254 => (some (bt254.1, bt254.2))) else (if x252000.toList = ([97, 108, 112, 104, 97] : List UInt8) then (newelref05_word.j3 k 1 x252000 x252001 x252002) else (if x252000.toList = ([98, 101, 116, 97] : List UInt8) then (newelref05_word.j3 k 2 x252000 x252001 x252002) else (if x252000.toList = ([109, 105, 108, 101, 115, 116, 111, 110, 101] : List UInt8) then (newelref05_word.j3 k 3 x252000 x252001 x252002) else (if x252000.toList = ([114, 99] : List UInt8) then (newelref05_word.j1 k 8 x252000 (x252000.toList == ([114, 99] : List UInt8)) x252000 x252001 x252002) else (newelref05_word.j1 k 8 x252000 (x252000.toList == ([99, 114] : List UInt8)) x252000 x252001 x252002)))))
def newelref05_word.j3 : Nat → Int → ByteArray → Bool → Bool → Option (Int × ByteArray)
 | 0, _, _, _, _ => none
 | k + 1, x3, x252000, x252001, x252002 => if x252002 = true then (if x252000.toList = ([97] : List UInt8) then (some (1, (⟨#[]⟩ : ByteArray))) else (if x252000.toList = ([98] : List UInt8) then (some (2, (⟨#[]⟩ : ByteArray))) else (if x252000.toList = ([109] : List UInt8) then (some (3, (⟨#[]⟩ : ByteArray))) else (if x3 = 8 then (some (x3, x252000)) else (some (x3, (⟨#[]⟩ : ByteArray))))))) else (if x3 = 8 then (some (x3, x252000)) else (some (x3, (⟨#[]⟩ : ByteArray))))
def newelref05_word.j1 : Nat → Int → ByteArray → Bool → ByteArray → Bool → Bool → Option (Int × ByteArray)
 | 0, _, _, _, _, _, _ => none
 | k + 1, x3, x16, x23, x252000, x252001, x252002 => if x23 = true then (newelref05_word.j3 k 4 x252000 x252001 x252002) else (if x16.toList = ([115, 110, 97, 112, 115, 104, 111, 116] : List UInt8) then (newelref05_word.j3 k 5 x252000 x252001 x252002) else (if x16.toList = ([103, 97] : List UInt8) then (newelref05_word.j2 k x3 x16 (x16.toList == ([103, 97] : List UInt8)) x252000 x252001 x252002) else (if x16.toList = ([102, 105, 110, 97, 108] : List UInt8) then (newelref05_word.j2 k x3 x16 (x16.toList == ([102, 105, 110, 97, 108] : List UInt8)) x252000 x252001 x252002) else (newelref05_word.j2 k x3 x16 (x16.toList == ([114, 101, 108, 101, 97, 115, 101] : List UInt8)) x252000 x252001 x252002))))
def newelref05_word.j2 : Nat → Int → ByteArray → Bool → ByteArray → Bool → Bool → Option (Int × ByteArray)
 | 0, _, _, _, _, _, _ => none
 | k + 1, x3, x16, x28, x252000, x252001, x252002 => if x28 = true then (newelref05_word.j3 k 6 x252000 x252001 x252002) else (if x16.toList = ([115, 112] : List UInt8) then (newelref05_word.j3 k 7 x252000 x252001 x252002) else (newelref05_word.j3 k x3 x252000 x252001 x252002))
end
def newelref05_word.f (k : Nat) (a0_0 : ByteArray) (a0_1 : Bool) (a0_2 : Bool) : Option (Int × ByteArray) := if a0_0.toList = ([] : List UInt8) then (newelref05_word.j0 k true a0_0 a0_1 a0_2) else (if 0 < (a0_0.size : Int) then ((newelref01_Digit.f (bt a0_0 0)).bind fun t253 => (newelref05_word.j0 k t253 a0_0 a0_1 a0_2)) else (none))
theorem newelref05_word.mono_l : ∀ k, (∀ y0 y1 y2 y3, LeO (newelref05_word.j0 k y0 y1 y2 y3) (newelref05_word.j0 (k + 1) y0 y1 y2 y3)) ∧ (∀ y0 y1 y2 y3, LeO (newelref05_word.j3 k y0 y1 y2 y3) (newelref05_word.j3 (k + 1) y0 y1 y2 y3)) ∧ (∀ y0 y1 y2 y3 y4 y5, LeO (newelref05_word.j1 k y0 y1 y2 y3 y4 y5) (newelref05_word.j1 (k + 1) y0 y1 y2 y3 y4 y5)) ∧ (∀ y0 y1 y2 y3 y4 y5, LeO (newelref05_word.j2 k y0 y1 y2 y3 y4 y5) (newelref05_word.j2 (k + 1) y0 y1 y2 y3 y4 y5))
 | 0 => ⟨fun _ _ _ _ r h => by simp [newelref05_word.j0] at h, fun _ _ _ _ r h => by simp [newelref05_word.j3] at h, fun _ _ _ _ _ _ r h => by simp [newelref05_word.j1] at h, fun _ _ _ _ _ _ r h => by simp [newelref05_word.j2] at h⟩
 | k + 1 => by
  obtain ⟨ih0, ih1, ih2, ih3⟩ := newelref05_word.mono_l k
  refine ⟨?_, ?_, ?_, ?_⟩
  ·intro y0 y1 y2 y3
   unfold newelref05_word.j0
   have m0 := @newelref05_number.mono
   exact mo
  ·intro y0 y1 y2 y3
   unfold newelref05_word.j3
   have m0 := @newelref05_number.mono
   exact mo
  ·intro y0 y1 y2 y3 y4 y5
   unfold newelref05_word.j1
   have m0 := @newelref05_number.mono
   exact mo
  ·intro y0 y1 y2 y3 y4 y5
   unfold newelref05_word.j2
   have m0 := @newelref05_number.mono
   exact mo
theorem newelref05_word.mono : ∀ a0 a1 a2 k, LeO (newelref05_word.f k a0 a1 a2) (newelref05_word.f (k + 1) a0 a1 a2) := by
 intro a0 a1 a2 k
 obtain ⟨ih0, ih1, ih2, ih3⟩ := newelref05_word.mono_l k
 unfold newelref05_word.f
 have m0 := @newelref05_number.mono
 exact mo
theorem newelref05_word.calls (k : Nat) (a0_0 : ByteArray) (a0_1 : Bool) (a0_2 : Bool) (r1 : Int) (r2 : ByteArray) (w : World) (hG : Glob w) (h : newelref05_word.f k a0_0 a0_1 a0_2 = some (r1, r2)) :
 Calls Tryd.prog 77 #[.agg #[.string a0_0, .bool a0_1, .bool a0_2]] w fun e w' => e = .returned (.agg #[.int .i64 r1, .string r2]) ∧ Below w.heap.size w w' := by
 have hu98 := Tryd.underlying98
 have hu38 := Tryd.underlying38
 have HG := Aside0.mk hG
 clear hG
 have HB := Aside0.mk (Below.refl w.heap.size w)
 have H : (if a0_0.toList = ([] : List UInt8) then (newelref05_word.j0 k true a0_0 a0_1 a0_2) else (if 0 < (a0_0.size : Int) then ((newelref01_Digit.f (bt a0_0 0)).bind fun t253 => (newelref05_word.j0 k t253 a0_0 a0_1 a0_2)) else (none))) = some (r1, r2) := h
 clear h
 have HC2 := Aside0.mk H
 clear H
 go_enter Tryd.func77, Tryd.ntmps77
 go_upto_region 1 with (first | (refine be 1 #[.string a0_0, .bool a0_1, .bool a0_2] 98 ?_; intro gb251 hg w3 hbox hb; have BK251 := Aside0.mk (hbox); have GW251 := gW hg; have GE251 := gW hg; replace HB := sB hb; clear hb hbox hg) | (refine be 2 #[.int .i64 0, .string (⟨#[]⟩ : ByteArray)] 38 ?_; intro gb252 hg w4 hbox hb; have BK252 := Aside0.mk (hbox); have GW252 := gW hg; have GE252 := gW hg; replace HB := sB hb; have NB251_252 := nL BK251 hg; have NB252_251 := nG BK251 hg; replace BK251 := kB BK251 hb; clear hb hbox hg))
 (try simp only [Act.put, List.setIfInBounds_toArray, List.set_cons_zero, List.set_cons_succ])
 go_cut [12] (fun v12 wc => ∃ (kq : Nat) (x12_1 : Bool), v12 = .bool x12_1 ∧ Aside0 (newelref05_word.j0 kq x12_1 a0_0 a0_1 a0_2 = some (r1, r2)) ∧ Aside0 (kq ≤ k) ∧ Aside0 (wc.heap[gb251]? = some (.cells #[.string a0_0, .bool a0_1, .bool a0_2] 98 (0, 0))) ∧ Aside0 (wc.heap[gb252]? = some (.cells #[.int .i64 0, .string (⟨#[]⟩ : ByteArray)] 38 (0, 0))) ∧ Aside0 (Below w.heap.size w wc))
 case first =>
  have H := HC2.out
  clear HC2
  by_cases c5 : a0_0.toList = ([] : List UInt8)
  ·rw [if_pos c5] at H
   obtain ⟨c5b0, c5b1⟩ := eqT c5
   (try (have c5b2 : a0_0.toList.isEmpty = true := by simpa using c5))
   clear c5
   (first | rw [c5b0] | rw [c5b2] | (simp only [i64_w, i32_w]; rw [c5b0]) | skip)
   have H' := Aside0.mk H
   clear H
   have hnb6 := NB251_252.out
   have hnc6 := NB252_251.out
   obtain ⟨hcz7_0, hcz7_1, hcz7_2, hfz7_0, hfz7_1, hfz7_2⟩ := cells3 BK251
   go_wp2
   go_meet
   case rel => exact ⟨_, (true), cA, H', ⟨by first | omega | exact Nat.le_refl _⟩, ⟨bK BK251⟩, ⟨bK BK252⟩, ⟨bG⟩⟩
  rw [if_neg c5] at H
  obtain ⟨c5b0, c5b1⟩ := eqF c5
  (try (have c5b2 : a0_0.toList.isEmpty = false := by simpa using c5))
  (first | rw [c5b0] | rw [c5b2] | (simp only [i64_w, i32_w]; rw [c5b0]) | skip)
  by_cases c8 : 0 < (a0_0.size : Int)
  rotate_left
  ·rw [if_neg c8] at H
   exact absurd H (by simp)
  rw [if_pos c8] at H
  have c8b0 := dT c8
  have c8b1 : decide (0 < a0_0.size) = true := decide_eq_true (by omega)
  clear c8
  replace H := bi H
  obtain ⟨t253, A100, H⟩ := H
  try dsimp only at H
  have A10 := Aside0.mk A100
  clear A100
  have H' := Aside0.mk H
  clear H
  have hnb11 := NB251_252.out
  have hnc11 := NB252_251.out
  obtain ⟨hcz12_0, hcz12_1, hcz12_2, hfz12_0, hfz12_1, hfz12_2⟩ := cells3 BK251
  have p9 : 0 ≤ (0 : Int) := (by omega)
  have q9 : 0 < a0_0.size := (by have : (0 : Int) < (a0_0.size : Int) := dA; omega)
  have hx9 : ∀ h : 0 < a0_0.size, ((a0_0[0]'h).toNat : Int) = bt a0_0 0 := bt_at a0_0 0
  clear p9
  have qi9 : (0 < (a0_0.size : Int)) = True := eq_true (dA)
  replace q9 := eq_true q9
  go_wp2_with (first | (go_at_call 78; (with_reducible refine (newelref01_Digit.calls (bt a0_0 0) t253 _ (gS HG) A10.out).mono ?_); rintro e w' ⟨rfl, ⟨nd, rfl⟩⟩))
  go_meet
  case rel => exact ⟨_, (t253), cA, H', ⟨by first | omega | exact Nat.le_refl _⟩, ⟨bK BK251⟩, ⟨bK BK252⟩, ⟨bG⟩⟩
 clear HC2
 try clear c1
 try clear p2
 try clear c5
 try clear c5b0
 try clear c5b1
 try clear c5b2
 try clear c6
 try clear c7
 try clear c8
 try clear c8b0
 try clear c8b1
 try clear p9
 try clear q9
 try clear hx9
 try clear qi9
 try clear c11
 try clear hcz12_0
 try clear hcz12_1
 try clear hcz12_2
 try clear hcz7_0
 try clear hcz7_1
 try clear hcz7_2
 try clear hfz12_0
 try clear hfz12_1
 try clear hfz12_2
 try clear hfz7_0
 try clear hfz7_1
 try clear hfz7_2
 try clear p9
 try clear q9
 obtain ⟨kq, x12_1, rfl, HA, HJ1, BK251, BK252, HB⟩ := hcut
 cases kq with
 | zero => exact absurd HA.out (by simp [newelref05_word.j0])
 | succ kj1 =>
  have H := HA.out
  clear HA
  simp only [newelref05_word.j0] at H
  (try simp only [toList_lit] at H)
  by_cases c13 : x12_1 = true
  ·subst c13
   have H1 : ((newelref05_number.f kj1 a0_0 a0_1 a0_2).bind fun bt254 => (some (bt254.1, bt254.2))) = some (r1, r2) := by rw [if_pos rfl] at H; exact H
   clear H
   have H := H1
   clear H1
   replace H := bi H
   obtain ⟨⟨t254, t255⟩, A140, H⟩ := H
   try dsimp only at H
   have A14 := Aside0.mk A140
   clear A140
   simp only [Option.some.injEq, Prod.mk.injEq] at H
   obtain ⟨rfl, rfl⟩ := H
   have hnb15 := NB251_252.out
   have hnc15 := NB252_251.out
   obtain ⟨hcz16_0, hcz16_1, hcz16_2, hfz16_0, hfz16_1, hfz16_2⟩ := cells3 BK251
   go_wp2_with (first | (refine gl (some 14) Tryd.func109 #[.agg #[.string a0_0, .bool a0_1, .bool a0_2]] ?_; (with_reducible refine (newelref05_number.calls kj1 a0_0 a0_1 a0_2 t254 t255 _ (gS HG) A14.out).mono ?_); rintro e w17 ⟨rfl, hb⟩; refine ⟨_, rfl, ?_⟩; replace BK251 := kB BK251 hb; replace BK252 := kB BK252 hb; replace HB := sB hb; (try clear hb); have hcz18_0 : w17.cell? ⟨gb252, 0, none⟩ = some (.int .i64 0) := (blk_cell BK252.out 0).trans rfl; have hcz18_1 : w17.cell? ⟨gb252, 1, none⟩ = some (.string (⟨#[]⟩ : ByteArray)) := (blk_cell BK252.out 1).trans rfl; have hfz18_0 := blk_frozen BK252.out 0; have hfz18_1 := blk_frozen BK252.out 1))
   refine bodyPost_ret (results_cell_row rfl _ _ gb252 38 #[.int .i64 t254, .string t255] (0, 0) _ rfl (bP BK252) Tryd.underlying38 rfl (by kernel_rfl)) rfl ?_
   exact ⟨eA, bG⟩
  replace c13 := Bool.eq_false_iff.mpr c13
  subst c13
  have H1 : (if a0_0.toList = ([97, 108, 112, 104, 97] : List UInt8) then (newelref05_word.j3 kj1 1 a0_0 a0_1 a0_2) else (if a0_0.toList = ([98, 101, 116, 97] : List UInt8) then (newelref05_word.j3 kj1 2 a0_0 a0_1 a0_2) else (if a0_0.toList = ([109, 105, 108, 101, 115, 116, 111, 110, 101] : List UInt8) then (newelref05_word.j3 kj1 3 a0_0 a0_1 a0_2) else (if a0_0.toList = ([114, 99] : List UInt8) then (newelref05_word.j1 kj1 8 a0_0 (a0_0.toList == ([114, 99] : List UInt8)) a0_0 a0_1 a0_2) else (newelref05_word.j1 kj1 8 a0_0 (a0_0.toList == ([99, 114] : List UInt8)) a0_0 a0_1 a0_2))))) = some (r1, r2) := by rw [if_neg (show ¬ (false = true) by decide)] at H; exact H
  clear H
  have H := H1
  clear H1
  have HC19 := Aside0.mk H
  clear H
  have hnb20 := NB251_252.out
  have hnc20 := NB252_251.out
  obtain ⟨hcz21_0, hcz21_1, hcz21_2, hfz21_0, hfz21_1, hfz21_2⟩ := cells3 BK251
  go_upto_block 0 with (fail)
  go_cut [3] (fun v3 wc => ∃ (kq : Nat) (x3_18 : Int), v3 = .int .i64 x3_18 ∧ Aside0 (newelref05_word.j3 kq x3_18 a0_0 a0_1 a0_2 = some (r1, r2)) ∧ Aside0 (kq ≤ kj1) ∧ Aside0 (wc.heap[gb251]? = some (.cells #[.string a0_0, .bool a0_1, .bool a0_2] 98 (0, 0))) ∧ Aside0 (wc.heap[gb252]? = some (.cells #[.int .i64 0, .string (⟨#[]⟩ : ByteArray)] 38 (0, 0))) ∧ Aside0 (Below w.heap.size w wc))
  case first =>
   have H := HC19.out
   clear HC19
   by_cases c22 : a0_0.toList = ([97, 108, 112, 104, 97] : List UInt8)
   ·rw [if_pos c22] at H
    obtain ⟨c22b0, c22b1⟩ := eqT c22
    clear c22
    (first | rw [c22b0] | (simp only [i64_w, i32_w]; rw [c22b0]) | skip)
    have H' := Aside0.mk H
    clear H
    go_wp2
    go_meet
    case rel => exact ⟨_, (1), cA, H', ⟨by have := HJ1.out; first | omega | exact Nat.le_refl _⟩, ⟨bK BK251⟩, ⟨bK BK252⟩, ⟨bG⟩⟩
   rw [if_neg c22] at H
   obtain ⟨c22b0, c22b1⟩ := eqF c22
   (first | rw [c22b0] | (simp only [i64_w, i32_w]; rw [c22b0]) | skip)
   by_cases c23 : a0_0.toList = ([98, 101, 116, 97] : List UInt8)
   ·rw [if_pos c23] at H
    obtain ⟨c23b0, c23b1⟩ := eqT c23
    clear c23
    have H' := Aside0.mk H
    clear H
    go_wp2
    go_meet
    case rel => exact ⟨_, (2), cA, H', ⟨by have := HJ1.out; first | omega | exact Nat.le_refl _⟩, ⟨bK BK251⟩, ⟨bK BK252⟩, ⟨bG⟩⟩
   rw [if_neg c23] at H
   obtain ⟨c23b0, c23b1⟩ := eqF c23
   by_cases c24 : a0_0.toList = ([109, 105, 108, 101, 115, 116, 111, 110, 101] : List UInt8)
   ·rw [if_pos c24] at H
    obtain ⟨c24b0, c24b1⟩ := eqT c24
    clear c24
    have H' := Aside0.mk H
    clear H
    go_wp2
    go_meet
    case rel => exact ⟨_, (3), cA, H', ⟨by have := HJ1.out; first | omega | exact Nat.le_refl _⟩, ⟨bK BK251⟩, ⟨bK BK252⟩, ⟨bG⟩⟩
   rw [if_neg c24] at H
   obtain ⟨c24b0, c24b1⟩ := eqF c24
   have HC25 := Aside0.mk H
   clear H
   go_upto_if 23 with (fail)
   go_cut [23] (fun v23 wc => ∃ (kq : Nat) (x23_24 : Bool), v23 = .bool x23_24 ∧ Aside0 (newelref05_word.j1 kq 8 a0_0 x23_24 a0_0 a0_1 a0_2 = some (r1, r2)) ∧ Aside0 (kq ≤ kj1) ∧ Aside0 (wc.heap[gb251]? = some (.cells #[.string a0_0, .bool a0_1, .bool a0_2] 98 (0, 0))) ∧ Aside0 (wc.heap[gb252]? = some (.cells #[.int .i64 0, .string (⟨#[]⟩ : ByteArray)] 38 (0, 0))) ∧ Aside0 (Below w.heap.size w wc))
   case first =>
    have H := HC25.out
    clear HC25
    by_cases c26 : a0_0.toList = ([114, 99] : List UInt8)
    rotate_left
    ·rw [if_neg c26] at H
     obtain ⟨c26b0, c26b1⟩ := eqF c26
     (first | rw [c26b0] | (simp only [i64_w, i32_w]; rw [c26b0]) | skip)
     have H' := Aside0.mk H
     clear H
     go_wp2
     go_meet
     case rel => exact ⟨_, ((a0_0.toList == ([99, 114] : List UInt8))), cA, H', ⟨by have := HJ1.out; first | omega | exact Nat.le_refl _⟩, ⟨bK BK251⟩, ⟨bK BK252⟩, ⟨bG⟩⟩
    rw [if_pos c26] at H
    obtain ⟨c26b0, c26b1⟩ := eqT c26
    clear c26
    (first | rw [c26b0] | (simp only [i64_w, i32_w]; rw [c26b0]) | skip)
    have H' := Aside0.mk H
    clear H
    go_wp2
    go_meet
    case rel => exact ⟨_, ((a0_0.toList == ([114, 99] : List UInt8))), cA, H', ⟨by have := HJ1.out; first | omega | exact Nat.le_refl _⟩, ⟨bK BK251⟩, ⟨bK BK252⟩, ⟨bG⟩⟩
   clear HC25
   try clear c1
   try clear c2
   try clear p2
   try clear c5
   try clear c5b0
   try clear c5b1
   try clear c5b2
   try clear c6
   try clear c7
   try clear c8
   try clear c8b0
   try clear c8b1
   try clear p9
   try clear q9
   try clear hx9
   try clear qi9
   try clear c10
   try clear c11
   try clear c13
   try clear c15
   try clear c20
   try clear c22
   try clear c22b0
   try clear c22b1
   try clear c23
   try clear c23b0
   try clear c23b1
   try clear c24
   try clear c24b0
   try clear c24b1
   try clear c26
   try clear c26b0
   try clear c26b1
   try clear hcz12_0
   try clear hcz12_1
   try clear hcz12_2
   try clear hcz16_0
   try clear hcz16_1
   try clear hcz16_2
   try clear hcz18_0
   try clear hcz18_1
   try clear hcz21_0
   try clear hcz21_1
   try clear hcz21_2
   try clear hcz7_0
   try clear hcz7_1
   try clear hcz7_2
   try clear hfz12_0
   try clear hfz12_1
   try clear hfz12_2
   try clear hfz16_0
   try clear hfz16_1
   try clear hfz16_2
   try clear hfz18_0
   try clear hfz18_1
   try clear hfz21_0
   try clear hfz21_1
   try clear hfz21_2
   try clear hfz7_0
   try clear hfz7_1
   try clear hfz7_2
   try clear p2
   try clear p9
   try clear q9
   obtain ⟨kq, x23_24, rfl, HA, HJ24, BK251, BK252, HB⟩ := hcut
   cases kq with
   | zero => exact absurd HA.out (by simp [newelref05_word.j1])
   | succ kj24 =>
    have H := HA.out
    clear HA
    simp only [newelref05_word.j1] at H
    (try simp only [toList_lit] at H)
    by_cases c27 : x23_24 = true
    ·subst c27
     have H1 : (newelref05_word.j3 kj24 4 a0_0 a0_1 a0_2) = some (r1, r2) := by rw [if_pos rfl] at H; exact H
     clear H
     have H := H1
     clear H1
     have H' := Aside0.mk H
     clear H
     go_wp2
     go_meet
     case rel => exact ⟨_, (4), cA, H', ⟨by have := HJ1.out; have := HJ24.out; first | omega | exact Nat.le_refl _⟩, ⟨bK BK251⟩, ⟨bK BK252⟩, ⟨bG⟩⟩
    replace c27 := Bool.eq_false_iff.mpr c27
    subst c27
    have H1 : (if a0_0.toList = ([115, 110, 97, 112, 115, 104, 111, 116] : List UInt8) then (newelref05_word.j3 kj24 5 a0_0 a0_1 a0_2) else (if a0_0.toList = ([103, 97] : List UInt8) then (newelref05_word.j2 kj24 8 a0_0 (a0_0.toList == ([103, 97] : List UInt8)) a0_0 a0_1 a0_2) else (if a0_0.toList = ([102, 105, 110, 97, 108] : List UInt8) then (newelref05_word.j2 kj24 8 a0_0 (a0_0.toList == ([102, 105, 110, 97, 108] : List UInt8)) a0_0 a0_1 a0_2) else (newelref05_word.j2 kj24 8 a0_0 (a0_0.toList == ([114, 101, 108, 101, 97, 115, 101] : List UInt8)) a0_0 a0_1 a0_2)))) = some (r1, r2) := by rw [if_neg (show ¬ (false = true) by decide)] at H; exact H
    clear H
    have H := H1
    clear H1
    by_cases c28 : a0_0.toList = ([115, 110, 97, 112, 115, 104, 111, 116] : List UInt8)
    ·rw [if_pos c28] at H
     obtain ⟨c28b0, c28b1⟩ := eqT c28
     clear c28
     have H' := Aside0.mk H
     clear H
     go_wp2
     go_meet
     case rel => exact ⟨_, (5), cA, H', ⟨by have := HJ1.out; have := HJ24.out; first | omega | exact Nat.le_refl _⟩, ⟨bK BK251⟩, ⟨bK BK252⟩, ⟨bG⟩⟩
    rw [if_neg c28] at H
    obtain ⟨c28b0, c28b1⟩ := eqF c28
    have HC29 := Aside0.mk H
    clear H
    go_upto_if 28 with (fail)
    go_cut [28] (fun v28 wc => ∃ (kq : Nat) (x28_28 : Bool), v28 = .bool x28_28 ∧ Aside0 (newelref05_word.j2 kq 8 a0_0 x28_28 a0_0 a0_1 a0_2 = some (r1, r2)) ∧ Aside0 (kq ≤ kj24) ∧ Aside0 (wc.heap[gb251]? = some (.cells #[.string a0_0, .bool a0_1, .bool a0_2] 98 (0, 0))) ∧ Aside0 (wc.heap[gb252]? = some (.cells #[.int .i64 0, .string (⟨#[]⟩ : ByteArray)] 38 (0, 0))) ∧ Aside0 (Below w.heap.size w wc))
    case first =>
     have H := HC29.out
     clear HC29
     by_cases c30 : a0_0.toList = ([103, 97] : List UInt8)
     ·rw [if_pos c30] at H
      obtain ⟨c30b0, c30b1⟩ := eqT c30
      clear c30
      (first | rw [c30b0] | (simp only [i64_w, i32_w]; rw [c30b0]) | skip)
      have H' := Aside0.mk H
      clear H
      go_wp2
      go_meet
      case rel => exact ⟨_, ((a0_0.toList == ([103, 97] : List UInt8))), cA, H', ⟨by have := HJ1.out; have := HJ24.out; first | omega | exact Nat.le_refl _⟩, ⟨bK BK251⟩, ⟨bK BK252⟩, ⟨bG⟩⟩
     rw [if_neg c30] at H
     obtain ⟨c30b0, c30b1⟩ := eqF c30
     (first | rw [c30b0] | (simp only [i64_w, i32_w]; rw [c30b0]) | skip)
     by_cases c31 : a0_0.toList = ([102, 105, 110, 97, 108] : List UInt8)
     rotate_left
     ·rw [if_neg c31] at H
      obtain ⟨c31b0, c31b1⟩ := eqF c31
      have H' := Aside0.mk H
      clear H
      go_wp2
      go_meet
      case rel => exact ⟨_, ((a0_0.toList == ([114, 101, 108, 101, 97, 115, 101] : List UInt8))), cA, H', ⟨by have := HJ1.out; have := HJ24.out; first | omega | exact Nat.le_refl _⟩, ⟨bK BK251⟩, ⟨bK BK252⟩, ⟨bG⟩⟩
     rw [if_pos c31] at H
     obtain ⟨c31b0, c31b1⟩ := eqT c31
     clear c31
     have H' := Aside0.mk H
     clear H
     go_wp2
     go_meet
     case rel => exact ⟨_, ((a0_0.toList == ([102, 105, 110, 97, 108] : List UInt8))), cA, H', ⟨by have := HJ1.out; have := HJ24.out; first | omega | exact Nat.le_refl _⟩, ⟨bK BK251⟩, ⟨bK BK252⟩, ⟨bG⟩⟩
    clear HC29
    try clear c1
    try clear c2
    try clear p2
    try clear c3
    try clear c5
    try clear c5b0
    try clear c5b1
    try clear c5b2
    try clear c6
    try clear c7
    try clear c8
    try clear c8b0
    try clear c8b1
    try clear p9
    try clear q9
    try clear hx9
    try clear qi9
    try clear c10
    try clear c11
    try clear c13
    try clear c15
    try clear c20
    try clear c22
    try clear c22b0
    try clear c22b1
    try clear c23
    try clear c23b0
    try clear c23b1
    try clear c24
    try clear c24b0
    try clear c24b1
    try clear c26
    try clear c26b0
    try clear c26b1
    try clear c27
    try clear c28
    try clear c28b0
    try clear c28b1
    try clear c30
    try clear c30b0
    try clear c30b1
    try clear c31
    try clear c31b0
    try clear c31b1
    try clear hcz12_0
    try clear hcz12_1
    try clear hcz12_2
    try clear hcz16_0
    try clear hcz16_1
    try clear hcz16_2
    try clear hcz18_0
    try clear hcz18_1
    try clear hcz21_0
    try clear hcz21_1
    try clear hcz21_2
    try clear hcz7_0
    try clear hcz7_1
    try clear hcz7_2
    try clear hfz12_0
    try clear hfz12_1
    try clear hfz12_2
    try clear hfz16_0
    try clear hfz16_1
    try clear hfz16_2
    try clear hfz18_0
    try clear hfz18_1
    try clear hfz21_0
    try clear hfz21_1
    try clear hfz21_2
    try clear hfz7_0
    try clear hfz7_1
    try clear hfz7_2
    try clear p2
    try clear p9
    try clear q9
    obtain ⟨kq, x28_28, rfl, HA, HJ28, BK251, BK252, HB⟩ := hcut
    cases kq with
    | zero => exact absurd HA.out (by simp [newelref05_word.j2])
    | succ kj28 =>
     have H := HA.out
     clear HA
     simp only [newelref05_word.j2] at H
     (try simp only [toList_lit] at H)
     by_cases c32 : x28_28 = true
     ·subst c32
      have H1 : (newelref05_word.j3 kj28 6 a0_0 a0_1 a0_2) = some (r1, r2) := by rw [if_pos rfl] at H; exact H
      clear H
      have H := H1
      clear H1
      have H' := Aside0.mk H
      clear H
      go_wp2
      go_meet
      case rel => exact ⟨_, (6), cA, H', ⟨by have := HJ1.out; have := HJ24.out; have := HJ28.out; first | omega | exact Nat.le_refl _⟩, ⟨bK BK251⟩, ⟨bK BK252⟩, ⟨bG⟩⟩
     replace c32 := Bool.eq_false_iff.mpr c32
     subst c32
     have H1 : (if a0_0.toList = ([115, 112] : List UInt8) then (newelref05_word.j3 kj28 7 a0_0 a0_1 a0_2) else (newelref05_word.j3 kj28 8 a0_0 a0_1 a0_2)) = some (r1, r2) := by rw [if_neg (show ¬ (false = true) by decide)] at H; exact H
     clear H
     have H := H1
     clear H1
     by_cases c33 : a0_0.toList = ([115, 112] : List UInt8)
     rotate_left
     ·rw [if_neg c33] at H
      obtain ⟨c33b0, c33b1⟩ := eqF c33
      have H' := Aside0.mk H
      clear H
      go_wp2
      go_meet
      case rel => exact ⟨_, (8), cA, H', ⟨by have := HJ1.out; have := HJ24.out; have := HJ28.out; first | omega | exact Nat.le_refl _⟩, ⟨bK BK251⟩, ⟨bK BK252⟩, ⟨bG⟩⟩
     rw [if_pos c33] at H
     obtain ⟨c33b0, c33b1⟩ := eqT c33
     clear c33
     have H' := Aside0.mk H
     clear H
     go_wp2
     go_meet
     case rel => exact ⟨_, (7), cA, H', ⟨by have := HJ1.out; have := HJ24.out; have := HJ28.out; first | omega | exact Nat.le_refl _⟩, ⟨bK BK251⟩, ⟨bK BK252⟩, ⟨bG⟩⟩
  clear HC19
  try clear c1
  try clear c2
  try clear p2
  try clear c3
  try clear c5
  try clear c5b0
  try clear c5b1
  try clear c5b2
  try clear c6
  try clear c7
  try clear c8
  try clear c8b0
  try clear c8b1
  try clear p9
  try clear q9
  try clear hx9
  try clear qi9
  try clear c10
  try clear c11
  try clear c13
  try clear c15
  try clear c20
  try clear c22
  try clear c22b0
  try clear c22b1
  try clear c23
  try clear c23b0
  try clear c23b1
  try clear c24
  try clear c24b0
  try clear c24b1
  try clear c26
  try clear c26b0
  try clear c26b1
  try clear c27
  try clear c28
  try clear c28b0
  try clear c28b1
  try clear c30
  try clear c30b0
  try clear c30b1
  try clear c31
  try clear c31b0
  try clear c31b1
  try clear c32
  try clear c33
  try clear c33b0
  try clear c33b1
  try clear hcz12_0
  try clear hcz12_1
  try clear hcz12_2
  try clear hcz16_0
  try clear hcz16_1
  try clear hcz16_2
  try clear hcz18_0
  try clear hcz18_1
  try clear hcz21_0
  try clear hcz21_1
  try clear hcz21_2
  try clear hcz7_0
  try clear hcz7_1
  try clear hcz7_2
  try clear hfz12_0
  try clear hfz12_1
  try clear hfz12_2
  try clear hfz16_0
  try clear hfz16_1
  try clear hfz16_2
  try clear hfz18_0
  try clear hfz18_1
  try clear hfz21_0
  try clear hfz21_1
  try clear hfz21_2
  try clear hfz7_0
  try clear hfz7_1
  try clear hfz7_2
  try clear p2
  try clear p9
  try clear q9
  obtain ⟨kq, x3_18, rfl, HA, HJ18, BK251, BK252, HB⟩ := hcut
  cases kq with
  | zero => exact absurd HA.out (by simp [newelref05_word.j3])
  | succ kj18 =>
   have H := HA.out
   clear HA
   simp only [newelref05_word.j3] at H
   (try simp only [toList_lit] at H)
   by_cases c34 : a0_2 = true
   rotate_left
   ·replace c34 := Bool.eq_false_iff.mpr c34
    subst c34
    have H1 : (if x3_18 = 8 then (some (x3_18, a0_0)) else (some (x3_18, (⟨#[]⟩ : ByteArray)))) = some (r1, r2) := by rw [if_neg (show ¬ (false = true) by decide)] at H; exact H
    clear H
    have H := H1
    clear H1
    by_cases c54 : x3_18 = 8
    rotate_left
    ·rw [if_neg c54] at H
     obtain ⟨c54b0, c54b1⟩ := eqF c54
     simp only [Option.some.injEq, Prod.mk.injEq] at H
     obtain ⟨rfl, rfl⟩ := H
     have hnb58 := NB251_252.out
     have hnc58 := NB252_251.out
     obtain ⟨hcz59_0, hcz59_1, hcz59_2, hfz59_0, hfz59_1, hfz59_2⟩ := cells3 BK251
     obtain ⟨hcz60_0, hcz60_1, hfz60_0, hfz60_1⟩ := cells2 BK252
     go_wp2
     refine bodyPost_ret (results_cell_row rfl _ _ gb252 38 #[.int .i64 x3_18, .string (⟨#[]⟩ : ByteArray)] (0, 0) _ rfl (bP BK252) Tryd.underlying38 rfl (by kernel_rfl)) rfl ?_
     exact ⟨eA, bG⟩
    rw [if_pos c54] at H
    obtain ⟨c54b0, c54b1⟩ := eqT c54
    clear c54
    simp only [Option.some.injEq, Prod.mk.injEq] at H
    obtain ⟨rfl, rfl⟩ := H
    have hnb55 := NB251_252.out
    have hnc55 := NB252_251.out
    obtain ⟨hcz56_0, hcz56_1, hcz56_2, hfz56_0, hfz56_1, hfz56_2⟩ := cells3 BK251
    obtain ⟨hcz57_0, hcz57_1, hfz57_0, hfz57_1⟩ := cells2 BK252
    go_wp2
    refine bodyPost_ret (results_cell_row rfl _ _ gb252 38 #[.int .i64 x3_18, .string a0_0] (0, 0) _ rfl (bP BK252) Tryd.underlying38 rfl (by kernel_rfl)) rfl ?_
    exact ⟨eA, bG⟩
   subst c34
   have H1 : (if a0_0.toList = ([97] : List UInt8) then (some (1, (⟨#[]⟩ : ByteArray))) else (if a0_0.toList = ([98] : List UInt8) then (some (2, (⟨#[]⟩ : ByteArray))) else (if a0_0.toList = ([109] : List UInt8) then (some (3, (⟨#[]⟩ : ByteArray))) else (if x3_18 = 8 then (some (x3_18, a0_0)) else (some (x3_18, (⟨#[]⟩ : ByteArray))))))) = some (r1, r2) := by rw [if_pos rfl] at H; exact H
   clear H
   have H := H1
   clear H1
   by_cases c35 : a0_0.toList = ([97] : List UInt8)
   ·rw [if_pos c35] at H
    obtain ⟨c35b0, c35b1⟩ := eqT c35
    clear c35
    simp only [Option.some.injEq, Prod.mk.injEq] at H
    obtain ⟨rfl, rfl⟩ := H
    have hnb36 := NB251_252.out
    have hnc36 := NB252_251.out
    obtain ⟨hcz37_0, hcz37_1, hcz37_2, hfz37_0, hfz37_1, hfz37_2⟩ := cells3 BK251
    obtain ⟨hcz38_0, hcz38_1, hfz38_0, hfz38_1⟩ := cells2 BK252
    go_wp2
    refine bodyPost_ret (results_cell_row rfl _ _ gb252 38 #[.int .i64 1, .string (⟨#[]⟩ : ByteArray)] (0, 0) _ rfl (bP BK252) Tryd.underlying38 rfl (by kernel_rfl)) rfl ?_
    exact ⟨eA, bG⟩
   rw [if_neg c35] at H
   obtain ⟨c35b0, c35b1⟩ := eqF c35
   by_cases c39 : a0_0.toList = ([98] : List UInt8)
   ·rw [if_pos c39] at H
    obtain ⟨c39b0, c39b1⟩ := eqT c39
    clear c39
    simp only [Option.some.injEq, Prod.mk.injEq] at H
    obtain ⟨rfl, rfl⟩ := H
    have hnb40 := NB251_252.out
    have hnc40 := NB252_251.out
    obtain ⟨hcz41_0, hcz41_1, hcz41_2, hfz41_0, hfz41_1, hfz41_2⟩ := cells3 BK251
    obtain ⟨hcz42_0, hcz42_1, hfz42_0, hfz42_1⟩ := cells2 BK252
    go_wp2
    refine bodyPost_ret (results_cell_row rfl _ _ gb252 38 #[.int .i64 2, .string (⟨#[]⟩ : ByteArray)] (0, 0) _ rfl (bP BK252) Tryd.underlying38 rfl (by kernel_rfl)) rfl ?_
    exact ⟨eA, bG⟩
   rw [if_neg c39] at H
   obtain ⟨c39b0, c39b1⟩ := eqF c39
   by_cases c43 : a0_0.toList = ([109] : List UInt8)
   ·rw [if_pos c43] at H
    obtain ⟨c43b0, c43b1⟩ := eqT c43
    clear c43
    simp only [Option.some.injEq, Prod.mk.injEq] at H
    obtain ⟨rfl, rfl⟩ := H
    have hnb44 := NB251_252.out
    have hnc44 := NB252_251.out
    obtain ⟨hcz45_0, hcz45_1, hcz45_2, hfz45_0, hfz45_1, hfz45_2⟩ := cells3 BK251
    obtain ⟨hcz46_0, hcz46_1, hfz46_0, hfz46_1⟩ := cells2 BK252
    go_wp2
    refine bodyPost_ret (results_cell_row rfl _ _ gb252 38 #[.int .i64 3, .string (⟨#[]⟩ : ByteArray)] (0, 0) _ rfl (bP BK252) Tryd.underlying38 rfl (by kernel_rfl)) rfl ?_
    exact ⟨eA, bG⟩
   rw [if_neg c43] at H
   obtain ⟨c43b0, c43b1⟩ := eqF c43
   by_cases c47 : x3_18 = 8
   rotate_left
   ·rw [if_neg c47] at H
    obtain ⟨c47b0, c47b1⟩ := eqF c47
    simp only [Option.some.injEq, Prod.mk.injEq] at H
    obtain ⟨rfl, rfl⟩ := H
    have hnb51 := NB251_252.out
    have hnc51 := NB252_251.out
    obtain ⟨hcz52_0, hcz52_1, hcz52_2, hfz52_0, hfz52_1, hfz52_2⟩ := cells3 BK251
    obtain ⟨hcz53_0, hcz53_1, hfz53_0, hfz53_1⟩ := cells2 BK252
    go_wp2
    refine bodyPost_ret (results_cell_row rfl _ _ gb252 38 #[.int .i64 x3_18, .string (⟨#[]⟩ : ByteArray)] (0, 0) _ rfl (bP BK252) Tryd.underlying38 rfl (by kernel_rfl)) rfl ?_
    exact ⟨eA, bG⟩
   rw [if_pos c47] at H
   obtain ⟨c47b0, c47b1⟩ := eqT c47
   clear c47
   simp only [Option.some.injEq, Prod.mk.injEq] at H
   obtain ⟨rfl, rfl⟩ := H
   have hnb48 := NB251_252.out
   have hnc48 := NB252_251.out
   obtain ⟨hcz49_0, hcz49_1, hcz49_2, hfz49_0, hfz49_1, hfz49_2⟩ := cells3 BK251
   obtain ⟨hcz50_0, hcz50_1, hfz50_0, hfz50_1⟩ := cells2 BK252
   go_wp2
   refine bodyPost_ret (results_cell_row rfl _ _ gb252 38 #[.int .i64 x3_18, .string a0_0] (0, 0) _ rfl (bP BK252) Tryd.underlying38 rfl (by kernel_rfl)) rfl ?_
   exact ⟨eA, bG⟩
def newelref05_Split.l0 : Nat → List (S98) → List (S38) → Int → Option ((List (S38)))
 | 0, _, _, _ => none
 | k + 1, x3, x4, x5 => if x5 ≥ 0 then (if 0 ≤ x5 then (if x5 < (x3.length : Int) then ((newelref05_word.f k ((rd_T98 x3 x5).f0) ((rd_T98 x3 x5).f1) ((rd_T98 x3 x5).f2)).bind fun bt261 => (if (x4.length : Int) > 0 then (if 0 < (x4.length : Int) then (if ((rd_T38 x4 0).f0) = 6 then (if bt261.1 = 6 then ((some (([(⟨bt261.1, bt261.2⟩ : S38)] : List (S38)) : List (S38))).bind fun y265 => (if y265.length + x4.length < 5864062014805 then (newelref05_Split.l0 k x3 (y265 ++ x4) (wrap64 (x5 - 1))) else (none))) else ((some (([(⟨bt261.1, bt261.2⟩ : S38)] : List (S38)) : List (S38))).bind fun y271 => (if y271.length + x4.length < 5864062014805 then (newelref05_Split.l0 k x3 (y271 ++ x4) (wrap64 (x5 - 1))) else (none)))) else (if bt261.1 = 6 then (if (((rd_T38 x4 0).f0) = 10) then ((some (([(⟨bt261.1, bt261.2⟩ : S38)] : List (S38)) : List (S38))).bind fun y278 => (if y278.length + x4.length < 5864062014805 then (newelref05_Split.l0 k x3 (y278 ++ x4) (wrap64 (x5 - 1))) else (none))) else (newelref05_Split.l0 k x3 x4 (wrap64 (x5 - 1)))) else ((some (([(⟨bt261.1, bt261.2⟩ : S38)] : List (S38)) : List (S38))).bind fun y284 => (if y284.length + x4.length < 5864062014805 then (newelref05_Split.l0 k x3 (y284 ++ x4) (wrap64 (x5 - 1))) else (none))))) else (none)) else (if bt261.1 = 6 then (newelref05_Split.l0 k x3 x4 (wrap64 (x5 - 1))) else ((some (([(⟨bt261.1, bt261.2⟩ : S38)] : List (S38)) : List (S38))).bind fun y290 => (if y290.length + x4.length < 5864062014805 then (newelref05_Split.l0 k x3 (y290 ++ x4) (wrap64 (x5 - 1))) else (none)))))) else (none)) else (none)) else (some x4)
def newelref05_Split.f (k : Nat) (a0 : ByteArray) : Option ((List (S38))) := (newelref01_Lower.f k a0).bind fun t256 => ((newelref05_parts.f k t256).bind fun t257 => (newelref05_Split.l0 k t257 ([] : List (S38)) (wrap64 ((t257.length : Int) - 1))))
theorem newelref05_Split.mono_l : ∀ k, (∀ y0 y1 y2, LeO (newelref05_Split.l0 k y0 y1 y2) (newelref05_Split.l0 (k + 1) y0 y1 y2))
 | 0 => fun _ _ _ r h => by simp [newelref05_Split.l0] at h
 | k + 1 => by
  have ih0 := newelref05_Split.mono_l k
  ·intro y0 y1 y2
   unfold newelref05_Split.l0
   have m0 := @newelref01_Lower.mono
   have m1 := @newelref05_parts.mono
   have m2 := @newelref05_word.mono
   exact mo
theorem newelref05_Split.mono : ∀ a0 k, LeO (newelref05_Split.f k a0) (newelref05_Split.f (k + 1) a0) := by
 intro a0 k
 have ih0 := newelref05_Split.mono_l k
 unfold newelref05_Split.f
 have m0 := @newelref01_Lower.mono
 have m1 := @newelref05_parts.mono
 have m2 := @newelref05_word.mono
 exact mo
theorem newelref05_Split.calls (k : Nat) (a0 : ByteArray) (r : List (S38)) (w : World) (hG : Glob w) (h : newelref05_Split.f k a0 = some r) :
 Calls Tryd.prog 32 #[.string a0] w fun e w' => ∃ v0_ : Value, e = .returned (v0_) ∧ Kd.R k38 38 w' w.heap.size (fun _ => True) v0_ r ∧ Below w.heap.size w w' := by
 have hu98 := Tryd.underlying98
 have hu38 := Tryd.underlying38
 have HG := Aside0.mk hG
 clear hG
 have HB := Aside0.mk (Below.refl w.heap.size w)
 have H : ((newelref01_Lower.f k a0).bind fun t256 => ((newelref05_parts.f k t256).bind fun t257 => (newelref05_Split.l0 k t257 ([] : List (S38)) (wrap64 ((t257.length : Int) - 1))))) = some r := h
 clear h
 replace H := bi H
 obtain ⟨t256, A20, H⟩ := H
 try dsimp only at H
 have A2 := Aside0.mk A20
 clear A20
 replace H := bi H
 obtain ⟨t257, A30, H⟩ := H
 try dsimp only at H
 have A3 := Aside0.mk A30
 clear A30
 have H' := Aside0.mk H
 clear H
 go_enter Tryd.func32, Tryd.ntmps32
 go_wp2_with (first | (refine gl (some 9) Tryd.func76 #[.string a0] ?_; (with_reducible refine (newelref01_Lower.calls k a0 t256 _ (gS HG) A2.out).mono ?_); rintro e w4 ⟨rfl, hb⟩; refine ⟨_, rfl, ?_⟩; replace HB := sB hb; (try clear hb)) | (refine gl (some 10) Tryd.func75 #[.string t256] ?_; (with_reducible refine (newelref05_parts.calls k t256 t257 _ (gS HG) A3.out).mono ?_); rintro e w5 ⟨v258, rfl, ho0, hb⟩; refine ⟨_, rfl, ?_⟩; have HO259 := Aside0.mk (Kd.R_lower ho0 (below_size bE)); replace HB := sB hb; (try clear hb); (try clear ho0); obtain ⟨Ao6, co6, eo6⟩ := Kd.R_slice HO259.out; subst eo6))
 (try simp only [Act.put, List.setIfInBounds_toArray, List.set_cons_zero, List.set_cons_succ])
 go_loopg [4, 5] k (fun kq v4 v5 w' => ∃ (x4_1 : List (S38)) (x5_1 : Int), v5 = .int .i64 x5_1 ∧ Aside0 (newelref05_Split.l0 kq t257 x4_1 x5_1 = some r) ∧ Aside0 (kq ≤ k) ∧ Aside0 (Kd.R k98 98 w' w.heap.size (fun _ => True) (.slice Ao6 t257.length co6) t257) ∧ Aside0 (Kd.R k38 38 w' w.heap.size (fun _ => True) v4 x4_1) ∧ Aside0 (Below w.heap.size w w'))
 case atStart => exact ⟨(([] : List (S38))), (wrap64 ((t257.length : Int) - 1)), cA, H', ⟨Nat.le_refl _⟩, ⟨kR HO259⟩, ⟨by first | exact Kd.R_nil _ _ _ _ _ | exact Kd.N_nil _ _ _ _ _ | exact Kd.V_nil _ _ _ _ _ | exact Kd.Q_nil _ _ _ _ _ | exact Kd.S_nil _ _ _ _ _⟩, ⟨bE⟩⟩
 clear H'
 try clear p2
 try clear c3
 try clear p6
 obtain ⟨x4_1, x5_1, rfl, HA, HK1, HO_3, HO_4, HB⟩ := hrel
 cases gk with
 | zero => exact absurd HA.out (by simp [newelref05_Split.l0])
 | succ k1 =>
  have H := HA.out
  clear HA
  simp only [newelref05_Split.l0] at H
  by_cases c7 : x5_1 ≥ 0
  rotate_left
  ·rw [if_neg c7] at H
   have c7b0 := dF c7
   clear c7
   obtain rfl := Option.some.inj H
   go_wp2
   go_ret
   exact ⟨_, by first | rfl | (simp [errW_none, errW_some] <;> rfl) | (simp [*, errW_none, errW_some] <;> rfl), by (with_reducible repeat (first | apply Kd.R_alloc | apply Kd.R_drewN | apply Kd.R_drew)); exact HO_4.out, bE⟩
  rw [if_pos c7] at H
  have c7b0 := dT c7
  clear c7
  by_cases c8 : 0 ≤ x5_1
  rotate_left
  ·rw [if_neg c8] at H
   exact absurd H (by simp)
  rw [if_pos c8] at H
  have c8b0 := dT c8
  clear c8
  by_cases c9 : x5_1 < (t257.length : Int)
  rotate_left
  ·rw [if_neg c9] at H
   exact absurd H (by simp)
  rw [if_pos c9] at H
  have c9b0 := dT c9
  clear c9
  replace H := bi H
  obtain ⟨⟨t261, t262⟩, A100, H⟩ := H
  try dsimp only at H
  have A10 := Aside0.mk A100
  clear A100
  by_cases c11 : (x4_1.length : Int) > 0
  rotate_left
  ·rw [if_neg c11] at H
   have c11b0 := dF c11
   have c11b1 : decide (0 < x4_1.length) = false := decide_eq_false (by omega)
   clear c11
   by_cases c53 : t261 = 6
   ·rw [if_pos c53] at H
    obtain ⟨c53b0, c53b1⟩ := eqT c53
    clear c53
    have H' := Aside0.mk H
    clear H
    have p260 : 0 ≤ (x5_1 : Int) := dA
    have q260 : x5_1 < (t257.length : Int) := dA
    obtain ⟨ad260, e260, hx260_0, hx260_1, hx260_2⟩ := at_T98 (Kd.R_reads' HO_3.out).2.2 x5_1 p260 q260
    cases e260
    replace p260 := eq_true p260
    replace q260 := eq_true q260
    go_wp2_with (first | (refine gl (some 22) Tryd.func77 #[.agg #[.string ((rd_T98 t257 x5_1).f0), .bool ((rd_T98 t257 x5_1).f1), .bool ((rd_T98 t257 x5_1).f2)]] ?_; (with_reducible refine (newelref05_word.calls k1 ((rd_T98 t257 x5_1).f0) ((rd_T98 t257 x5_1).f1) ((rd_T98 t257 x5_1).f2) t261 t262 _ (gS HG) A10.out).mono ?_); rintro e w54 ⟨rfl, hb⟩; refine ⟨_, rfl, ?_⟩; replace HO_3 := rB HO_3 hb; replace HO_4 := rB HO_4 hb; replace HB := sB hb; (try clear hb)) | (refine be 6 #[.int .i64 0, .string (⟨#[]⟩ : ByteArray)] 38 ?_; intro gb263 hg w55 hbox hb; replace HO_3 := rB HO_3 hb; replace HO_4 := Aside0.mk (Kd.R_below (Kd.R_elderB (kR HO_4) gb263 (Nat.le_of_eq hg.symm)) hb); have BK263 := Aside0.mk (hbox); have GW263 := gW hg; have GE263 := gW hg; replace HB := sB hb; clear hb hbox hg; have hcz56_0 : w55.cell? ⟨gb263, 0, none⟩ = some (.int .i64 0) := (blk_cell BK263.out 0).trans rfl; have hcz56_1 : w55.cell? ⟨gb263, 1, none⟩ = some (.string (⟨#[]⟩ : ByteArray)) := (blk_cell BK263.out 1).trans rfl; have hfz56_0 := blk_frozen BK263.out 0; have hfz56_1 := blk_frozen BK263.out 1; obtain ⟨Ao57, co57, eo57⟩ := Kd.R_slice HO_4.out; subst eo57))
    go_roundg k1
    case measure => have := HK1.out; omega
    case rel => exact ⟨(x4_1), (wrap64 (x5_1 - 1)), cA, H', ⟨by have := HK1.out; omega⟩, ⟨by (with_reducible repeat (first | apply Kd.R_alloc | apply Kd.R_drewN | apply Kd.R_drew)); exact Kd.R_mono (Kd.R_far (p := ⟨gb263, 1, none⟩) (Kd.R_far (p := ⟨gb263, 0, none⟩) (Kd.R_types HO_3.out BK263.out (by decide)) (fun _ hk => hk.2) (.int .i64 t261)) (fun _ hk => hk.2) (.string t262)) (fun _ hk => trivial)⟩, ⟨by (with_reducible repeat (first | apply Kd.R_alloc | apply Kd.R_drewN | apply Kd.R_drew)); exact Kd.R_mono (Kd.R_far (p := ⟨gb263, 1, none⟩) (Kd.R_far (p := ⟨gb263, 0, none⟩) (Kd.R_mono HO_4.out (fun k_ hk => (⟨hk, hk.2⟩ : _ ∧ k_ ≠ gb263))) (fun _ hk => hk.2) (.int .i64 t261)) (fun _ hk => hk.2) (.string t262)) (fun _ hk => trivial)⟩, ⟨bG⟩⟩
   rw [if_neg c53] at H
   obtain ⟨c53b0, c53b1⟩ := eqF c53
   obtain ⟨y290, hy290⟩ : ∃ y_ : List (S38), y_ = (([(⟨t261, t262⟩ : S38)] : List (S38))) := ⟨_, rfl⟩
   replace H : (if y290.length + x4_1.length < 5864062014805 then (newelref05_Split.l0 k1 t257 (y290 ++ x4_1) (wrap64 (x5_1 - 1))) else (none)) = some r := by first | (rw [hy290]; with_reducible exact H) | (have H2_ := (Option.bind_some _ _).symm.trans H; rw [hy290]; with_reducible exact H2_) | (have H2_ := (Option.bind_some _ _).symm.trans H; with_reducible exact H2_) | with_reducible exact H | (rw [hy290]; exact H) | exact H
   have Ny290 := Aside0.mk hy290
   clear hy290
   by_cases c58 : y290.length + x4_1.length < 5864062014805
   rotate_left
   ·rw [if_neg c58] at H
    exact absurd H (by simp)
   rw [if_pos c58] at H
   have LMc58 := Aside0.mk c58
   clear c58
   obtain ⟨y293, hy293⟩ : ∃ y_ : List (S38), y_ = (y290 ++ x4_1) := ⟨_, rfl⟩
   replace H : (newelref05_Split.l0 k1 t257 y293 (wrap64 (x5_1 - 1))) = some r := by first | (rw [hy293]; with_reducible exact H) | (have H2_ := (Option.bind_some _ _).symm.trans H; rw [hy293]; with_reducible exact H2_) | (have H2_ := (Option.bind_some _ _).symm.trans H; with_reducible exact H2_) | with_reducible exact H | (rw [hy293]; exact H) | exact H
   have Ny293 := Aside0.mk hy293
   clear hy293
   have H' := Aside0.mk H
   clear H
   have p260 : 0 ≤ (x5_1 : Int) := dA
   have q260 : x5_1 < (t257.length : Int) := dA
   obtain ⟨ad260, e260, hx260_0, hx260_1, hx260_2⟩ := at_T98 (Kd.R_reads' HO_3.out).2.2 x5_1 p260 q260
   cases e260
   replace p260 := eq_true p260
   replace q260 := eq_true q260
   go_wp2_with (first | (refine gl (some 22) Tryd.func77 #[.agg #[.string ((rd_T98 t257 x5_1).f0), .bool ((rd_T98 t257 x5_1).f1), .bool ((rd_T98 t257 x5_1).f2)]] ?_; (with_reducible refine (newelref05_word.calls k1 ((rd_T98 t257 x5_1).f0) ((rd_T98 t257 x5_1).f1) ((rd_T98 t257 x5_1).f2) t261 t262 _ (gS HG) A10.out).mono ?_); rintro e w59 ⟨rfl, hb⟩; refine ⟨_, rfl, ?_⟩; replace HO_3 := rB HO_3 hb; replace HO_4 := rB HO_4 hb; replace HB := sB hb; (try clear hb)) | (refine be 6 #[.int .i64 0, .string (⟨#[]⟩ : ByteArray)] 38 ?_; intro gb263 hg w60 hbox hb; replace HO_3 := rB HO_3 hb; replace HO_4 := Aside0.mk (Kd.R_below (Kd.R_elderB (kR HO_4) gb263 (Nat.le_of_eq hg.symm)) hb); have BK263 := Aside0.mk (hbox); have GW263 := gW hg; have GE263 := gW hg; replace HB := sB hb; clear hb hbox hg; have hcz61_0 : w60.cell? ⟨gb263, 0, none⟩ = some (.int .i64 0) := (blk_cell BK263.out 0).trans rfl; have hcz61_1 : w60.cell? ⟨gb263, 1, none⟩ = some (.string (⟨#[]⟩ : ByteArray)) := (blk_cell BK263.out 1).trans rfl; have hfz61_0 := blk_frozen BK263.out 0; have hfz61_1 := blk_frozen BK263.out 1; obtain ⟨Ao62, co62, eo62⟩ := Kd.R_slice HO_4.out; subst eo62) | ((with_reducible refine gate_dst (N := 48) rfl ?_); refine Kd.R_lit k38 _ 38 ?hg (N := 48) ?hd (xs := ([(⟨t261, t262⟩ : S38)] : List (S38))) (inner := [.int .i64 t261, .string t262]) (ok := fun _ => True) (okp := fun _ => True) ?hr ?hp (fun _ hk => hk) trivial (Below.refl _ _) (Nat.le_refl _) (by simp) ?_; (case hd => rfl); (case hg => rfl); (case hr => first | (go_simp; done) | (go_simp; rfl)); (case hp => exact (Reps.c2 (show Kd.M k38 _ _ _ (⟨t261, t262⟩ : S38) [.int .i64 t261, .string t262] from (k38_mkM _ _ _ (⟨t261, t262⟩ : S38) )) (Reps.none _ _))); intro v291 w63 ho64 hb hg_ hnew_; clear hg_ hnew_; (first | rw [← Ny290.out] at ho64 | (simp only [Int.reduceToNat] at ho64; rw [← Ny290.out] at ho64)); replace HO_3 := Aside0.mk (Kd.R_below (by (with_reducible repeat (first | apply Kd.R_alloc | apply Kd.R_drewN | apply Kd.R_drew)); exact (Kd.R_mono (Kd.R_far (p := ⟨gb263, 1, none⟩) (Kd.R_far (p := ⟨gb263, 0, none⟩) (Kd.R_types HO_3.out BK263.out (by decide)) (fun _ hk => hk.2) (.int .i64 t261)) (fun _ hk => hk.2) (.string t262)) (fun _ h_ => h_.1))) hb); have HO292 := Aside0.mk (Kd.R_lower (Kd.R_newB (Kd.R_new' ho64 (Kd.R_lt (by (with_reducible repeat (first | apply Kd.R_alloc | apply Kd.R_drewN | apply Kd.R_drew)); exact (Kd.R_mono (Kd.R_far (p := ⟨gb263, 1, none⟩) (Kd.R_far (p := ⟨gb263, 0, none⟩) (Kd.R_mono HO_4.out (fun k_ hk => (⟨hk, hk.2⟩ : _ ∧ k_ ≠ gb263))) (fun _ hk => hk.2) (.int .i64 t261)) (fun _ hk => hk.2) (.string t262)) (fun _ h_ => h_.1))))) (g := gb263) (o := .cells #[.int .i64 t261, .string t262] 38 (0, 0)) (bP BK263)) (below_size bG)); replace HO_4 := Aside0.mk (Kd.R_elder' (by (with_reducible repeat (first | apply Kd.R_alloc | apply Kd.R_drewN | apply Kd.R_drew)); exact (Kd.R_mono (Kd.R_far (p := ⟨gb263, 1, none⟩) (Kd.R_far (p := ⟨gb263, 0, none⟩) (Kd.R_mono HO_4.out (fun k_ hk => (⟨hk, hk.2⟩ : _ ∧ k_ ≠ gb263))) (fun _ hk => hk.2) (.int .i64 t261)) (fun _ hk => hk.2) (.string t262)) (fun _ h_ => h_.1))) (Kd.R_base ho64) hb); replace BK263 := Aside0.mk (blk_below (g := gb263) (o := .cells #[.int .i64 t261, .string t262] 38 (0, 0)) (bP BK263) hb); replace HB := sB hb; clear hb ho64) | ((with_reducible refine gate_builtin (b := .append) (xs := #[.tmp 48, .tmp 49]) rfl ?_); at_builtin; refine Kd.R_append_rows k38 (w0 := w) w.heap.size rfl (.tmp 48) (.tmp 49) 39 38 (.agg #[(.int .i64 0), (.string ⟨#[]⟩)]) 24 rfl Tryd.underlying39 info38 rfl (by decide) (by omega) v291 y290 x4_1 _ _ _ (fun k_ => some k_ ≠ (.slice Ao62 x4_1.length co62 : Value).ownBlock ∧ k_ ≠ gb263) (fun _ => False) rfl rfl ?aO ?aR (fun _ _ h => h) (fun _ h => h.elim) ?aF ?aB ?aS ?aL ?_; (case aR => repeat (first | exact (Kd.R_reads' HO_4.out).2.2 | (with_reducible refine Kd.C_alloc ?_ _) | (with_reducible refine Kd.C_drewN ?_ _) | (with_reducible refine Kd.C_drew ?_))); (case aB => exact bG); (case aF => exact (fun k_ hk => ⟨Kd.fresh' (Kd.R_lt (kR HO_4)) k_ hk, Kd.freshB (g := gb263) (o := .cells #[.int .i64 t261, .string t262] 38 (0, 0)) (bK BK263) k_ hk⟩)); (case aO => exact (by (with_reducible repeat (first | apply Kd.R_alloc | apply Kd.R_drewN | apply Kd.R_drew)); exact Kd.R_mono HO292.out (fun _ hk => ⟨hk.1.2, hk.2⟩))); (case aS => exact (below_size bG)); (case aL => have := LMc58.out; omega); intro v294 w65 ho hb hg hat; rw [← Ny293.out] at ho; replace HO_3 := Aside0.mk (Kd.R_over' (kR HO_3) (Kd.R_typed (kR HO292)) (by decide) hg); replace HO_4 := Aside0.mk (Kd.R_after (ok := (fun k_ => k_ ≠ gb263)) (by (with_reducible repeat (first | apply Kd.R_alloc | apply Kd.R_drewN | apply Kd.R_drew)); exact Kd.R_mono HO_4.out (fun _ hk => ⟨hk.1.2, hk.2⟩)) hg hat); replace BK263 := Aside0.mk (blk_grown (g := gb263) (o := .cells #[.int .i64 t261, .string t262] 38 (0, 0)) (bK BK263) hg (Kd.R_away HO292.out (fun _ hk => hk.2))); replace HB := Aside0.mk (hb); have HO295 := Aside0.mk (ho); clear HO292; clear ho hb hg hat))
   go_roundg k1
   case measure => have := HK1.out; omega
   case rel => exact ⟨(y293), (wrap64 (x5_1 - 1)), cA, H', ⟨by have := HK1.out; omega⟩, ⟨kR HO_3⟩, ⟨by (with_reducible repeat (first | apply Kd.R_alloc | apply Kd.R_drewN | apply Kd.R_drew)); exact Kd.R_mono HO295.out (fun _ hk => trivial)⟩, ⟨bG⟩⟩
  rw [if_pos c11] at H
  have c11b0 := dT c11
  have c11b1 : decide (0 < x4_1.length) = true := decide_eq_true (by omega)
  clear c11
  by_cases c12 : 0 < (x4_1.length : Int)
  rotate_left
  ·rw [if_neg c12] at H
   exact absurd H (by simp)
  rw [if_pos c12] at H
  have c12b0 := dT c12
  have c12b1 : decide (0 < x4_1.length) = true := decide_eq_true (by omega)
  clear c12
  by_cases c13 : ((rd_T38 x4_1 0).f0) = 6
  ·rw [if_pos c13] at H
   obtain ⟨c13b0, c13b1⟩ := eqT c13
   clear c13
   by_cases c14 : t261 = 6
   rotate_left
   ·rw [if_neg c14] at H
    obtain ⟨c14b0, c14b1⟩ := eqF c14
    obtain ⟨y271, hy271⟩ : ∃ y_ : List (S38), y_ = (([(⟨t261, t262⟩ : S38)] : List (S38))) := ⟨_, rfl⟩
    replace H : (if y271.length + x4_1.length < 5864062014805 then (newelref05_Split.l0 k1 t257 (y271 ++ x4_1) (wrap64 (x5_1 - 1))) else (none)) = some r := by first | (rw [hy271]; with_reducible exact H) | (have H2_ := (Option.bind_some _ _).symm.trans H; rw [hy271]; with_reducible exact H2_) | (have H2_ := (Option.bind_some _ _).symm.trans H; with_reducible exact H2_) | with_reducible exact H | (rw [hy271]; exact H) | exact H
    have Ny271 := Aside0.mk hy271
    clear hy271
    by_cases c23 : y271.length + x4_1.length < 5864062014805
    rotate_left
    ·rw [if_neg c23] at H
     exact absurd H (by simp)
    rw [if_pos c23] at H
    have LMc23 := Aside0.mk c23
    clear c23
    obtain ⟨y274, hy274⟩ : ∃ y_ : List (S38), y_ = (y271 ++ x4_1) := ⟨_, rfl⟩
    replace H : (newelref05_Split.l0 k1 t257 y274 (wrap64 (x5_1 - 1))) = some r := by first | (rw [hy274]; with_reducible exact H) | (have H2_ := (Option.bind_some _ _).symm.trans H; rw [hy274]; with_reducible exact H2_) | (have H2_ := (Option.bind_some _ _).symm.trans H; with_reducible exact H2_) | with_reducible exact H | (rw [hy274]; exact H) | exact H
    have Ny274 := Aside0.mk hy274
    clear hy274
    have H' := Aside0.mk H
    clear H
    have p260 : 0 ≤ (x5_1 : Int) := dA
    have q260 : x5_1 < (t257.length : Int) := dA
    obtain ⟨ad260, e260, hx260_0, hx260_1, hx260_2⟩ := at_T98 (Kd.R_reads' HO_3.out).2.2 x5_1 p260 q260
    cases e260
    replace p260 := eq_true p260
    replace q260 := eq_true q260
    go_wp2_with (first | (refine gl (some 22) Tryd.func77 #[.agg #[.string ((rd_T98 t257 x5_1).f0), .bool ((rd_T98 t257 x5_1).f1), .bool ((rd_T98 t257 x5_1).f2)]] ?_; (with_reducible refine (newelref05_word.calls k1 ((rd_T98 t257 x5_1).f0) ((rd_T98 t257 x5_1).f1) ((rd_T98 t257 x5_1).f2) t261 t262 _ (gS HG) A10.out).mono ?_); rintro e w24 ⟨rfl, hb⟩; refine ⟨_, rfl, ?_⟩; replace HO_3 := rB HO_3 hb; replace HO_4 := rB HO_4 hb; replace HB := sB hb; (try clear hb)) | (refine be 6 #[.int .i64 0, .string (⟨#[]⟩ : ByteArray)] 38 ?_; intro gb263 hg w25 hbox hb; replace HO_3 := rB HO_3 hb; replace HO_4 := Aside0.mk (Kd.R_below (Kd.R_elderB (kR HO_4) gb263 (Nat.le_of_eq hg.symm)) hb); have BK263 := Aside0.mk (hbox); have GW263 := gW hg; have GE263 := gW hg; replace HB := sB hb; clear hb hbox hg; have hcz26_0 : w25.cell? ⟨gb263, 0, none⟩ = some (.int .i64 0) := (blk_cell BK263.out 0).trans rfl; have hcz26_1 : w25.cell? ⟨gb263, 1, none⟩ = some (.string (⟨#[]⟩ : ByteArray)) := (blk_cell BK263.out 1).trans rfl; have hfz26_0 := blk_frozen BK263.out 0; have hfz26_1 := blk_frozen BK263.out 1; obtain ⟨Ao27, co27, eo27⟩ := Kd.R_slice HO_4.out; subst eo27; have p264 : 0 ≤ (0 : Int) := (by omega); have q264 : 0 < (x4_1.length : Int) := dA; obtain ⟨ad264, e264, hx264_0, hx264_1⟩ := at_T38 (Kd.R_reads' HO_4.out).2.2 0 p264 q264; cases e264; have qi264 : (0 < x4_1.length) = True := eq_true (by omega); (try rw [show ((0 : Int)).toNat = 0 from rfl] at hx264_0); (try rw [show 0 * 2 = 0 from rfl] at hx264_0); (try rw [Addr.add_zero'] at hx264_0); (try rw [show ((0 : Int)).toNat = 0 from rfl] at hx264_1); (try rw [show 0 * 2 = 0 from rfl] at hx264_1); (try rw [Addr.add_zero'] at hx264_1); have hn264_0 : ad264.block ≠ gb263 := Kd.own_blk (Kd.R_away HO_4.out (fun _ hk => hk.2)); have hn264_1 : ad264.block ≠ gb263 := Kd.own_blk (Kd.R_away HO_4.out (fun _ hk => hk.2)); replace hx264_0 := (cell_far (p := ⟨gb263, 0, none⟩) (by first | (rw [add_block]; exact hn264_0) | (show (Addr.add _ _).block ≠ _; rw [add_block]; exact hn264_0) | exact hn264_0) (.int .i64 t261)).trans hx264_0; replace hx264_1 := (cell_far (p := ⟨gb263, 0, none⟩) (by first | (rw [add_block]; exact hn264_0) | (show (Addr.add _ _).block ≠ _; rw [add_block]; exact hn264_0) | exact hn264_0) (.int .i64 t261)).trans hx264_1; replace hx264_0 := (cell_far (p := ⟨gb263, 1, none⟩) (by first | (rw [add_block]; exact hn264_1) | (show (Addr.add _ _).block ≠ _; rw [add_block]; exact hn264_1) | exact hn264_1) (.string t262)).trans hx264_0; replace hx264_1 := (cell_far (p := ⟨gb263, 1, none⟩) (by first | (rw [add_block]; exact hn264_1) | (show (Addr.add _ _).block ≠ _; rw [add_block]; exact hn264_1) | exact hn264_1) (.string t262)).trans hx264_1; clear hn264_0; clear hn264_1; replace p264 := eq_true p264; replace q264 := eq_true q264) | ((with_reducible refine gate_dst (N := 48) rfl ?_); refine Kd.R_lit k38 _ 38 ?hg (N := 48) ?hd (xs := ([(⟨t261, t262⟩ : S38)] : List (S38))) (inner := [.int .i64 t261, .string t262]) (ok := fun _ => True) (okp := fun _ => True) ?hr ?hp (fun _ hk => hk) trivial (Below.refl _ _) (Nat.le_refl _) (by simp) ?_; (case hd => rfl); (case hg => rfl); (case hr => first | (go_simp; done) | (go_simp; rfl)); (case hp => exact (Reps.c2 (show Kd.M k38 _ _ _ (⟨t261, t262⟩ : S38) [.int .i64 t261, .string t262] from (k38_mkM _ _ _ (⟨t261, t262⟩ : S38) )) (Reps.none _ _))); intro v272 w28 ho29 hb hg_ hnew_; clear hg_ hnew_; (first | rw [← Ny271.out] at ho29 | (simp only [Int.reduceToNat] at ho29; rw [← Ny271.out] at ho29)); replace HO_3 := Aside0.mk (Kd.R_below (by (with_reducible repeat (first | apply Kd.R_alloc | apply Kd.R_drewN | apply Kd.R_drew)); exact (Kd.R_mono (Kd.R_far (p := ⟨gb263, 1, none⟩) (Kd.R_far (p := ⟨gb263, 0, none⟩) (Kd.R_types HO_3.out BK263.out (by decide)) (fun _ hk => hk.2) (.int .i64 t261)) (fun _ hk => hk.2) (.string t262)) (fun _ h_ => h_.1))) hb); have HO273 := Aside0.mk (Kd.R_lower (Kd.R_newB (Kd.R_new' ho29 (Kd.R_lt (by (with_reducible repeat (first | apply Kd.R_alloc | apply Kd.R_drewN | apply Kd.R_drew)); exact (Kd.R_mono (Kd.R_far (p := ⟨gb263, 1, none⟩) (Kd.R_far (p := ⟨gb263, 0, none⟩) (Kd.R_mono HO_4.out (fun k_ hk => (⟨hk, hk.2⟩ : _ ∧ k_ ≠ gb263))) (fun _ hk => hk.2) (.int .i64 t261)) (fun _ hk => hk.2) (.string t262)) (fun _ h_ => h_.1))))) (g := gb263) (o := .cells #[.int .i64 t261, .string t262] 38 (0, 0)) (bP BK263)) (below_size bG)); replace HO_4 := Aside0.mk (Kd.R_elder' (by (with_reducible repeat (first | apply Kd.R_alloc | apply Kd.R_drewN | apply Kd.R_drew)); exact (Kd.R_mono (Kd.R_far (p := ⟨gb263, 1, none⟩) (Kd.R_far (p := ⟨gb263, 0, none⟩) (Kd.R_mono HO_4.out (fun k_ hk => (⟨hk, hk.2⟩ : _ ∧ k_ ≠ gb263))) (fun _ hk => hk.2) (.int .i64 t261)) (fun _ hk => hk.2) (.string t262)) (fun _ h_ => h_.1))) (Kd.R_base ho29) hb); replace BK263 := Aside0.mk (blk_below (g := gb263) (o := .cells #[.int .i64 t261, .string t262] 38 (0, 0)) (bP BK263) hb); replace HB := sB hb; clear hb ho29) | ((with_reducible refine gate_builtin (b := .append) (xs := #[.tmp 48, .tmp 49]) rfl ?_); at_builtin; refine Kd.R_append_rows k38 (w0 := w) w.heap.size rfl (.tmp 48) (.tmp 49) 39 38 (.agg #[(.int .i64 0), (.string ⟨#[]⟩)]) 24 rfl Tryd.underlying39 info38 rfl (by decide) (by omega) v272 y271 x4_1 _ _ _ (fun k_ => some k_ ≠ (.slice (some ad264) x4_1.length co27 : Value).ownBlock ∧ k_ ≠ gb263) (fun _ => False) rfl rfl ?aO ?aR (fun _ _ h => h) (fun _ h => h.elim) ?aF ?aB ?aS ?aL ?_; (case aR => repeat (first | exact (Kd.R_reads' HO_4.out).2.2 | (with_reducible refine Kd.C_alloc ?_ _) | (with_reducible refine Kd.C_drewN ?_ _) | (with_reducible refine Kd.C_drew ?_))); (case aB => exact bG); (case aF => exact (fun k_ hk => ⟨Kd.fresh' (Kd.R_lt (kR HO_4)) k_ hk, Kd.freshB (g := gb263) (o := .cells #[.int .i64 t261, .string t262] 38 (0, 0)) (bK BK263) k_ hk⟩)); (case aO => exact (by (with_reducible repeat (first | apply Kd.R_alloc | apply Kd.R_drewN | apply Kd.R_drew)); exact Kd.R_mono HO273.out (fun _ hk => ⟨hk.1.2, hk.2⟩))); (case aS => exact (below_size bG)); (case aL => have := LMc23.out; omega); intro v275 w30 ho hb hg hat; rw [← Ny274.out] at ho; replace HO_3 := Aside0.mk (Kd.R_over' (kR HO_3) (Kd.R_typed (kR HO273)) (by decide) hg); replace HO_4 := Aside0.mk (Kd.R_after (ok := (fun k_ => k_ ≠ gb263)) (by (with_reducible repeat (first | apply Kd.R_alloc | apply Kd.R_drewN | apply Kd.R_drew)); exact Kd.R_mono HO_4.out (fun _ hk => ⟨hk.1.2, hk.2⟩)) hg hat); replace BK263 := Aside0.mk (blk_grown (g := gb263) (o := .cells #[.int .i64 t261, .string t262] 38 (0, 0)) (bK BK263) hg (Kd.R_away HO273.out (fun _ hk => hk.2))); replace HB := Aside0.mk (hb); have HO276 := Aside0.mk (ho); clear HO273; clear ho hb hg hat))
    go_roundg k1
    case measure => have := HK1.out; omega
    case rel => exact ⟨(y274), (wrap64 (x5_1 - 1)), cA, H', ⟨by have := HK1.out; omega⟩, ⟨kR HO_3⟩, ⟨by (with_reducible repeat (first | apply Kd.R_alloc | apply Kd.R_drewN | apply Kd.R_drew)); exact Kd.R_mono HO276.out (fun _ hk => trivial)⟩, ⟨bG⟩⟩
   rw [if_pos c14] at H
   obtain ⟨c14b0, c14b1⟩ := eqT c14
   clear c14
   obtain ⟨y265, hy265⟩ : ∃ y_ : List (S38), y_ = (([(⟨t261, t262⟩ : S38)] : List (S38))) := ⟨_, rfl⟩
   replace H : (if y265.length + x4_1.length < 5864062014805 then (newelref05_Split.l0 k1 t257 (y265 ++ x4_1) (wrap64 (x5_1 - 1))) else (none)) = some r := by first | (rw [hy265]; with_reducible exact H) | (have H2_ := (Option.bind_some _ _).symm.trans H; rw [hy265]; with_reducible exact H2_) | (have H2_ := (Option.bind_some _ _).symm.trans H; with_reducible exact H2_) | with_reducible exact H | (rw [hy265]; exact H) | exact H
   have Ny265 := Aside0.mk hy265
   clear hy265
   by_cases c15 : y265.length + x4_1.length < 5864062014805
   rotate_left
   ·rw [if_neg c15] at H
    exact absurd H (by simp)
   rw [if_pos c15] at H
   have LMc15 := Aside0.mk c15
   clear c15
   obtain ⟨y268, hy268⟩ : ∃ y_ : List (S38), y_ = (y265 ++ x4_1) := ⟨_, rfl⟩
   replace H : (newelref05_Split.l0 k1 t257 y268 (wrap64 (x5_1 - 1))) = some r := by first | (rw [hy268]; with_reducible exact H) | (have H2_ := (Option.bind_some _ _).symm.trans H; rw [hy268]; with_reducible exact H2_) | (have H2_ := (Option.bind_some _ _).symm.trans H; with_reducible exact H2_) | with_reducible exact H | (rw [hy268]; exact H) | exact H
   have Ny268 := Aside0.mk hy268
   clear hy268
   have H' := Aside0.mk H
   clear H
   have p260 : 0 ≤ (x5_1 : Int) := dA
   have q260 : x5_1 < (t257.length : Int) := dA
   obtain ⟨ad260, e260, hx260_0, hx260_1, hx260_2⟩ := at_T98 (Kd.R_reads' HO_3.out).2.2 x5_1 p260 q260
   cases e260
   replace p260 := eq_true p260
   replace q260 := eq_true q260
   go_wp2_with (first | (refine gl (some 22) Tryd.func77 #[.agg #[.string ((rd_T98 t257 x5_1).f0), .bool ((rd_T98 t257 x5_1).f1), .bool ((rd_T98 t257 x5_1).f2)]] ?_; (with_reducible refine (newelref05_word.calls k1 ((rd_T98 t257 x5_1).f0) ((rd_T98 t257 x5_1).f1) ((rd_T98 t257 x5_1).f2) t261 t262 _ (gS HG) A10.out).mono ?_); rintro e w16 ⟨rfl, hb⟩; refine ⟨_, rfl, ?_⟩; replace HO_3 := rB HO_3 hb; replace HO_4 := rB HO_4 hb; replace HB := sB hb; (try clear hb)) | (refine be 6 #[.int .i64 0, .string (⟨#[]⟩ : ByteArray)] 38 ?_; intro gb263 hg w17 hbox hb; replace HO_3 := rB HO_3 hb; replace HO_4 := Aside0.mk (Kd.R_below (Kd.R_elderB (kR HO_4) gb263 (Nat.le_of_eq hg.symm)) hb); have BK263 := Aside0.mk (hbox); have GW263 := gW hg; have GE263 := gW hg; replace HB := sB hb; clear hb hbox hg; have hcz18_0 : w17.cell? ⟨gb263, 0, none⟩ = some (.int .i64 0) := (blk_cell BK263.out 0).trans rfl; have hcz18_1 : w17.cell? ⟨gb263, 1, none⟩ = some (.string (⟨#[]⟩ : ByteArray)) := (blk_cell BK263.out 1).trans rfl; have hfz18_0 := blk_frozen BK263.out 0; have hfz18_1 := blk_frozen BK263.out 1; obtain ⟨Ao19, co19, eo19⟩ := Kd.R_slice HO_4.out; subst eo19; have p264 : 0 ≤ (0 : Int) := (by omega); have q264 : 0 < (x4_1.length : Int) := dA; obtain ⟨ad264, e264, hx264_0, hx264_1⟩ := at_T38 (Kd.R_reads' HO_4.out).2.2 0 p264 q264; cases e264; have qi264 : (0 < x4_1.length) = True := eq_true (by omega); (try rw [show ((0 : Int)).toNat = 0 from rfl] at hx264_0); (try rw [show 0 * 2 = 0 from rfl] at hx264_0); (try rw [Addr.add_zero'] at hx264_0); (try rw [show ((0 : Int)).toNat = 0 from rfl] at hx264_1); (try rw [show 0 * 2 = 0 from rfl] at hx264_1); (try rw [Addr.add_zero'] at hx264_1); have hn264_0 : ad264.block ≠ gb263 := Kd.own_blk (Kd.R_away HO_4.out (fun _ hk => hk.2)); have hn264_1 : ad264.block ≠ gb263 := Kd.own_blk (Kd.R_away HO_4.out (fun _ hk => hk.2)); replace hx264_0 := (cell_far (p := ⟨gb263, 0, none⟩) (by first | (rw [add_block]; exact hn264_0) | (show (Addr.add _ _).block ≠ _; rw [add_block]; exact hn264_0) | exact hn264_0) (.int .i64 t261)).trans hx264_0; replace hx264_1 := (cell_far (p := ⟨gb263, 0, none⟩) (by first | (rw [add_block]; exact hn264_0) | (show (Addr.add _ _).block ≠ _; rw [add_block]; exact hn264_0) | exact hn264_0) (.int .i64 t261)).trans hx264_1; replace hx264_0 := (cell_far (p := ⟨gb263, 1, none⟩) (by first | (rw [add_block]; exact hn264_1) | (show (Addr.add _ _).block ≠ _; rw [add_block]; exact hn264_1) | exact hn264_1) (.string t262)).trans hx264_0; replace hx264_1 := (cell_far (p := ⟨gb263, 1, none⟩) (by first | (rw [add_block]; exact hn264_1) | (show (Addr.add _ _).block ≠ _; rw [add_block]; exact hn264_1) | exact hn264_1) (.string t262)).trans hx264_1; clear hn264_0; clear hn264_1; replace p264 := eq_true p264; replace q264 := eq_true q264) | ((with_reducible refine gate_dst (N := 48) rfl ?_); refine Kd.R_lit k38 _ 38 ?hg (N := 48) ?hd (xs := ([(⟨t261, t262⟩ : S38)] : List (S38))) (inner := [.int .i64 t261, .string t262]) (ok := fun _ => True) (okp := fun _ => True) ?hr ?hp (fun _ hk => hk) trivial (Below.refl _ _) (Nat.le_refl _) (by simp) ?_; (case hd => rfl); (case hg => rfl); (case hr => first | (go_simp; done) | (go_simp; rfl)); (case hp => exact (Reps.c2 (show Kd.M k38 _ _ _ (⟨t261, t262⟩ : S38) [.int .i64 t261, .string t262] from (k38_mkM _ _ _ (⟨t261, t262⟩ : S38) )) (Reps.none _ _))); intro v266 w20 ho21 hb hg_ hnew_; clear hg_ hnew_; (first | rw [← Ny265.out] at ho21 | (simp only [Int.reduceToNat] at ho21; rw [← Ny265.out] at ho21)); replace HO_3 := Aside0.mk (Kd.R_below (by (with_reducible repeat (first | apply Kd.R_alloc | apply Kd.R_drewN | apply Kd.R_drew)); exact (Kd.R_mono (Kd.R_far (p := ⟨gb263, 1, none⟩) (Kd.R_far (p := ⟨gb263, 0, none⟩) (Kd.R_types HO_3.out BK263.out (by decide)) (fun _ hk => hk.2) (.int .i64 t261)) (fun _ hk => hk.2) (.string t262)) (fun _ h_ => h_.1))) hb); have HO267 := Aside0.mk (Kd.R_lower (Kd.R_newB (Kd.R_new' ho21 (Kd.R_lt (by (with_reducible repeat (first | apply Kd.R_alloc | apply Kd.R_drewN | apply Kd.R_drew)); exact (Kd.R_mono (Kd.R_far (p := ⟨gb263, 1, none⟩) (Kd.R_far (p := ⟨gb263, 0, none⟩) (Kd.R_mono HO_4.out (fun k_ hk => (⟨hk, hk.2⟩ : _ ∧ k_ ≠ gb263))) (fun _ hk => hk.2) (.int .i64 t261)) (fun _ hk => hk.2) (.string t262)) (fun _ h_ => h_.1))))) (g := gb263) (o := .cells #[.int .i64 t261, .string t262] 38 (0, 0)) (bP BK263)) (below_size bG)); replace HO_4 := Aside0.mk (Kd.R_elder' (by (with_reducible repeat (first | apply Kd.R_alloc | apply Kd.R_drewN | apply Kd.R_drew)); exact (Kd.R_mono (Kd.R_far (p := ⟨gb263, 1, none⟩) (Kd.R_far (p := ⟨gb263, 0, none⟩) (Kd.R_mono HO_4.out (fun k_ hk => (⟨hk, hk.2⟩ : _ ∧ k_ ≠ gb263))) (fun _ hk => hk.2) (.int .i64 t261)) (fun _ hk => hk.2) (.string t262)) (fun _ h_ => h_.1))) (Kd.R_base ho21) hb); replace BK263 := Aside0.mk (blk_below (g := gb263) (o := .cells #[.int .i64 t261, .string t262] 38 (0, 0)) (bP BK263) hb); replace HB := sB hb; clear hb ho21) | ((with_reducible refine gate_builtin (b := .append) (xs := #[.tmp 48, .tmp 49]) rfl ?_); at_builtin; refine Kd.R_append_rows k38 (w0 := w) w.heap.size rfl (.tmp 48) (.tmp 49) 39 38 (.agg #[(.int .i64 0), (.string ⟨#[]⟩)]) 24 rfl Tryd.underlying39 info38 rfl (by decide) (by omega) v266 y265 x4_1 _ _ _ (fun k_ => some k_ ≠ (.slice (some ad264) x4_1.length co19 : Value).ownBlock ∧ k_ ≠ gb263) (fun _ => False) rfl rfl ?aO ?aR (fun _ _ h => h) (fun _ h => h.elim) ?aF ?aB ?aS ?aL ?_; (case aR => repeat (first | exact (Kd.R_reads' HO_4.out).2.2 | (with_reducible refine Kd.C_alloc ?_ _) | (with_reducible refine Kd.C_drewN ?_ _) | (with_reducible refine Kd.C_drew ?_))); (case aB => exact bG); (case aF => exact (fun k_ hk => ⟨Kd.fresh' (Kd.R_lt (kR HO_4)) k_ hk, Kd.freshB (g := gb263) (o := .cells #[.int .i64 t261, .string t262] 38 (0, 0)) (bK BK263) k_ hk⟩)); (case aO => exact (by (with_reducible repeat (first | apply Kd.R_alloc | apply Kd.R_drewN | apply Kd.R_drew)); exact Kd.R_mono HO267.out (fun _ hk => ⟨hk.1.2, hk.2⟩))); (case aS => exact (below_size bG)); (case aL => have := LMc15.out; omega); intro v269 w22 ho hb hg hat; rw [← Ny268.out] at ho; replace HO_3 := Aside0.mk (Kd.R_over' (kR HO_3) (Kd.R_typed (kR HO267)) (by decide) hg); replace HO_4 := Aside0.mk (Kd.R_after (ok := (fun k_ => k_ ≠ gb263)) (by (with_reducible repeat (first | apply Kd.R_alloc | apply Kd.R_drewN | apply Kd.R_drew)); exact Kd.R_mono HO_4.out (fun _ hk => ⟨hk.1.2, hk.2⟩)) hg hat); replace BK263 := Aside0.mk (blk_grown (g := gb263) (o := .cells #[.int .i64 t261, .string t262] 38 (0, 0)) (bK BK263) hg (Kd.R_away HO267.out (fun _ hk => hk.2))); replace HB := Aside0.mk (hb); have HO270 := Aside0.mk (ho); clear HO267; clear ho hb hg hat))
   go_roundg k1
   case measure => have := HK1.out; omega
   case rel => exact ⟨(y268), (wrap64 (x5_1 - 1)), cA, H', ⟨by have := HK1.out; omega⟩, ⟨kR HO_3⟩, ⟨by (with_reducible repeat (first | apply Kd.R_alloc | apply Kd.R_drewN | apply Kd.R_drew)); exact Kd.R_mono HO270.out (fun _ hk => trivial)⟩, ⟨bG⟩⟩
  rw [if_neg c13] at H
  obtain ⟨c13b0, c13b1⟩ := eqF c13
  by_cases c31 : t261 = 6
  rotate_left
  ·rw [if_neg c31] at H
   obtain ⟨c31b0, c31b1⟩ := eqF c31
   obtain ⟨y284, hy284⟩ : ∃ y_ : List (S38), y_ = (([(⟨t261, t262⟩ : S38)] : List (S38))) := ⟨_, rfl⟩
   replace H : (if y284.length + x4_1.length < 5864062014805 then (newelref05_Split.l0 k1 t257 (y284 ++ x4_1) (wrap64 (x5_1 - 1))) else (none)) = some r := by first | (rw [hy284]; with_reducible exact H) | (have H2_ := (Option.bind_some _ _).symm.trans H; rw [hy284]; with_reducible exact H2_) | (have H2_ := (Option.bind_some _ _).symm.trans H; with_reducible exact H2_) | with_reducible exact H | (rw [hy284]; exact H) | exact H
   have Ny284 := Aside0.mk hy284
   clear hy284
   by_cases c45 : y284.length + x4_1.length < 5864062014805
   rotate_left
   ·rw [if_neg c45] at H
    exact absurd H (by simp)
   rw [if_pos c45] at H
   have LMc45 := Aside0.mk c45
   clear c45
   obtain ⟨y287, hy287⟩ : ∃ y_ : List (S38), y_ = (y284 ++ x4_1) := ⟨_, rfl⟩
   replace H : (newelref05_Split.l0 k1 t257 y287 (wrap64 (x5_1 - 1))) = some r := by first | (rw [hy287]; with_reducible exact H) | (have H2_ := (Option.bind_some _ _).symm.trans H; rw [hy287]; with_reducible exact H2_) | (have H2_ := (Option.bind_some _ _).symm.trans H; with_reducible exact H2_) | with_reducible exact H | (rw [hy287]; exact H) | exact H
   have Ny287 := Aside0.mk hy287
   clear hy287
   have H' := Aside0.mk H
   clear H
   have p260 : 0 ≤ (x5_1 : Int) := dA
   have q260 : x5_1 < (t257.length : Int) := dA
   obtain ⟨ad260, e260, hx260_0, hx260_1, hx260_2⟩ := at_T98 (Kd.R_reads' HO_3.out).2.2 x5_1 p260 q260
   cases e260
   replace p260 := eq_true p260
   replace q260 := eq_true q260
   go_wp2_with (first | (refine gl (some 22) Tryd.func77 #[.agg #[.string ((rd_T98 t257 x5_1).f0), .bool ((rd_T98 t257 x5_1).f1), .bool ((rd_T98 t257 x5_1).f2)]] ?_; (with_reducible refine (newelref05_word.calls k1 ((rd_T98 t257 x5_1).f0) ((rd_T98 t257 x5_1).f1) ((rd_T98 t257 x5_1).f2) t261 t262 _ (gS HG) A10.out).mono ?_); rintro e w46 ⟨rfl, hb⟩; refine ⟨_, rfl, ?_⟩; replace HO_3 := rB HO_3 hb; replace HO_4 := rB HO_4 hb; replace HB := sB hb; (try clear hb)) | (refine be 6 #[.int .i64 0, .string (⟨#[]⟩ : ByteArray)] 38 ?_; intro gb263 hg w47 hbox hb; replace HO_3 := rB HO_3 hb; replace HO_4 := Aside0.mk (Kd.R_below (Kd.R_elderB (kR HO_4) gb263 (Nat.le_of_eq hg.symm)) hb); have BK263 := Aside0.mk (hbox); have GW263 := gW hg; have GE263 := gW hg; replace HB := sB hb; clear hb hbox hg; have hcz48_0 : w47.cell? ⟨gb263, 0, none⟩ = some (.int .i64 0) := (blk_cell BK263.out 0).trans rfl; have hcz48_1 : w47.cell? ⟨gb263, 1, none⟩ = some (.string (⟨#[]⟩ : ByteArray)) := (blk_cell BK263.out 1).trans rfl; have hfz48_0 := blk_frozen BK263.out 0; have hfz48_1 := blk_frozen BK263.out 1; obtain ⟨Ao49, co49, eo49⟩ := Kd.R_slice HO_4.out; subst eo49; have p264 : 0 ≤ (0 : Int) := (by omega); have q264 : 0 < (x4_1.length : Int) := dA; obtain ⟨ad264, e264, hx264_0, hx264_1⟩ := at_T38 (Kd.R_reads' HO_4.out).2.2 0 p264 q264; cases e264; have qi264 : (0 < x4_1.length) = True := eq_true (by omega); (try rw [show ((0 : Int)).toNat = 0 from rfl] at hx264_0); (try rw [show 0 * 2 = 0 from rfl] at hx264_0); (try rw [Addr.add_zero'] at hx264_0); (try rw [show ((0 : Int)).toNat = 0 from rfl] at hx264_1); (try rw [show 0 * 2 = 0 from rfl] at hx264_1); (try rw [Addr.add_zero'] at hx264_1); have hn264_0 : ad264.block ≠ gb263 := Kd.own_blk (Kd.R_away HO_4.out (fun _ hk => hk.2)); have hn264_1 : ad264.block ≠ gb263 := Kd.own_blk (Kd.R_away HO_4.out (fun _ hk => hk.2)); replace hx264_0 := (cell_far (p := ⟨gb263, 0, none⟩) (by first | (rw [add_block]; exact hn264_0) | (show (Addr.add _ _).block ≠ _; rw [add_block]; exact hn264_0) | exact hn264_0) (.int .i64 t261)).trans hx264_0; replace hx264_1 := (cell_far (p := ⟨gb263, 0, none⟩) (by first | (rw [add_block]; exact hn264_0) | (show (Addr.add _ _).block ≠ _; rw [add_block]; exact hn264_0) | exact hn264_0) (.int .i64 t261)).trans hx264_1; replace hx264_0 := (cell_far (p := ⟨gb263, 1, none⟩) (by first | (rw [add_block]; exact hn264_1) | (show (Addr.add _ _).block ≠ _; rw [add_block]; exact hn264_1) | exact hn264_1) (.string t262)).trans hx264_0; replace hx264_1 := (cell_far (p := ⟨gb263, 1, none⟩) (by first | (rw [add_block]; exact hn264_1) | (show (Addr.add _ _).block ≠ _; rw [add_block]; exact hn264_1) | exact hn264_1) (.string t262)).trans hx264_1; clear hn264_0; clear hn264_1; replace p264 := eq_true p264; replace q264 := eq_true q264; have p277 : 0 ≤ (0 : Int) := (by omega); have q277 : 0 < (x4_1.length : Int) := dA; obtain ⟨ad277, e277, hx277_0, hx277_1⟩ := at_T38 (Kd.R_reads' HO_4.out).2.2 0 p277 q277; obtain rfl : ad264 = ad277 := (by injection e277); have qi277 : (0 < x4_1.length) = True := eq_true (by omega); (try rw [show ((0 : Int)).toNat = 0 from rfl] at hx277_0); (try rw [show 0 * 2 = 0 from rfl] at hx277_0); (try rw [Addr.add_zero'] at hx277_0); (try rw [show ((0 : Int)).toNat = 0 from rfl] at hx277_1); (try rw [show 0 * 2 = 0 from rfl] at hx277_1); (try rw [Addr.add_zero'] at hx277_1); have hn277_0 : ad264.block ≠ gb263 := Kd.own_blk (Kd.R_away HO_4.out (fun _ hk => hk.2)); have hn277_1 : ad264.block ≠ gb263 := Kd.own_blk (Kd.R_away HO_4.out (fun _ hk => hk.2)); replace hx277_0 := (cell_far (p := ⟨gb263, 0, none⟩) (by first | (rw [add_block]; exact hn277_0) | (show (Addr.add _ _).block ≠ _; rw [add_block]; exact hn277_0) | exact hn277_0) (.int .i64 t261)).trans hx277_0; replace hx277_1 := (cell_far (p := ⟨gb263, 0, none⟩) (by first | (rw [add_block]; exact hn277_0) | (show (Addr.add _ _).block ≠ _; rw [add_block]; exact hn277_0) | exact hn277_0) (.int .i64 t261)).trans hx277_1; replace hx277_0 := (cell_far (p := ⟨gb263, 1, none⟩) (by first | (rw [add_block]; exact hn277_1) | (show (Addr.add _ _).block ≠ _; rw [add_block]; exact hn277_1) | exact hn277_1) (.string t262)).trans hx277_0; replace hx277_1 := (cell_far (p := ⟨gb263, 1, none⟩) (by first | (rw [add_block]; exact hn277_1) | (show (Addr.add _ _).block ≠ _; rw [add_block]; exact hn277_1) | exact hn277_1) (.string t262)).trans hx277_1; clear hn277_0; clear hn277_1; replace p277 := eq_true p277; replace q277 := eq_true q277) | ((with_reducible refine gate_dst (N := 48) rfl ?_); refine Kd.R_lit k38 _ 38 ?hg (N := 48) ?hd (xs := ([(⟨t261, t262⟩ : S38)] : List (S38))) (inner := [.int .i64 t261, .string t262]) (ok := fun _ => True) (okp := fun _ => True) ?hr ?hp (fun _ hk => hk) trivial (Below.refl _ _) (Nat.le_refl _) (by simp) ?_; (case hd => rfl); (case hg => rfl); (case hr => first | (go_simp; done) | (go_simp; rfl)); (case hp => exact (Reps.c2 (show Kd.M k38 _ _ _ (⟨t261, t262⟩ : S38) [.int .i64 t261, .string t262] from (k38_mkM _ _ _ (⟨t261, t262⟩ : S38) )) (Reps.none _ _))); intro v285 w50 ho51 hb hg_ hnew_; clear hg_ hnew_; (first | rw [← Ny284.out] at ho51 | (simp only [Int.reduceToNat] at ho51; rw [← Ny284.out] at ho51)); replace HO_3 := Aside0.mk (Kd.R_below (by (with_reducible repeat (first | apply Kd.R_alloc | apply Kd.R_drewN | apply Kd.R_drew)); exact (Kd.R_mono (Kd.R_far (p := ⟨gb263, 1, none⟩) (Kd.R_far (p := ⟨gb263, 0, none⟩) (Kd.R_types HO_3.out BK263.out (by decide)) (fun _ hk => hk.2) (.int .i64 t261)) (fun _ hk => hk.2) (.string t262)) (fun _ h_ => h_.1))) hb); have HO286 := Aside0.mk (Kd.R_lower (Kd.R_newB (Kd.R_new' ho51 (Kd.R_lt (by (with_reducible repeat (first | apply Kd.R_alloc | apply Kd.R_drewN | apply Kd.R_drew)); exact (Kd.R_mono (Kd.R_far (p := ⟨gb263, 1, none⟩) (Kd.R_far (p := ⟨gb263, 0, none⟩) (Kd.R_mono HO_4.out (fun k_ hk => (⟨hk, hk.2⟩ : _ ∧ k_ ≠ gb263))) (fun _ hk => hk.2) (.int .i64 t261)) (fun _ hk => hk.2) (.string t262)) (fun _ h_ => h_.1))))) (g := gb263) (o := .cells #[.int .i64 t261, .string t262] 38 (0, 0)) (bP BK263)) (below_size bG)); replace HO_4 := Aside0.mk (Kd.R_elder' (by (with_reducible repeat (first | apply Kd.R_alloc | apply Kd.R_drewN | apply Kd.R_drew)); exact (Kd.R_mono (Kd.R_far (p := ⟨gb263, 1, none⟩) (Kd.R_far (p := ⟨gb263, 0, none⟩) (Kd.R_mono HO_4.out (fun k_ hk => (⟨hk, hk.2⟩ : _ ∧ k_ ≠ gb263))) (fun _ hk => hk.2) (.int .i64 t261)) (fun _ hk => hk.2) (.string t262)) (fun _ h_ => h_.1))) (Kd.R_base ho51) hb); replace BK263 := Aside0.mk (blk_below (g := gb263) (o := .cells #[.int .i64 t261, .string t262] 38 (0, 0)) (bP BK263) hb); replace HB := sB hb; clear hb ho51) | ((with_reducible refine gate_builtin (b := .append) (xs := #[.tmp 48, .tmp 49]) rfl ?_); at_builtin; refine Kd.R_append_rows k38 (w0 := w) w.heap.size rfl (.tmp 48) (.tmp 49) 39 38 (.agg #[(.int .i64 0), (.string ⟨#[]⟩)]) 24 rfl Tryd.underlying39 info38 rfl (by decide) (by omega) v285 y284 x4_1 _ _ _ (fun k_ => some k_ ≠ (.slice (some ad264) x4_1.length co49 : Value).ownBlock ∧ k_ ≠ gb263) (fun _ => False) rfl rfl ?aO ?aR (fun _ _ h => h) (fun _ h => h.elim) ?aF ?aB ?aS ?aL ?_; (case aR => repeat (first | exact (Kd.R_reads' HO_4.out).2.2 | (with_reducible refine Kd.C_alloc ?_ _) | (with_reducible refine Kd.C_drewN ?_ _) | (with_reducible refine Kd.C_drew ?_))); (case aB => exact bG); (case aF => exact (fun k_ hk => ⟨Kd.fresh' (Kd.R_lt (kR HO_4)) k_ hk, Kd.freshB (g := gb263) (o := .cells #[.int .i64 t261, .string t262] 38 (0, 0)) (bK BK263) k_ hk⟩)); (case aO => exact (by (with_reducible repeat (first | apply Kd.R_alloc | apply Kd.R_drewN | apply Kd.R_drew)); exact Kd.R_mono HO286.out (fun _ hk => ⟨hk.1.2, hk.2⟩))); (case aS => exact (below_size bG)); (case aL => have := LMc45.out; omega); intro v288 w52 ho hb hg hat; rw [← Ny287.out] at ho; replace HO_3 := Aside0.mk (Kd.R_over' (kR HO_3) (Kd.R_typed (kR HO286)) (by decide) hg); replace HO_4 := Aside0.mk (Kd.R_after (ok := (fun k_ => k_ ≠ gb263)) (by (with_reducible repeat (first | apply Kd.R_alloc | apply Kd.R_drewN | apply Kd.R_drew)); exact Kd.R_mono HO_4.out (fun _ hk => ⟨hk.1.2, hk.2⟩)) hg hat); replace BK263 := Aside0.mk (blk_grown (g := gb263) (o := .cells #[.int .i64 t261, .string t262] 38 (0, 0)) (bK BK263) hg (Kd.R_away HO286.out (fun _ hk => hk.2))); replace HB := Aside0.mk (hb); have HO289 := Aside0.mk (ho); clear HO286; clear ho hb hg hat))
   go_roundg k1
   case measure => have := HK1.out; omega
   case rel => exact ⟨(y287), (wrap64 (x5_1 - 1)), cA, H', ⟨by have := HK1.out; omega⟩, ⟨kR HO_3⟩, ⟨by (with_reducible repeat (first | apply Kd.R_alloc | apply Kd.R_drewN | apply Kd.R_drew)); exact Kd.R_mono HO289.out (fun _ hk => trivial)⟩, ⟨bG⟩⟩
  rw [if_pos c31] at H
  obtain ⟨c31b0, c31b1⟩ := eqT c31
  clear c31
  by_cases c32 : (((rd_T38 x4_1 0).f0) = 10)
  rotate_left
  ·rw [if_neg c32] at H
   obtain ⟨c32b0, c32b1⟩ := eqF c32
   have H' := Aside0.mk H
   clear H
   have p260 : 0 ≤ (x5_1 : Int) := dA
   have q260 : x5_1 < (t257.length : Int) := dA
   obtain ⟨ad260, e260, hx260_0, hx260_1, hx260_2⟩ := at_T98 (Kd.R_reads' HO_3.out).2.2 x5_1 p260 q260
   cases e260
   replace p260 := eq_true p260
   replace q260 := eq_true q260
   go_wp2_with (first | (refine gl (some 22) Tryd.func77 #[.agg #[.string ((rd_T98 t257 x5_1).f0), .bool ((rd_T98 t257 x5_1).f1), .bool ((rd_T98 t257 x5_1).f2)]] ?_; (with_reducible refine (newelref05_word.calls k1 ((rd_T98 t257 x5_1).f0) ((rd_T98 t257 x5_1).f1) ((rd_T98 t257 x5_1).f2) t261 t262 _ (gS HG) A10.out).mono ?_); rintro e w41 ⟨rfl, hb⟩; refine ⟨_, rfl, ?_⟩; replace HO_3 := rB HO_3 hb; replace HO_4 := rB HO_4 hb; replace HB := sB hb; (try clear hb)) | (refine be 6 #[.int .i64 0, .string (⟨#[]⟩ : ByteArray)] 38 ?_; intro gb263 hg w42 hbox hb; replace HO_3 := rB HO_3 hb; replace HO_4 := Aside0.mk (Kd.R_below (Kd.R_elderB (kR HO_4) gb263 (Nat.le_of_eq hg.symm)) hb); have BK263 := Aside0.mk (hbox); have GW263 := gW hg; have GE263 := gW hg; replace HB := sB hb; clear hb hbox hg; have hcz43_0 : w42.cell? ⟨gb263, 0, none⟩ = some (.int .i64 0) := (blk_cell BK263.out 0).trans rfl; have hcz43_1 : w42.cell? ⟨gb263, 1, none⟩ = some (.string (⟨#[]⟩ : ByteArray)) := (blk_cell BK263.out 1).trans rfl; have hfz43_0 := blk_frozen BK263.out 0; have hfz43_1 := blk_frozen BK263.out 1; obtain ⟨Ao44, co44, eo44⟩ := Kd.R_slice HO_4.out; subst eo44; have p264 : 0 ≤ (0 : Int) := (by omega); have q264 : 0 < (x4_1.length : Int) := dA; obtain ⟨ad264, e264, hx264_0, hx264_1⟩ := at_T38 (Kd.R_reads' HO_4.out).2.2 0 p264 q264; cases e264; have qi264 : (0 < x4_1.length) = True := eq_true (by omega); (try rw [show ((0 : Int)).toNat = 0 from rfl] at hx264_0); (try rw [show 0 * 2 = 0 from rfl] at hx264_0); (try rw [Addr.add_zero'] at hx264_0); (try rw [show ((0 : Int)).toNat = 0 from rfl] at hx264_1); (try rw [show 0 * 2 = 0 from rfl] at hx264_1); (try rw [Addr.add_zero'] at hx264_1); have hn264_0 : ad264.block ≠ gb263 := Kd.own_blk (Kd.R_away HO_4.out (fun _ hk => hk.2)); have hn264_1 : ad264.block ≠ gb263 := Kd.own_blk (Kd.R_away HO_4.out (fun _ hk => hk.2)); replace hx264_0 := (cell_far (p := ⟨gb263, 0, none⟩) (by first | (rw [add_block]; exact hn264_0) | (show (Addr.add _ _).block ≠ _; rw [add_block]; exact hn264_0) | exact hn264_0) (.int .i64 t261)).trans hx264_0; replace hx264_1 := (cell_far (p := ⟨gb263, 0, none⟩) (by first | (rw [add_block]; exact hn264_0) | (show (Addr.add _ _).block ≠ _; rw [add_block]; exact hn264_0) | exact hn264_0) (.int .i64 t261)).trans hx264_1; replace hx264_0 := (cell_far (p := ⟨gb263, 1, none⟩) (by first | (rw [add_block]; exact hn264_1) | (show (Addr.add _ _).block ≠ _; rw [add_block]; exact hn264_1) | exact hn264_1) (.string t262)).trans hx264_0; replace hx264_1 := (cell_far (p := ⟨gb263, 1, none⟩) (by first | (rw [add_block]; exact hn264_1) | (show (Addr.add _ _).block ≠ _; rw [add_block]; exact hn264_1) | exact hn264_1) (.string t262)).trans hx264_1; clear hn264_0; clear hn264_1; replace p264 := eq_true p264; replace q264 := eq_true q264; have p277 : 0 ≤ (0 : Int) := (by omega); have q277 : 0 < (x4_1.length : Int) := dA; obtain ⟨ad277, e277, hx277_0, hx277_1⟩ := at_T38 (Kd.R_reads' HO_4.out).2.2 0 p277 q277; obtain rfl : ad264 = ad277 := (by injection e277); have qi277 : (0 < x4_1.length) = True := eq_true (by omega); (try rw [show ((0 : Int)).toNat = 0 from rfl] at hx277_0); (try rw [show 0 * 2 = 0 from rfl] at hx277_0); (try rw [Addr.add_zero'] at hx277_0); (try rw [show ((0 : Int)).toNat = 0 from rfl] at hx277_1); (try rw [show 0 * 2 = 0 from rfl] at hx277_1); (try rw [Addr.add_zero'] at hx277_1); have hn277_0 : ad264.block ≠ gb263 := Kd.own_blk (Kd.R_away HO_4.out (fun _ hk => hk.2)); have hn277_1 : ad264.block ≠ gb263 := Kd.own_blk (Kd.R_away HO_4.out (fun _ hk => hk.2)); replace hx277_0 := (cell_far (p := ⟨gb263, 0, none⟩) (by first | (rw [add_block]; exact hn277_0) | (show (Addr.add _ _).block ≠ _; rw [add_block]; exact hn277_0) | exact hn277_0) (.int .i64 t261)).trans hx277_0; replace hx277_1 := (cell_far (p := ⟨gb263, 0, none⟩) (by first | (rw [add_block]; exact hn277_0) | (show (Addr.add _ _).block ≠ _; rw [add_block]; exact hn277_0) | exact hn277_0) (.int .i64 t261)).trans hx277_1; replace hx277_0 := (cell_far (p := ⟨gb263, 1, none⟩) (by first | (rw [add_block]; exact hn277_1) | (show (Addr.add _ _).block ≠ _; rw [add_block]; exact hn277_1) | exact hn277_1) (.string t262)).trans hx277_0; replace hx277_1 := (cell_far (p := ⟨gb263, 1, none⟩) (by first | (rw [add_block]; exact hn277_1) | (show (Addr.add _ _).block ≠ _; rw [add_block]; exact hn277_1) | exact hn277_1) (.string t262)).trans hx277_1; clear hn277_0; clear hn277_1; replace p277 := eq_true p277; replace q277 := eq_true q277))
   go_roundg k1
   case measure => have := HK1.out; omega
   case rel => exact ⟨(x4_1), (wrap64 (x5_1 - 1)), cA, H', ⟨by have := HK1.out; omega⟩, ⟨by (with_reducible repeat (first | apply Kd.R_alloc | apply Kd.R_drewN | apply Kd.R_drew)); exact Kd.R_mono (Kd.R_far (p := ⟨gb263, 1, none⟩) (Kd.R_far (p := ⟨gb263, 0, none⟩) (Kd.R_types HO_3.out BK263.out (by decide)) (fun _ hk => hk.2) (.int .i64 t261)) (fun _ hk => hk.2) (.string t262)) (fun _ hk => trivial)⟩, ⟨by (with_reducible repeat (first | apply Kd.R_alloc | apply Kd.R_drewN | apply Kd.R_drew)); exact Kd.R_mono (Kd.R_far (p := ⟨gb263, 1, none⟩) (Kd.R_far (p := ⟨gb263, 0, none⟩) (Kd.R_mono HO_4.out (fun k_ hk => (⟨hk, hk.2⟩ : _ ∧ k_ ≠ gb263))) (fun _ hk => hk.2) (.int .i64 t261)) (fun _ hk => hk.2) (.string t262)) (fun _ hk => trivial)⟩, ⟨bG⟩⟩
  rw [if_pos c32] at H
  obtain ⟨c32b0, c32b1⟩ := eqT c32
  clear c32
  obtain ⟨y278, hy278⟩ : ∃ y_ : List (S38), y_ = (([(⟨t261, t262⟩ : S38)] : List (S38))) := ⟨_, rfl⟩
  replace H : (if y278.length + x4_1.length < 5864062014805 then (newelref05_Split.l0 k1 t257 (y278 ++ x4_1) (wrap64 (x5_1 - 1))) else (none)) = some r := by first | (rw [hy278]; with_reducible exact H) | (have H2_ := (Option.bind_some _ _).symm.trans H; rw [hy278]; with_reducible exact H2_) | (have H2_ := (Option.bind_some _ _).symm.trans H; with_reducible exact H2_) | with_reducible exact H | (rw [hy278]; exact H) | exact H
  have Ny278 := Aside0.mk hy278
  clear hy278
  by_cases c33 : y278.length + x4_1.length < 5864062014805
  rotate_left
  ·rw [if_neg c33] at H
   exact absurd H (by simp)
  rw [if_pos c33] at H
  have LMc33 := Aside0.mk c33
  clear c33
  obtain ⟨y281, hy281⟩ : ∃ y_ : List (S38), y_ = (y278 ++ x4_1) := ⟨_, rfl⟩
  replace H : (newelref05_Split.l0 k1 t257 y281 (wrap64 (x5_1 - 1))) = some r := by first | (rw [hy281]; with_reducible exact H) | (have H2_ := (Option.bind_some _ _).symm.trans H; rw [hy281]; with_reducible exact H2_) | (have H2_ := (Option.bind_some _ _).symm.trans H; with_reducible exact H2_) | with_reducible exact H | (rw [hy281]; exact H) | exact H
  have Ny281 := Aside0.mk hy281
  clear hy281
  have H' := Aside0.mk H
  clear H
  have p260 : 0 ≤ (x5_1 : Int) := dA
  have q260 : x5_1 < (t257.length : Int) := dA
  obtain ⟨ad260, e260, hx260_0, hx260_1, hx260_2⟩ := at_T98 (Kd.R_reads' HO_3.out).2.2 x5_1 p260 q260
  cases e260
  replace p260 := eq_true p260
  replace q260 := eq_true q260
  go_wp2_with (first | (refine gl (some 22) Tryd.func77 #[.agg #[.string ((rd_T98 t257 x5_1).f0), .bool ((rd_T98 t257 x5_1).f1), .bool ((rd_T98 t257 x5_1).f2)]] ?_; (with_reducible refine (newelref05_word.calls k1 ((rd_T98 t257 x5_1).f0) ((rd_T98 t257 x5_1).f1) ((rd_T98 t257 x5_1).f2) t261 t262 _ (gS HG) A10.out).mono ?_); rintro e w34 ⟨rfl, hb⟩; refine ⟨_, rfl, ?_⟩; replace HO_3 := rB HO_3 hb; replace HO_4 := rB HO_4 hb; replace HB := sB hb; (try clear hb)) | (refine be 6 #[.int .i64 0, .string (⟨#[]⟩ : ByteArray)] 38 ?_; intro gb263 hg w35 hbox hb; replace HO_3 := rB HO_3 hb; replace HO_4 := Aside0.mk (Kd.R_below (Kd.R_elderB (kR HO_4) gb263 (Nat.le_of_eq hg.symm)) hb); have BK263 := Aside0.mk (hbox); have GW263 := gW hg; have GE263 := gW hg; replace HB := sB hb; clear hb hbox hg; have hcz36_0 : w35.cell? ⟨gb263, 0, none⟩ = some (.int .i64 0) := (blk_cell BK263.out 0).trans rfl; have hcz36_1 : w35.cell? ⟨gb263, 1, none⟩ = some (.string (⟨#[]⟩ : ByteArray)) := (blk_cell BK263.out 1).trans rfl; have hfz36_0 := blk_frozen BK263.out 0; have hfz36_1 := blk_frozen BK263.out 1; obtain ⟨Ao37, co37, eo37⟩ := Kd.R_slice HO_4.out; subst eo37; have p264 : 0 ≤ (0 : Int) := (by omega); have q264 : 0 < (x4_1.length : Int) := dA; obtain ⟨ad264, e264, hx264_0, hx264_1⟩ := at_T38 (Kd.R_reads' HO_4.out).2.2 0 p264 q264; cases e264; have qi264 : (0 < x4_1.length) = True := eq_true (by omega); (try rw [show ((0 : Int)).toNat = 0 from rfl] at hx264_0); (try rw [show 0 * 2 = 0 from rfl] at hx264_0); (try rw [Addr.add_zero'] at hx264_0); (try rw [show ((0 : Int)).toNat = 0 from rfl] at hx264_1); (try rw [show 0 * 2 = 0 from rfl] at hx264_1); (try rw [Addr.add_zero'] at hx264_1); have hn264_0 : ad264.block ≠ gb263 := Kd.own_blk (Kd.R_away HO_4.out (fun _ hk => hk.2)); have hn264_1 : ad264.block ≠ gb263 := Kd.own_blk (Kd.R_away HO_4.out (fun _ hk => hk.2)); replace hx264_0 := (cell_far (p := ⟨gb263, 0, none⟩) (by first | (rw [add_block]; exact hn264_0) | (show (Addr.add _ _).block ≠ _; rw [add_block]; exact hn264_0) | exact hn264_0) (.int .i64 t261)).trans hx264_0; replace hx264_1 := (cell_far (p := ⟨gb263, 0, none⟩) (by first | (rw [add_block]; exact hn264_0) | (show (Addr.add _ _).block ≠ _; rw [add_block]; exact hn264_0) | exact hn264_0) (.int .i64 t261)).trans hx264_1; replace hx264_0 := (cell_far (p := ⟨gb263, 1, none⟩) (by first | (rw [add_block]; exact hn264_1) | (show (Addr.add _ _).block ≠ _; rw [add_block]; exact hn264_1) | exact hn264_1) (.string t262)).trans hx264_0; replace hx264_1 := (cell_far (p := ⟨gb263, 1, none⟩) (by first | (rw [add_block]; exact hn264_1) | (show (Addr.add _ _).block ≠ _; rw [add_block]; exact hn264_1) | exact hn264_1) (.string t262)).trans hx264_1; clear hn264_0; clear hn264_1; replace p264 := eq_true p264; replace q264 := eq_true q264; have p277 : 0 ≤ (0 : Int) := (by omega); have q277 : 0 < (x4_1.length : Int) := dA; obtain ⟨ad277, e277, hx277_0, hx277_1⟩ := at_T38 (Kd.R_reads' HO_4.out).2.2 0 p277 q277; obtain rfl : ad264 = ad277 := (by injection e277); have qi277 : (0 < x4_1.length) = True := eq_true (by omega); (try rw [show ((0 : Int)).toNat = 0 from rfl] at hx277_0); (try rw [show 0 * 2 = 0 from rfl] at hx277_0); (try rw [Addr.add_zero'] at hx277_0); (try rw [show ((0 : Int)).toNat = 0 from rfl] at hx277_1); (try rw [show 0 * 2 = 0 from rfl] at hx277_1); (try rw [Addr.add_zero'] at hx277_1); have hn277_0 : ad264.block ≠ gb263 := Kd.own_blk (Kd.R_away HO_4.out (fun _ hk => hk.2)); have hn277_1 : ad264.block ≠ gb263 := Kd.own_blk (Kd.R_away HO_4.out (fun _ hk => hk.2)); replace hx277_0 := (cell_far (p := ⟨gb263, 0, none⟩) (by first | (rw [add_block]; exact hn277_0) | (show (Addr.add _ _).block ≠ _; rw [add_block]; exact hn277_0) | exact hn277_0) (.int .i64 t261)).trans hx277_0; replace hx277_1 := (cell_far (p := ⟨gb263, 0, none⟩) (by first | (rw [add_block]; exact hn277_0) | (show (Addr.add _ _).block ≠ _; rw [add_block]; exact hn277_0) | exact hn277_0) (.int .i64 t261)).trans hx277_1; replace hx277_0 := (cell_far (p := ⟨gb263, 1, none⟩) (by first | (rw [add_block]; exact hn277_1) | (show (Addr.add _ _).block ≠ _; rw [add_block]; exact hn277_1) | exact hn277_1) (.string t262)).trans hx277_0; replace hx277_1 := (cell_far (p := ⟨gb263, 1, none⟩) (by first | (rw [add_block]; exact hn277_1) | (show (Addr.add _ _).block ≠ _; rw [add_block]; exact hn277_1) | exact hn277_1) (.string t262)).trans hx277_1; clear hn277_0; clear hn277_1; replace p277 := eq_true p277; replace q277 := eq_true q277) | ((with_reducible refine gate_dst (N := 48) rfl ?_); refine Kd.R_lit k38 _ 38 ?hg (N := 48) ?hd (xs := ([(⟨t261, t262⟩ : S38)] : List (S38))) (inner := [.int .i64 t261, .string t262]) (ok := fun _ => True) (okp := fun _ => True) ?hr ?hp (fun _ hk => hk) trivial (Below.refl _ _) (Nat.le_refl _) (by simp) ?_; (case hd => rfl); (case hg => rfl); (case hr => first | (go_simp; done) | (go_simp; rfl)); (case hp => exact (Reps.c2 (show Kd.M k38 _ _ _ (⟨t261, t262⟩ : S38) [.int .i64 t261, .string t262] from (k38_mkM _ _ _ (⟨t261, t262⟩ : S38) )) (Reps.none _ _))); intro v279 w38 ho39 hb hg_ hnew_; clear hg_ hnew_; (first | rw [← Ny278.out] at ho39 | (simp only [Int.reduceToNat] at ho39; rw [← Ny278.out] at ho39)); replace HO_3 := Aside0.mk (Kd.R_below (by (with_reducible repeat (first | apply Kd.R_alloc | apply Kd.R_drewN | apply Kd.R_drew)); exact (Kd.R_mono (Kd.R_far (p := ⟨gb263, 1, none⟩) (Kd.R_far (p := ⟨gb263, 0, none⟩) (Kd.R_types HO_3.out BK263.out (by decide)) (fun _ hk => hk.2) (.int .i64 t261)) (fun _ hk => hk.2) (.string t262)) (fun _ h_ => h_.1))) hb); have HO280 := Aside0.mk (Kd.R_lower (Kd.R_newB (Kd.R_new' ho39 (Kd.R_lt (by (with_reducible repeat (first | apply Kd.R_alloc | apply Kd.R_drewN | apply Kd.R_drew)); exact (Kd.R_mono (Kd.R_far (p := ⟨gb263, 1, none⟩) (Kd.R_far (p := ⟨gb263, 0, none⟩) (Kd.R_mono HO_4.out (fun k_ hk => (⟨hk, hk.2⟩ : _ ∧ k_ ≠ gb263))) (fun _ hk => hk.2) (.int .i64 t261)) (fun _ hk => hk.2) (.string t262)) (fun _ h_ => h_.1))))) (g := gb263) (o := .cells #[.int .i64 t261, .string t262] 38 (0, 0)) (bP BK263)) (below_size bG)); replace HO_4 := Aside0.mk (Kd.R_elder' (by (with_reducible repeat (first | apply Kd.R_alloc | apply Kd.R_drewN | apply Kd.R_drew)); exact (Kd.R_mono (Kd.R_far (p := ⟨gb263, 1, none⟩) (Kd.R_far (p := ⟨gb263, 0, none⟩) (Kd.R_mono HO_4.out (fun k_ hk => (⟨hk, hk.2⟩ : _ ∧ k_ ≠ gb263))) (fun _ hk => hk.2) (.int .i64 t261)) (fun _ hk => hk.2) (.string t262)) (fun _ h_ => h_.1))) (Kd.R_base ho39) hb); replace BK263 := Aside0.mk (blk_below (g := gb263) (o := .cells #[.int .i64 t261, .string t262] 38 (0, 0)) (bP BK263) hb); replace HB := sB hb; clear hb ho39) | ((with_reducible refine gate_builtin (b := .append) (xs := #[.tmp 48, .tmp 49]) rfl ?_); at_builtin; refine Kd.R_append_rows k38 (w0 := w) w.heap.size rfl (.tmp 48) (.tmp 49) 39 38 (.agg #[(.int .i64 0), (.string ⟨#[]⟩)]) 24 rfl Tryd.underlying39 info38 rfl (by decide) (by omega) v279 y278 x4_1 _ _ _ (fun k_ => some k_ ≠ (.slice (some ad264) x4_1.length co37 : Value).ownBlock ∧ k_ ≠ gb263) (fun _ => False) rfl rfl ?aO ?aR (fun _ _ h => h) (fun _ h => h.elim) ?aF ?aB ?aS ?aL ?_; (case aR => repeat (first | exact (Kd.R_reads' HO_4.out).2.2 | (with_reducible refine Kd.C_alloc ?_ _) | (with_reducible refine Kd.C_drewN ?_ _) | (with_reducible refine Kd.C_drew ?_))); (case aB => exact bG); (case aF => exact (fun k_ hk => ⟨Kd.fresh' (Kd.R_lt (kR HO_4)) k_ hk, Kd.freshB (g := gb263) (o := .cells #[.int .i64 t261, .string t262] 38 (0, 0)) (bK BK263) k_ hk⟩)); (case aO => exact (by (with_reducible repeat (first | apply Kd.R_alloc | apply Kd.R_drewN | apply Kd.R_drew)); exact Kd.R_mono HO280.out (fun _ hk => ⟨hk.1.2, hk.2⟩))); (case aS => exact (below_size bG)); (case aL => have := LMc33.out; omega); intro v282 w40 ho hb hg hat; rw [← Ny281.out] at ho; replace HO_3 := Aside0.mk (Kd.R_over' (kR HO_3) (Kd.R_typed (kR HO280)) (by decide) hg); replace HO_4 := Aside0.mk (Kd.R_after (ok := (fun k_ => k_ ≠ gb263)) (by (with_reducible repeat (first | apply Kd.R_alloc | apply Kd.R_drewN | apply Kd.R_drew)); exact Kd.R_mono HO_4.out (fun _ hk => ⟨hk.1.2, hk.2⟩)) hg hat); replace BK263 := Aside0.mk (blk_grown (g := gb263) (o := .cells #[.int .i64 t261, .string t262] 38 (0, 0)) (bK BK263) hg (Kd.R_away HO280.out (fun _ hk => hk.2))); replace HB := Aside0.mk (hb); have HO283 := Aside0.mk (ho); clear HO280; clear ho hb hg hat))
  go_roundg k1
  case measure => have := HK1.out; omega
  case rel => exact ⟨(y281), (wrap64 (x5_1 - 1)), cA, H', ⟨by have := HK1.out; omega⟩, ⟨kR HO_3⟩, ⟨by (with_reducible repeat (first | apply Kd.R_alloc | apply Kd.R_drewN | apply Kd.R_drew)); exact Kd.R_mono HO283.out (fun _ hk => trivial)⟩, ⟨bG⟩⟩
section
theorem bytesLess_turn_r : ∀ x y : List UInt8, (!(Op.bytesLess x y || x == y)) = Op.bytesLess y x
 | [], [] => rfl
 | [], _ :: _ => rfl
 | _ :: _, [] => rfl
 | a :: x, b :: y => by
  have ih := bytesLess_turn_r x y
  rcases Nat.lt_trichotomy a.toNat b.toNat with h | h | h
  ·have h1 : decide (a < b) = true := decide_eq_true (UInt8.lt_iff_toNat_lt.2 h)
   have h2 : decide (b < a) = false := decide_eq_false (fun g => by have := UInt8.lt_iff_toNat_lt.1 g; omega)
   have h3 : (b == a) = false := by rw [Bool.eq_false_iff]; intro g; rw [beq_iff_eq] at g; rw [g] at h; omega
   simp [Op.bytesLess, h1, h2, h3]
  ·obtain rfl : a = b := UInt8.toNat_inj.1 h
   have h1 : decide (a < a) = false := decide_eq_false (fun g => by have := UInt8.lt_iff_toNat_lt.1 g; omega)
   simp only [Op.bytesLess, h1, beq_self_eq_true, Bool.true_and, Bool.false_or]
   rw [← ih]
   simp
  ·have h1 : decide (b < a) = true := decide_eq_true (UInt8.lt_iff_toNat_lt.2 h)
   have h2 : decide (a < b) = false := decide_eq_false (fun g => by have := UInt8.lt_iff_toNat_lt.1 g; omega)
   have h3 : (a == b) = false := by rw [Bool.eq_false_iff]; intro g; rw [beq_iff_eq] at g; rw [g] at h; omega
   have h4 : ¬ a = b := by simpa using h3
   simp [Op.bytesLess, h1, h2, h3, h4]
theorem binOp_gtr_turned_r (t : TypeId) (a b : ByteArray) : binOp .gtr t (.string a) (.string b) = pure (.bool (Op.bytesLess b.toList a.toList)) := by
 rw [← bytesLess_turn_r]
 simp [binOp, Op.stringOp]
attribute [local go_sem] binOp_gtr_turned_r
def newelref05_text.f (a0 : ByteArray) (a1 : ByteArray) : Option (Int) := if (Op.bytesLess a0.toList a1.toList) = true then (some (-1)) else (if (Op.bytesLess a1.toList a0.toList) = true then (some 1) else (some 0))
theorem newelref05_text.calls (a0 : ByteArray) (a1 : ByteArray) (r : Int) (w : World) (hG : Glob w) (h : newelref05_text.f a0 a1 = some r) :
 Calls Tryd.prog 143 #[.string a0, .string a1] w fun e w' => e = .returned (.int .i64 r) ∧ Drawn0 w w' := by
 have HG := Aside0.mk hG
 clear hG
 have H : (if (Op.bytesLess a0.toList a1.toList) = true then (some (-1)) else (if (Op.bytesLess a1.toList a0.toList) = true then (some 1) else (some 0))) = some r := h
 clear h
 by_cases c3 : (Op.bytesLess a0.toList a1.toList) = true
 ·rw [if_pos c3] at H
  have c3b0 : (Op.bytesLess a0.toList a1.toList) = true := c3
  clear c3
  obtain rfl := Option.some.inj H
  go_enter Tryd.func143, Tryd.ntmps143
  go_wp2
  go_ret
  exact ⟨by first | rfl | (simp; done) | (simp [*]; done), by repeat (first | exact Drawn0.refl _ | apply Drawn0.step)⟩
 rw [if_neg c3] at H
 have c3b0 : (Op.bytesLess a0.toList a1.toList) = false := by simpa using c3
 clear c3
 by_cases c4 : (Op.bytesLess a1.toList a0.toList) = true
 rotate_left
 ·rw [if_neg c4] at H
  have c4b0 : (Op.bytesLess a1.toList a0.toList) = false := by simpa using c4
  clear c4
  obtain rfl := Option.some.inj H
  go_enter Tryd.func143, Tryd.ntmps143
  go_wp2
  go_ret
  exact ⟨by first | rfl | (simp; done) | (simp [*]; done), by repeat (first | exact Drawn0.refl _ | apply Drawn0.step)⟩
 rw [if_pos c4] at H
 have c4b0 : (Op.bytesLess a1.toList a0.toList) = true := c4
 clear c4
 obtain rfl := Option.some.inj H
 go_enter Tryd.func143, Tryd.ntmps143
 go_wp2
 go_ret
 exact ⟨by first | rfl | (simp; done) | (simp [*]; done), by repeat (first | exact Drawn0.refl _ | apply Drawn0.step)⟩
end
def newelref05_one.j0 : Nat → Bool → Int → ByteArray → Int → ByteArray → Option (Int)
 | 0, _, _, _, _, _ => none
 | k + 1, x26, x416000, x416001, x417000, x417001 => if x26 = true then (if (x416001.size : Int) = (x417001.size : Int) then ((newelref05_text.f x416001 x417001).bind fun t418 => (some t418)) else (if (x416001.size : Int) < (x417001.size : Int) then (some (-1)) else (some 1))) else (some 0)
def newelref05_one.f (k : Nat) (a0_0 : Int) (a0_1 : ByteArray) (a1_0 : Int) (a1_1 : ByteArray) : Option (Int) := if a0_0 < a1_0 then (some (-1)) else (if a0_0 > a1_0 then (some 1) else (if a0_0 = 8 then ((newelref05_text.f a0_1 a1_1).bind fun t417 => (some t417)) else (if a0_0 = 9 then (newelref05_one.j0 k true a0_0 a0_1 a1_0 a1_1) else (newelref05_one.j0 k (a0_0 == 10) a0_0 a0_1 a1_0 a1_1))))
theorem newelref05_one.mono_l : ∀ k, (∀ y0 y1 y2 y3 y4, LeO (newelref05_one.j0 k y0 y1 y2 y3 y4) (newelref05_one.j0 (k + 1) y0 y1 y2 y3 y4))
 | 0 => fun _ _ _ _ _ r h => by simp [newelref05_one.j0] at h
 | k + 1 => by
  have ih0 := newelref05_one.mono_l k
  ·intro y0 y1 y2 y3 y4
   unfold newelref05_one.j0
   exact mo
theorem newelref05_one.mono : ∀ a0 a1 a2 a3 k, LeO (newelref05_one.f k a0 a1 a2 a3) (newelref05_one.f (k + 1) a0 a1 a2 a3) := by
 intro a0 a1 a2 a3 k
 have ih0 := newelref05_one.mono_l k
 unfold newelref05_one.f
 exact mo
theorem newelref05_one.calls (k : Nat) (a0_0 : Int) (a0_1 : ByteArray) (a1_0 : Int) (a1_1 : ByteArray) (r : Int) (w : World) (hG : Glob w) (h : newelref05_one.f k a0_0 a0_1 a1_0 a1_1 = some r) :
 Calls Tryd.prog 122 #[.agg #[.int .i64 a0_0, .string a0_1], .agg #[.int .i64 a1_0, .string a1_1]] w fun e w' => e = .returned (.int .i64 r) ∧ Below w.heap.size w w' := by
 have hu38 := Tryd.underlying38
 have HG := Aside0.mk hG
 clear hG
 have HB := Aside0.mk (Below.refl w.heap.size w)
 have H : (if a0_0 < a1_0 then (some (-1)) else (if a0_0 > a1_0 then (some 1) else (if a0_0 = 8 then ((newelref05_text.f a0_1 a1_1).bind fun t417 => (some t417)) else (if a0_0 = 9 then (newelref05_one.j0 k true a0_0 a0_1 a1_0 a1_1) else (newelref05_one.j0 k (a0_0 == 10) a0_0 a0_1 a1_0 a1_1))))) = some r := h
 clear h
 by_cases c3 : a0_0 < a1_0
 ·rw [if_pos c3] at H
  have c3b0 := dT c3
  clear c3
  obtain rfl := Option.some.inj H
  go_enter Tryd.func122, Tryd.ntmps122
  go_wp2_with (first | (refine be 2 #[.int .i64 a0_0, .string a0_1] 38 ?_; intro gb415 hg w4 hbox hb; have BK415 := Aside0.mk (hbox); have GW415 := gW hg; have GE415 := gW hg; replace HB := sB hb; clear hb hbox hg) | (refine be 3 #[.int .i64 a1_0, .string a1_1] 38 ?_; intro gb416 hg w5 hbox hb; have BK416 := Aside0.mk (hbox); have GW416 := gW hg; have GE416 := gW hg; replace HB := sB hb; have NB415_416 := nL BK415 hg; have NB416_415 := nG BK415 hg; replace BK415 := kB BK415 hb; clear hb hbox hg; have hnb6 := NB415_416.out; have hnc6 := NB416_415.out; have hcz7_0 : w5.cell? ⟨gb415, 0, none⟩ = some (.int .i64 a0_0) := (blk_cell BK415.out 0).trans rfl; have hcz7_1 : w5.cell? ⟨gb415, 1, none⟩ = some (.string a0_1) := (blk_cell BK415.out 1).trans rfl; have hfz7_0 := blk_frozen BK415.out 0; have hfz7_1 := blk_frozen BK415.out 1; have hcz8_0 : w5.cell? ⟨gb416, 0, none⟩ = some (.int .i64 a1_0) := (blk_cell BK416.out 0).trans rfl; have hcz8_1 : w5.cell? ⟨gb416, 1, none⟩ = some (.string a1_1) := (blk_cell BK416.out 1).trans rfl; have hfz8_0 := blk_frozen BK416.out 0; have hfz8_1 := blk_frozen BK416.out 1))
  go_ret
  exact ⟨eA, bG⟩
 rw [if_neg c3] at H
 have c3b0 := dF c3
 clear c3
 by_cases c9 : a0_0 > a1_0
 ·rw [if_pos c9] at H
  have c9b0 := dT c9
  clear c9
  obtain rfl := Option.some.inj H
  go_enter Tryd.func122, Tryd.ntmps122
  go_wp2_with (first | (refine be 2 #[.int .i64 a0_0, .string a0_1] 38 ?_; intro gb415 hg w10 hbox hb; have BK415 := Aside0.mk (hbox); have GW415 := gW hg; have GE415 := gW hg; replace HB := sB hb; clear hb hbox hg) | (refine be 3 #[.int .i64 a1_0, .string a1_1] 38 ?_; intro gb416 hg w11 hbox hb; have BK416 := Aside0.mk (hbox); have GW416 := gW hg; have GE416 := gW hg; replace HB := sB hb; have NB415_416 := nL BK415 hg; have NB416_415 := nG BK415 hg; replace BK415 := kB BK415 hb; clear hb hbox hg; have hnb12 := NB415_416.out; have hnc12 := NB416_415.out; have hcz13_0 : w11.cell? ⟨gb415, 0, none⟩ = some (.int .i64 a0_0) := (blk_cell BK415.out 0).trans rfl; have hcz13_1 : w11.cell? ⟨gb415, 1, none⟩ = some (.string a0_1) := (blk_cell BK415.out 1).trans rfl; have hfz13_0 := blk_frozen BK415.out 0; have hfz13_1 := blk_frozen BK415.out 1; have hcz14_0 : w11.cell? ⟨gb416, 0, none⟩ = some (.int .i64 a1_0) := (blk_cell BK416.out 0).trans rfl; have hcz14_1 : w11.cell? ⟨gb416, 1, none⟩ = some (.string a1_1) := (blk_cell BK416.out 1).trans rfl; have hfz14_0 := blk_frozen BK416.out 0; have hfz14_1 := blk_frozen BK416.out 1))
  go_ret
  exact ⟨eA, bG⟩
 rw [if_neg c9] at H
 have c9b0 := dF c9
 clear c9
 by_cases c15 : a0_0 = 8
 ·rw [if_pos c15] at H
  obtain ⟨c15b0, c15b1⟩ := eqT c15
  clear c15
  replace H := bi H
  obtain ⟨t417, A160, H⟩ := H
  try dsimp only at H
  have A16 := Aside0.mk A160
  clear A160
  obtain rfl := Option.some.inj H
  go_enter Tryd.func122, Tryd.ntmps122
  go_wp2_with (first | (refine be 2 #[.int .i64 a0_0, .string a0_1] 38 ?_; intro gb415 hg w17 hbox hb; have BK415 := Aside0.mk (hbox); have GW415 := gW hg; have GE415 := gW hg; replace HB := sB hb; clear hb hbox hg) | (refine be 3 #[.int .i64 a1_0, .string a1_1] 38 ?_; intro gb416 hg w18 hbox hb; have BK416 := Aside0.mk (hbox); have GW416 := gW hg; have GE416 := gW hg; replace HB := sB hb; have NB415_416 := nL BK415 hg; have NB416_415 := nG BK415 hg; replace BK415 := kB BK415 hb; clear hb hbox hg; have hnb19 := NB415_416.out; have hnc19 := NB416_415.out; have hcz20_0 : w18.cell? ⟨gb415, 0, none⟩ = some (.int .i64 a0_0) := (blk_cell BK415.out 0).trans rfl; have hcz20_1 : w18.cell? ⟨gb415, 1, none⟩ = some (.string a0_1) := (blk_cell BK415.out 1).trans rfl; have hfz20_0 := blk_frozen BK415.out 0; have hfz20_1 := blk_frozen BK415.out 1; have hcz21_0 : w18.cell? ⟨gb416, 0, none⟩ = some (.int .i64 a1_0) := (blk_cell BK416.out 0).trans rfl; have hcz21_1 : w18.cell? ⟨gb416, 1, none⟩ = some (.string a1_1) := (blk_cell BK416.out 1).trans rfl; have hfz21_0 := blk_frozen BK416.out 0; have hfz21_1 := blk_frozen BK416.out 1) | (refine gl (some 25) Tryd.func143 #[.string a0_1, .string a1_1] ?_; (with_reducible refine (newelref05_text.calls a0_1 a1_1 t417 _ (gS HG) A16.out).mono ?_); rintro e w' ⟨rfl, ⟨nd, rfl⟩⟩; refine ⟨_, rfl, ?_⟩))
  go_ret
  exact ⟨eA, bG⟩
 rw [if_neg c15] at H
 obtain ⟨c15b0, c15b1⟩ := eqF c15
 have HC22 := Aside0.mk H
 clear H
 go_enter Tryd.func122, Tryd.ntmps122
 go_upto_region 7 with (first | (refine be 2 #[.int .i64 a0_0, .string a0_1] 38 ?_; intro gb415 hg w23 hbox hb; have BK415 := Aside0.mk (hbox); have GW415 := gW hg; have GE415 := gW hg; replace HB := sB hb; clear hb hbox hg) | (refine be 3 #[.int .i64 a1_0, .string a1_1] 38 ?_; intro gb416 hg w24 hbox hb; have BK416 := Aside0.mk (hbox); have GW416 := gW hg; have GE416 := gW hg; replace HB := sB hb; have NB415_416 := nL BK415 hg; have NB416_415 := nG BK415 hg; replace BK415 := kB BK415 hb; clear hb hbox hg; have hnb25 := NB415_416.out; have hnc25 := NB416_415.out; have hcz26_0 : w24.cell? ⟨gb415, 0, none⟩ = some (.int .i64 a0_0) := (blk_cell BK415.out 0).trans rfl; have hcz26_1 : w24.cell? ⟨gb415, 1, none⟩ = some (.string a0_1) := (blk_cell BK415.out 1).trans rfl; have hfz26_0 := blk_frozen BK415.out 0; have hfz26_1 := blk_frozen BK415.out 1; have hcz27_0 : w24.cell? ⟨gb416, 0, none⟩ = some (.int .i64 a1_0) := (blk_cell BK416.out 0).trans rfl; have hcz27_1 : w24.cell? ⟨gb416, 1, none⟩ = some (.string a1_1) := (blk_cell BK416.out 1).trans rfl; have hfz27_0 := blk_frozen BK416.out 0; have hfz27_1 := blk_frozen BK416.out 1))
 (try simp only [Act.put, List.setIfInBounds_toArray, List.set_cons_zero, List.set_cons_succ])
 go_cut [26] (fun v26 wc => ∃ (kq : Nat) (x26_21 : Bool), v26 = .bool x26_21 ∧ Aside0 (newelref05_one.j0 kq x26_21 a0_0 a0_1 a1_0 a1_1 = some r) ∧ Aside0 (kq ≤ k) ∧ Aside0 (wc.heap[gb415]? = some (.cells #[.int .i64 a0_0, .string a0_1] 38 (0, 0))) ∧ Aside0 (wc.heap[gb416]? = some (.cells #[.int .i64 a1_0, .string a1_1] 38 (0, 0))) ∧ Aside0 (Below w.heap.size w wc))
 case first =>
  have H := HC22.out
  clear HC22
  by_cases c28 : a0_0 = 9
  rotate_left
  ·rw [if_neg c28] at H
   obtain ⟨c28b0, c28b1⟩ := eqF c28
   (first | rw [c28b0] | (simp only [i64_w, i32_w]; rw [c28b0]) | skip)
   have H' := Aside0.mk H
   clear H
   have hnb31 := NB415_416.out
   have hnc31 := NB416_415.out
   obtain ⟨hcz32_0, hcz32_1, hfz32_0, hfz32_1⟩ := cells2 BK415
   go_wp2
   go_meet
   case rel => exact ⟨_, ((a0_0 == 10)), cA, H', ⟨by first | omega | exact Nat.le_refl _⟩, ⟨bK BK415⟩, ⟨bK BK416⟩, ⟨bG⟩⟩
  rw [if_pos c28] at H
  obtain ⟨c28b0, c28b1⟩ := eqT c28
  clear c28
  (first | rw [c28b0] | (simp only [i64_w, i32_w]; rw [c28b0]) | skip)
  have H' := Aside0.mk H
  clear H
  have hnb29 := NB415_416.out
  have hnc29 := NB416_415.out
  obtain ⟨hcz30_0, hcz30_1, hfz30_0, hfz30_1⟩ := cells2 BK415
  go_wp2
  go_meet
  case rel => exact ⟨_, (true), cA, H', ⟨by first | omega | exact Nat.le_refl _⟩, ⟨bK BK415⟩, ⟨bK BK416⟩, ⟨bG⟩⟩
 clear HC22
 try clear c1
 try clear c2
 try clear p2
 try clear c3
 try clear c3b0
 try clear c6
 try clear c9
 try clear c9b0
 try clear c12
 try clear c14
 try clear c15
 try clear c15b0
 try clear c15b1
 try clear c19
 try clear c25
 try clear c28
 try clear c28b0
 try clear c28b1
 try clear c29
 try clear c31
 try clear hcz13_0
 try clear hcz13_1
 try clear hcz14_0
 try clear hcz14_1
 try clear hcz20_0
 try clear hcz20_1
 try clear hcz21_0
 try clear hcz21_1
 try clear hcz26_0
 try clear hcz26_1
 try clear hcz27_0
 try clear hcz27_1
 try clear hcz30_0
 try clear hcz30_1
 try clear hcz32_0
 try clear hcz32_1
 try clear hcz7_0
 try clear hcz7_1
 try clear hcz8_0
 try clear hcz8_1
 try clear hfz13_0
 try clear hfz13_1
 try clear hfz14_0
 try clear hfz14_1
 try clear hfz20_0
 try clear hfz20_1
 try clear hfz21_0
 try clear hfz21_1
 try clear hfz26_0
 try clear hfz26_1
 try clear hfz27_0
 try clear hfz27_1
 try clear hfz30_0
 try clear hfz30_1
 try clear hfz32_0
 try clear hfz32_1
 try clear hfz7_0
 try clear hfz7_1
 try clear hfz8_0
 try clear hfz8_1
 obtain ⟨kq, x26_21, rfl, HA, HJ21, BK415, BK416, HB⟩ := hcut
 cases kq with
 | zero => exact absurd HA.out (by simp [newelref05_one.j0])
 | succ kj21 =>
  have H := HA.out
  clear HA
  simp only [newelref05_one.j0] at H
  by_cases c33 : x26_21 = true
  rotate_left
  ·replace c33 := Bool.eq_false_iff.mpr c33
   subst c33
   have H1 : (some 0) = some r := by rw [if_neg (show ¬ (false = true) by decide)] at H; exact H
   clear H
   have H := H1
   clear H1
   obtain rfl := Option.some.inj H
   go_wp2
   go_ret
   exact ⟨eA, bG⟩
  subst c33
  have H1 : (if (a0_1.size : Int) = (a1_1.size : Int) then ((newelref05_text.f a0_1 a1_1).bind fun t418 => (some t418)) else (if (a0_1.size : Int) < (a1_1.size : Int) then (some (-1)) else (some 1))) = some r := by rw [if_pos rfl] at H; exact H
  clear H
  have H := H1
  clear H1
  by_cases c34 : (a0_1.size : Int) = (a1_1.size : Int)
  ·rw [if_pos c34] at H
   obtain ⟨c34b0, c34b1⟩ := eqT c34
   have c34b2 : (a0_1.size == a1_1.size) = true := by first | simpa using c34 | (simp at c34 ⊢; omega)
   clear c34
   replace H := bi H
   obtain ⟨t418, A350, H⟩ := H
   try dsimp only at H
   have A35 := Aside0.mk A350
   clear A350
   obtain rfl := Option.some.inj H
   have hnb36 := NB415_416.out
   have hnc36 := NB416_415.out
   obtain ⟨hcz37_0, hcz37_1, hfz37_0, hfz37_1⟩ := cells2 BK415
   obtain ⟨hcz38_0, hcz38_1, hfz38_0, hfz38_1⟩ := cells2 BK416
   go_wp2_with (first | (refine gl (some 53) Tryd.func143 #[.string a0_1, .string a1_1] ?_; (with_reducible refine (newelref05_text.calls a0_1 a1_1 t418 _ (gS HG) A35.out).mono ?_); rintro e w' ⟨rfl, ⟨nd, rfl⟩⟩; refine ⟨_, rfl, ?_⟩))
   go_ret
   exact ⟨eA, bG⟩
  rw [if_neg c34] at H
  obtain ⟨c34b0, c34b1⟩ := eqF c34
  have c34b2 : (a0_1.size == a1_1.size) = false := by first | simpa using c34 | (simp at c34 ⊢; omega)
  by_cases c39 : (a0_1.size : Int) < (a1_1.size : Int)
  rotate_left
  ·rw [if_neg c39] at H
   have c39b0 := dF c39
   have c39b1 : decide (a0_1.size < a1_1.size) = false := decide_eq_false (fun h => c39 (Int.ofNat_lt.mpr h))
   clear c39
   obtain rfl := Option.some.inj H
   have hnb43 := NB415_416.out
   have hnc43 := NB416_415.out
   obtain ⟨hcz44_0, hcz44_1, hfz44_0, hfz44_1⟩ := cells2 BK415
   obtain ⟨hcz45_0, hcz45_1, hfz45_0, hfz45_1⟩ := cells2 BK416
   go_wp2
   go_ret
   exact ⟨eA, bG⟩
  rw [if_pos c39] at H
  have c39b0 := dT c39
  have c39b1 : decide (a0_1.size < a1_1.size) = true := decide_eq_true (Int.ofNat_lt.mp c39)
  clear c39
  obtain rfl := Option.some.inj H
  have hnb40 := NB415_416.out
  have hnc40 := NB416_415.out
  obtain ⟨hcz41_0, hcz41_1, hfz41_0, hfz41_1⟩ := cells2 BK415
  obtain ⟨hcz42_0, hcz42_1, hfz42_0, hfz42_1⟩ := cells2 BK416
  go_wp2
  go_ret
  exact ⟨eA, bG⟩
mutual
def newelref05_Words.l0 : Nat → List (S38) → List (S38) → Int → Option (Int)
 | 0, _, _, _ => none
 | k + 1, x0, x1, x5 => if x5 < (x0.length : Int) then (newelref05_Words.j1 k x0 x1 x5 true) else (newelref05_Words.j1 k x0 x1 x5 (decide (x5 < (x1.length : Int))))
def newelref05_Words.j1 : Nat → List (S38) → List (S38) → Int → Bool → Option (Int)
 | 0, _, _, _, _ => none
 | k + 1, x0, x1, x5, x18 => if x18 = true then (if x5 < (x0.length : Int) then (if 0 ≤ x5 then (newelref05_Words.j2 k x0 x1 x5 ((rd_T38 x0 x5).f0) ((rd_T38 x0 x5).f1) 6 (⟨#[]⟩ : ByteArray)) else (none)) else (newelref05_Words.j2 k x0 x1 x5 6 (⟨#[]⟩ : ByteArray) 6 (⟨#[]⟩ : ByteArray))) else (some 0)
def newelref05_Words.j2 : Nat → List (S38) → List (S38) → Int → Int → ByteArray → Int → ByteArray → Option (Int)
 | 0, _, _, _, _, _, _, _ => none
 | k + 1, x0, x1, x5, x420000, x420001, x421000, x421001 => if x5 < (x1.length : Int) then (if 0 ≤ x5 then ((newelref05_one.f k x420000 x420001 ((rd_T38 x1 x5).f0) ((rd_T38 x1 x5).f1)).bind fun t423 => (if t423 = 0 then (newelref05_Words.l0 k x0 x1 (wrap64 (x5 + 1))) else (some t423))) else (none)) else ((newelref05_one.f k x420000 x420001 x421000 x421001).bind fun t424 => (if t424 = 0 then (newelref05_Words.l0 k x0 x1 (wrap64 (x5 + 1))) else (some t424)))
end
def newelref05_Words.f (k : Nat) (l0 : List (S38)) (l1 : List (S38)) : Option (Int) := newelref05_Words.l0 k l0 l1 0
theorem newelref05_Words.mono_l : ∀ k, (∀ y0 y1 y2, LeO (newelref05_Words.l0 k y0 y1 y2) (newelref05_Words.l0 (k + 1) y0 y1 y2)) ∧ (∀ y0 y1 y2 y3, LeO (newelref05_Words.j1 k y0 y1 y2 y3) (newelref05_Words.j1 (k + 1) y0 y1 y2 y3)) ∧ (∀ y0 y1 y2 y3 y4 y5 y6, LeO (newelref05_Words.j2 k y0 y1 y2 y3 y4 y5 y6) (newelref05_Words.j2 (k + 1) y0 y1 y2 y3 y4 y5 y6))
 | 0 => ⟨fun _ _ _ r h => by simp [newelref05_Words.l0] at h, fun _ _ _ _ r h => by simp [newelref05_Words.j1] at h, fun _ _ _ _ _ _ _ r h => by simp [newelref05_Words.j2] at h⟩
 | k + 1 => by
  obtain ⟨ih0, ih1, ih2⟩ := newelref05_Words.mono_l k
  refine ⟨?_, ?_, ?_⟩
  ·intro y0 y1 y2
   unfold newelref05_Words.l0
   have m0 := @newelref05_one.mono
   exact mo
  ·intro y0 y1 y2 y3
   unfold newelref05_Words.j1
   have m0 := @newelref05_one.mono
   exact mo
  ·intro y0 y1 y2 y3 y4 y5 y6
   unfold newelref05_Words.j2
   have m0 := @newelref05_one.mono
   exact mo
theorem newelref05_Words.mono : ∀ a0 a1 k, LeO (newelref05_Words.f k a0 a1) (newelref05_Words.f (k + 1) a0 a1) := by
 intro a0 a1 k
 obtain ⟨ih0, ih1, ih2⟩ := newelref05_Words.mono_l k
 unfold newelref05_Words.f
 have m0 := @newelref05_one.mono
 exact mo
theorem newelref05_Words.calls (k : Nat) (A0 : Option Addr) (c0 : Nat) (l0 : List (S38)) (A1 : Option Addr) (c1 : Nat) (l1 : List (S38)) (r : Int) (w : World) (hr0 : Kd.C k38 w A0 l0.length l0) (hc0 : l0.length ≤ c0) (hr1 : Kd.C k38 w A1 l1.length l1) (hc1 : l1.length ≤ c1) (hG : Glob w) (h : newelref05_Words.f k l0 l1 = some r) :
 Calls Tryd.prog 91 #[.slice A0 l0.length c0, .slice A1 l1.length c1] w fun e w' => e = .returned (.int .i64 r) ∧ Below w.heap.size w w' := by
 have hu38 := Tryd.underlying38
 have HG := Aside0.mk hG
 clear hG
 have HR0 := Aside0.mk hr0
 have HC0 := Aside0.mk hc0
 clear hr0 hc0
 have HR1 := Aside0.mk hr1
 have HC1 := Aside0.mk hc1
 clear hr1 hc1
 have HB := Aside0.mk (Below.refl w.heap.size w)
 have H : (newelref05_Words.l0 k l0 l1 0) = some r := h
 clear h
 have H' := Aside0.mk H
 clear H
 go_enter Tryd.func91, Tryd.ntmps91
 go_wp2
 go_loopg [5] k (fun kq v5 w' => ∃ (x5_1 : Int), v5 = .int .i64 x5_1 ∧ Aside0 (newelref05_Words.l0 kq l0 l1 x5_1 = some r) ∧ Aside0 (kq ≤ k) ∧ Aside0 (Below w.heap.size w w'))
 case atStart => exact ⟨(0), cA, H', ⟨Nat.le_refl _⟩, ⟨bE⟩⟩
 clear H'
 try clear c1
 try clear p2
 obtain ⟨x5_1, rfl, HA, HK1, HB⟩ := hrel
 cases gk with
 | zero => exact absurd HA.out (by simp [newelref05_Words.l0])
 | succ k1 =>
  have H := HA.out
  clear HA
  simp only [newelref05_Words.l0] at H
  have HC3 := Aside0.mk H
  clear H
  go_upto_region 2 with (fail)
  go_cut [18] (fun v18 wc => ∃ (kq : Nat) (x18_2 : Bool), v18 = .bool x18_2 ∧ Aside0 (newelref05_Words.j1 kq l0 l1 x5_1 x18_2 = some r) ∧ Aside0 (kq ≤ k1) ∧ Aside0 (Below w.heap.size w wc))
  case first =>
   have H := HC3.out
   clear HC3
   by_cases c4 : x5_1 < (l0.length : Int)
   rotate_left
   ·rw [if_neg c4] at H
    have c4b0 := dF c4
    clear c4
    (first | rw [c4b0] | (simp only [i64_w, i32_w]; rw [c4b0]) | skip)
    have H' := Aside0.mk H
    clear H
    go_wp2
    go_meet
    case rel => exact ⟨_, (decide (x5_1 < (l1.length : Int))), cA, H', ⟨by have := HK1.out; first | omega | exact Nat.le_refl _⟩, ⟨bE⟩⟩
   rw [if_pos c4] at H
   have c4b0 := dT c4
   clear c4
   (first | rw [c4b0] | (simp only [i64_w, i32_w]; rw [c4b0]) | skip)
   have H' := Aside0.mk H
   clear H
   go_wp2
   go_meet
   case rel => exact ⟨_, (true), cA, H', ⟨by have := HK1.out; first | omega | exact Nat.le_refl _⟩, ⟨bE⟩⟩
  clear HC3
  try clear c1
  try clear p2
  try clear c4
  try clear c4b0
  try clear p2
  obtain ⟨kq, x18_2, rfl, HA, HJ2, HB⟩ := hcut
  cases kq with
  | zero => exact absurd HA.out (by simp [newelref05_Words.j1])
  | succ kj2 =>
   have H := HA.out
   clear HA
   simp only [newelref05_Words.j1] at H
   by_cases c5 : x18_2 = true
   rotate_left
   ·replace c5 := Bool.eq_false_iff.mpr c5
    subst c5
    have H1 : (some 0) = some r := by rw [if_neg (show ¬ (false = true) by decide)] at H; exact H
    clear H
    have H := H1
    clear H1
    obtain rfl := Option.some.inj H
    go_wp2
    go_ret
    exact ⟨eA, bE⟩
   subst c5
   have H1 : (if x5_1 < (l0.length : Int) then (if 0 ≤ x5_1 then (newelref05_Words.j2 kj2 l0 l1 x5_1 ((rd_T38 l0 x5_1).f0) ((rd_T38 l0 x5_1).f1) 6 (⟨#[]⟩ : ByteArray)) else (none)) else (newelref05_Words.j2 kj2 l0 l1 x5_1 6 (⟨#[]⟩ : ByteArray) 6 (⟨#[]⟩ : ByteArray))) = some r := by rw [if_pos rfl] at H; exact H
   clear H
   have H := H1
   clear H1
   have HC6 := Aside0.mk H
   clear H
   go_upto_if 26 with (first | ((with_reducible refine gate_dst (N := 6) rfl ?_); (try (refine gate_guard (by rfl) ?_; dsimp only)); refine be 6 #[.int .i64 0, .string (⟨#[]⟩ : ByteArray)] 38 ?_; intro gb419 hg w7 hbox hb; have BK419 := Aside0.mk (hbox); have GW419 := gW hg; have GE419 := gW hg; replace HB := sB hb; clear hb hbox hg) | ((with_reducible refine gate_dst (N := 7) rfl ?_); (try (refine gate_guard (by rfl) ?_; dsimp only)); refine be 7 #[.int .i64 0, .string (⟨#[]⟩ : ByteArray)] 38 ?_; intro gb420 hg w8 hbox hb; have BK420 := Aside0.mk (hbox); have GW420 := gW hg; have GE420 := gW hg; replace HB := sB hb; have NB419_420 := nL BK419 hg; have NB420_419 := nG BK419 hg; replace BK419 := kB BK419 hb; clear hb hbox hg; have hnb9 := NB419_420.out; have hnc9 := NB420_419.out; have hcz10_0 : w8.cell? ⟨gb419, 0, none⟩ = some (.int .i64 0) := (blk_cell BK419.out 0).trans rfl; have hcz10_1 : w8.cell? ⟨gb419, 1, none⟩ = some (.string (⟨#[]⟩ : ByteArray)) := (blk_cell BK419.out 1).trans rfl; have hfz10_0 := blk_frozen BK419.out 0; have hfz10_1 := blk_frozen BK419.out 1; have hcz11_0 : w8.cell? ⟨gb420, 0, none⟩ = some (.int .i64 0) := (blk_cell BK420.out 0).trans rfl; have hcz11_1 : w8.cell? ⟨gb420, 1, none⟩ = some (.string (⟨#[]⟩ : ByteArray)) := (blk_cell BK420.out 1).trans rfl; have hfz11_0 := blk_frozen BK420.out 0; have hfz11_1 := blk_frozen BK420.out 1))
   (try simp only [Act.put, List.setIfInBounds_toArray, List.set_cons_zero, List.set_cons_succ])
   go_cut [] (fun wc => ∃ (kq : Nat) (x420000_5 : Int) (x420001_5 : ByteArray), Aside0 (newelref05_Words.j2 kq l0 l1 x5_1 x420000_5 x420001_5 6 (⟨#[]⟩ : ByteArray) = some r) ∧ Aside0 (kq ≤ kj2) ∧ Aside0 (wc.heap[gb419]? = some (.cells #[.int .i64 x420000_5, .string x420001_5] 38 (0, 0))) ∧ Aside0 (wc.heap[gb420]? = some (.cells #[.int .i64 6, .string (⟨#[]⟩ : ByteArray)] 38 (0, 0))) ∧ Aside0 (Below w.heap.size w wc))
   case first =>
    have H := HC6.out
    clear HC6
    by_cases c12 : x5_1 < (l0.length : Int)
    rotate_left
    ·rw [if_neg c12] at H
     have c12b0 := dF c12
     clear c12
     (first | rw [c12b0] | (simp only [i64_w, i32_w]; rw [c12b0]) | skip)
     have H' := Aside0.mk H
     clear H
     go_wp2
     go_meet
     case rel => exact ⟨_, (6), ((⟨#[]⟩ : ByteArray)), H', ⟨by have := HK1.out; have := HJ2.out; first | omega | exact Nat.le_refl _⟩, ⟨by (with_reducible repeat (first | refine blk_drewN ?_ _ | refine blk_drew ?_ | refine blk_alloc ?_ _)); refine blk_far ?_ NB419_420.out _; (with_reducible repeat (first | refine blk_drewN ?_ _ | refine blk_drew ?_ | refine blk_alloc ?_ _)); refine blk_far ?_ NB419_420.out _; (with_reducible repeat (first | refine blk_drewN ?_ _ | refine blk_drew ?_ | refine blk_alloc ?_ _)); refine blk_put (cs := #[.int .i64 6, .string (⟨#[]⟩ : ByteArray)]) ?_ 1 _ rfl; (with_reducible repeat (first | refine blk_drewN ?_ _ | refine blk_drew ?_ | refine blk_alloc ?_ _)); refine blk_put (cs := #[.int .i64 0, .string (⟨#[]⟩ : ByteArray)]) ?_ 0 _ rfl; (with_reducible repeat (first | refine blk_drewN ?_ _ | refine blk_drew ?_ | refine blk_alloc ?_ _)); exact BK419.out⟩, ⟨by (with_reducible repeat (first | refine blk_drewN ?_ _ | refine blk_drew ?_ | refine blk_alloc ?_ _)); refine blk_put (cs := #[.int .i64 6, .string (⟨#[]⟩ : ByteArray)]) ?_ 1 _ rfl; (with_reducible repeat (first | refine blk_drewN ?_ _ | refine blk_drew ?_ | refine blk_alloc ?_ _)); refine blk_put (cs := #[.int .i64 0, .string (⟨#[]⟩ : ByteArray)]) ?_ 0 _ rfl; (with_reducible repeat (first | refine blk_drewN ?_ _ | refine blk_drew ?_ | refine blk_alloc ?_ _)); refine blk_far ?_ NB420_419.out _; (with_reducible repeat (first | refine blk_drewN ?_ _ | refine blk_drew ?_ | refine blk_alloc ?_ _)); refine blk_far ?_ NB420_419.out _; (with_reducible repeat (first | refine blk_drewN ?_ _ | refine blk_drew ?_ | refine blk_alloc ?_ _)); exact BK420.out⟩, ⟨bG⟩⟩
    rw [if_pos c12] at H
    have c12b0 := dT c12
    clear c12
    (first | rw [c12b0] | (simp only [i64_w, i32_w]; rw [c12b0]) | skip)
    by_cases c13 : 0 ≤ x5_1
    rotate_left
    ·rw [if_neg c13] at H
     exact absurd H (by simp)
    rw [if_pos c13] at H
    have c13b0 := dT c13
    clear c13
    have H' := Aside0.mk H
    clear H
    have p421 : 0 ≤ (x5_1 : Int) := dA
    have q421 : x5_1 < (l0.length : Int) := dA
    obtain ⟨ad421, e421, hx421_0, hx421_1⟩ := at_T38 HR0.out x5_1 p421 q421
    cases e421
    have hn421_0 : ad421.block ≠ gb419 := Nat.ne_of_lt (Nat.lt_of_lt_of_le (by have := World.block_lt_of_cell? _ _ hx421_0; first | rwa [add_block] at this | exact this) GW419.out)
    have hn421_1 : ad421.block ≠ gb419 := Nat.ne_of_lt (Nat.lt_of_lt_of_le (by have := World.block_lt_of_cell? _ _ hx421_0; first | rwa [add_block] at this | exact this) GW419.out)
    have hn421_2 : ad421.block ≠ gb420 := Nat.ne_of_lt (Nat.lt_of_lt_of_le (by have := World.block_lt_of_cell? _ _ hx421_0; first | rwa [add_block] at this | exact this) GW420.out)
    have hn421_3 : ad421.block ≠ gb420 := Nat.ne_of_lt (Nat.lt_of_lt_of_le (by have := World.block_lt_of_cell? _ _ hx421_0; first | rwa [add_block] at this | exact this) GW420.out)
    replace hx421_0 := (HB.out.cell (World.block_lt_of_cell? w _ hx421_0)).trans hx421_0
    replace hx421_1 := (HB.out.cell (World.block_lt_of_cell? w _ hx421_1)).trans hx421_1
    replace hx421_0 := (cell_far (p := ⟨gb419, 0, none⟩) (by first | (rw [add_block]; exact hn421_0) | (show (Addr.add _ _).block ≠ _; rw [add_block]; exact hn421_0) | exact hn421_0) (.int .i64 6)).trans hx421_0
    replace hx421_1 := (cell_far (p := ⟨gb419, 0, none⟩) (by first | (rw [add_block]; exact hn421_0) | (show (Addr.add _ _).block ≠ _; rw [add_block]; exact hn421_0) | exact hn421_0) (.int .i64 6)).trans hx421_1
    replace hx421_0 := (cell_far (p := ⟨gb419, 1, none⟩) (by first | (rw [add_block]; exact hn421_1) | (show (Addr.add _ _).block ≠ _; rw [add_block]; exact hn421_1) | exact hn421_1) (.string (⟨#[]⟩ : ByteArray))).trans hx421_0
    replace hx421_1 := (cell_far (p := ⟨gb419, 1, none⟩) (by first | (rw [add_block]; exact hn421_1) | (show (Addr.add _ _).block ≠ _; rw [add_block]; exact hn421_1) | exact hn421_1) (.string (⟨#[]⟩ : ByteArray))).trans hx421_1
    replace hx421_0 := (cell_far (p := ⟨gb420, 0, none⟩) (by first | (rw [add_block]; exact hn421_2) | (show (Addr.add _ _).block ≠ _; rw [add_block]; exact hn421_2) | exact hn421_2) (.int .i64 6)).trans hx421_0
    replace hx421_1 := (cell_far (p := ⟨gb420, 0, none⟩) (by first | (rw [add_block]; exact hn421_2) | (show (Addr.add _ _).block ≠ _; rw [add_block]; exact hn421_2) | exact hn421_2) (.int .i64 6)).trans hx421_1
    replace hx421_0 := (cell_far (p := ⟨gb420, 1, none⟩) (by first | (rw [add_block]; exact hn421_3) | (show (Addr.add _ _).block ≠ _; rw [add_block]; exact hn421_3) | exact hn421_3) (.string (⟨#[]⟩ : ByteArray))).trans hx421_0
    replace hx421_1 := (cell_far (p := ⟨gb420, 1, none⟩) (by first | (rw [add_block]; exact hn421_3) | (show (Addr.add _ _).block ≠ _; rw [add_block]; exact hn421_3) | exact hn421_3) (.string (⟨#[]⟩ : ByteArray))).trans hx421_1
    clear hn421_0
    clear hn421_1
    clear hn421_2
    clear hn421_3
    replace p421 := eq_true p421
    replace q421 := eq_true q421
    have hnb14 := NB419_420.out
    have hnc14 := NB420_419.out
    obtain ⟨hcz15_0, hcz15_1, hfz15_0, hfz15_1⟩ := cells2 BK419
    go_wp2
    go_meet
    case rel => exact ⟨_, ((rd_T38 l0 x5_1).f0), ((rd_T38 l0 x5_1).f1), H', ⟨by have := HK1.out; have := HJ2.out; first | omega | exact Nat.le_refl _⟩, ⟨by (with_reducible repeat (first | refine blk_drewN ?_ _ | refine blk_drew ?_ | refine blk_alloc ?_ _)); refine blk_put (cs := #[.int .i64 ((rd_T38 l0 x5_1).f0), .string (⟨#[]⟩ : ByteArray)]) ?_ 1 _ rfl; (with_reducible repeat (first | refine blk_drewN ?_ _ | refine blk_drew ?_ | refine blk_alloc ?_ _)); refine blk_put (cs := #[.int .i64 6, .string (⟨#[]⟩ : ByteArray)]) ?_ 0 _ rfl; (with_reducible repeat (first | refine blk_drewN ?_ _ | refine blk_drew ?_ | refine blk_alloc ?_ _)); refine blk_far ?_ NB419_420.out _; (with_reducible repeat (first | refine blk_drewN ?_ _ | refine blk_drew ?_ | refine blk_alloc ?_ _)); refine blk_far ?_ NB419_420.out _; (with_reducible repeat (first | refine blk_drewN ?_ _ | refine blk_drew ?_ | refine blk_alloc ?_ _)); refine blk_put (cs := #[.int .i64 6, .string (⟨#[]⟩ : ByteArray)]) ?_ 1 _ rfl; (with_reducible repeat (first | refine blk_drewN ?_ _ | refine blk_drew ?_ | refine blk_alloc ?_ _)); refine blk_put (cs := #[.int .i64 0, .string (⟨#[]⟩ : ByteArray)]) ?_ 0 _ rfl; (with_reducible repeat (first | refine blk_drewN ?_ _ | refine blk_drew ?_ | refine blk_alloc ?_ _)); exact BK419.out⟩, ⟨by (with_reducible repeat (first | refine blk_drewN ?_ _ | refine blk_drew ?_ | refine blk_alloc ?_ _)); refine blk_far ?_ NB420_419.out _; (with_reducible repeat (first | refine blk_drewN ?_ _ | refine blk_drew ?_ | refine blk_alloc ?_ _)); refine blk_far ?_ NB420_419.out _; (with_reducible repeat (first | refine blk_drewN ?_ _ | refine blk_drew ?_ | refine blk_alloc ?_ _)); refine blk_put (cs := #[.int .i64 6, .string (⟨#[]⟩ : ByteArray)]) ?_ 1 _ rfl; (with_reducible repeat (first | refine blk_drewN ?_ _ | refine blk_drew ?_ | refine blk_alloc ?_ _)); refine blk_put (cs := #[.int .i64 0, .string (⟨#[]⟩ : ByteArray)]) ?_ 0 _ rfl; (with_reducible repeat (first | refine blk_drewN ?_ _ | refine blk_drew ?_ | refine blk_alloc ?_ _)); refine blk_far ?_ NB420_419.out _; (with_reducible repeat (first | refine blk_drewN ?_ _ | refine blk_drew ?_ | refine blk_alloc ?_ _)); refine blk_far ?_ NB420_419.out _; (with_reducible repeat (first | refine blk_drewN ?_ _ | refine blk_drew ?_ | refine blk_alloc ?_ _)); exact BK420.out⟩, ⟨bG⟩⟩
   clear HC6
   try clear c1
   try clear p2
   try clear c4
   try clear c4b0
   try clear p4
   try clear q4
   try clear hx4
   try clear c5
   try clear c9
   try clear c12
   try clear c12b0
   try clear c13
   try clear c13b0
   try clear c14
   try clear hcz10_0
   try clear hcz10_1
   try clear hcz11_0
   try clear hcz11_1
   try clear hcz15_0
   try clear hcz15_1
   try clear hfz10_0
   try clear hfz10_1
   try clear hfz11_0
   try clear hfz11_1
   try clear hfz15_0
   try clear hfz15_1
   try clear hx421_0
   try clear hx421_1
   try clear p2
   try clear p421
   try clear q421
   obtain ⟨kq, x420000_5, x420001_5, HA, HJ5, BK419, BK420, HB⟩ := hcut
   cases kq with
   | zero => exact absurd HA.out (by simp [newelref05_Words.j2])
   | succ kj5 =>
    have H := HA.out
    clear HA
    simp only [newelref05_Words.j2] at H
    (try simp only [toList_lit] at H)
    by_cases c16 : x5_1 < (l1.length : Int)
    rotate_left
    ·rw [if_neg c16] at H
     have c16b0 := dF c16
     clear c16
     replace H := bi H
     obtain ⟨t424, A280, H⟩ := H
     try dsimp only at H
     have A28 := Aside0.mk A280
     clear A280
     by_cases c29 : t424 = 0
     rotate_left
     ·rw [if_neg c29] at H
      obtain ⟨c29b0, c29b1⟩ := eqF c29
      obtain rfl := Option.some.inj H
      have hnb34 := NB419_420.out
      have hnc34 := NB420_419.out
      obtain ⟨hcz35_0, hcz35_1, hfz35_0, hfz35_1⟩ := cells2 BK419
      obtain ⟨hcz36_0, hcz36_1, hfz36_0, hfz36_1⟩ := cells2 BK420
      go_wp2_with (first | (refine gl (some 41) Tryd.func122 #[.agg #[.int .i64 x420000_5, .string x420001_5], .agg #[.int .i64 6, .string (⟨#[]⟩ : ByteArray)]] ?_; (with_reducible refine (newelref05_one.calls kj5 x420000_5 x420001_5 6 (⟨#[]⟩ : ByteArray) t424 _ (gS HG) A28.out).mono ?_); rintro e w37 ⟨rfl, hb⟩; refine ⟨_, rfl, ?_⟩; replace BK419 := kB BK419 hb; replace BK420 := kB BK420 hb; replace HB := sB hb; (try clear hb)))
      go_ret
      exact ⟨eA, bG⟩
     rw [if_pos c29] at H
     obtain ⟨c29b0, c29b1⟩ := eqT c29
     clear c29
     have H' := Aside0.mk H
     clear H
     have hnb30 := NB419_420.out
     have hnc30 := NB420_419.out
     obtain ⟨hcz31_0, hcz31_1, hfz31_0, hfz31_1⟩ := cells2 BK419
     obtain ⟨hcz32_0, hcz32_1, hfz32_0, hfz32_1⟩ := cells2 BK420
     go_wp2_with (first | (refine gl (some 41) Tryd.func122 #[.agg #[.int .i64 x420000_5, .string x420001_5], .agg #[.int .i64 6, .string (⟨#[]⟩ : ByteArray)]] ?_; (with_reducible refine (newelref05_one.calls kj5 x420000_5 x420001_5 6 (⟨#[]⟩ : ByteArray) t424 _ (gS HG) A28.out).mono ?_); rintro e w33 ⟨rfl, hb⟩; refine ⟨_, rfl, ?_⟩; replace BK419 := kB BK419 hb; replace BK420 := kB BK420 hb; replace HB := sB hb; (try clear hb)))
     go_roundg kj5
     case measure => have := HK1.out; have := HJ2.out; have := HJ5.out; omega
     case rel => exact ⟨(wrap64 (x5_1 + 1)), cA, H', ⟨by have := HK1.out; have := HJ2.out; have := HJ5.out; omega⟩, ⟨bG⟩⟩
    rw [if_pos c16] at H
    have c16b0 := dT c16
    clear c16
    by_cases c17 : 0 ≤ x5_1
    rotate_left
    ·rw [if_neg c17] at H
     exact absurd H (by simp)
    rw [if_pos c17] at H
    have c17b0 := dT c17
    clear c17
    replace H := bi H
    obtain ⟨t423, A180, H⟩ := H
    try dsimp only at H
    have A18 := Aside0.mk A180
    clear A180
    by_cases c19 : t423 = 0
    rotate_left
    ·rw [if_neg c19] at H
     obtain ⟨c19b0, c19b1⟩ := eqF c19
     obtain rfl := Option.some.inj H
     have p422 : 0 ≤ (x5_1 : Int) := dA
     have q422 : x5_1 < (l1.length : Int) := dA
     obtain ⟨ad422, e422, hx422_0, hx422_1⟩ := at_T38 HR1.out x5_1 p422 q422
     cases e422
     replace hx422_0 := (HB.out.cell (World.block_lt_of_cell? w _ hx422_0)).trans hx422_0
     replace hx422_1 := (HB.out.cell (World.block_lt_of_cell? w _ hx422_1)).trans hx422_1
     replace p422 := eq_true p422
     replace q422 := eq_true q422
     have hnb24 := NB420_419.out
     have hnc24 := NB419_420.out
     obtain ⟨hcz25_0, hcz25_1, hfz25_0, hfz25_1⟩ := cells2 BK420
     obtain ⟨hcz26_0, hcz26_1, hfz26_0, hfz26_1⟩ := cells2 BK419
     go_wp2_with (first | (refine gl (some 41) Tryd.func122 #[.agg #[.int .i64 x420000_5, .string x420001_5], .agg #[.int .i64 ((rd_T38 l1 x5_1).f0), .string ((rd_T38 l1 x5_1).f1)]] ?_; (with_reducible refine (newelref05_one.calls kj5 x420000_5 x420001_5 ((rd_T38 l1 x5_1).f0) ((rd_T38 l1 x5_1).f1) t423 _ (gS HG) A18.out).mono ?_); rintro e w27 ⟨rfl, hb⟩; refine ⟨_, rfl, ?_⟩; replace BK419 := Aside0.mk (blk_below (g := gb419) (o := .cells #[.int .i64 x420000_5, .string x420001_5] 38 (0, 0)) (by (with_reducible repeat (first | refine blk_drewN ?_ _ | refine blk_drew ?_ | refine blk_alloc ?_ _)); refine blk_far ?_ NB419_420.out _; (with_reducible repeat (first | refine blk_drewN ?_ _ | refine blk_drew ?_ | refine blk_alloc ?_ _)); refine blk_far ?_ NB419_420.out _; (with_reducible repeat (first | refine blk_drewN ?_ _ | refine blk_drew ?_ | refine blk_alloc ?_ _)); exact BK419.out) hb); replace BK420 := Aside0.mk (blk_below (g := gb420) (o := .cells #[.int .i64 ((rd_T38 l1 x5_1).f0), .string ((rd_T38 l1 x5_1).f1)] 38 (0, 0)) (bP BK420) hb); replace HB := sB hb; (try clear hb)))
     go_ret
     exact ⟨eA, bG⟩
    rw [if_pos c19] at H
    obtain ⟨c19b0, c19b1⟩ := eqT c19
    clear c19
    have H' := Aside0.mk H
    clear H
    have p422 : 0 ≤ (x5_1 : Int) := dA
    have q422 : x5_1 < (l1.length : Int) := dA
    obtain ⟨ad422, e422, hx422_0, hx422_1⟩ := at_T38 HR1.out x5_1 p422 q422
    cases e422
    replace hx422_0 := (HB.out.cell (World.block_lt_of_cell? w _ hx422_0)).trans hx422_0
    replace hx422_1 := (HB.out.cell (World.block_lt_of_cell? w _ hx422_1)).trans hx422_1
    replace p422 := eq_true p422
    replace q422 := eq_true q422
    have hnb20 := NB420_419.out
    have hnc20 := NB419_420.out
    obtain ⟨hcz21_0, hcz21_1, hfz21_0, hfz21_1⟩ := cells2 BK420
    obtain ⟨hcz22_0, hcz22_1, hfz22_0, hfz22_1⟩ := cells2 BK419
    go_wp2_with (first | (refine gl (some 41) Tryd.func122 #[.agg #[.int .i64 x420000_5, .string x420001_5], .agg #[.int .i64 ((rd_T38 l1 x5_1).f0), .string ((rd_T38 l1 x5_1).f1)]] ?_; (with_reducible refine (newelref05_one.calls kj5 x420000_5 x420001_5 ((rd_T38 l1 x5_1).f0) ((rd_T38 l1 x5_1).f1) t423 _ (gS HG) A18.out).mono ?_); rintro e w23 ⟨rfl, hb⟩; refine ⟨_, rfl, ?_⟩; replace BK419 := Aside0.mk (blk_below (g := gb419) (o := .cells #[.int .i64 x420000_5, .string x420001_5] 38 (0, 0)) (by (with_reducible repeat (first | refine blk_drewN ?_ _ | refine blk_drew ?_ | refine blk_alloc ?_ _)); refine blk_far ?_ NB419_420.out _; (with_reducible repeat (first | refine blk_drewN ?_ _ | refine blk_drew ?_ | refine blk_alloc ?_ _)); refine blk_far ?_ NB419_420.out _; (with_reducible repeat (first | refine blk_drewN ?_ _ | refine blk_drew ?_ | refine blk_alloc ?_ _)); exact BK419.out) hb); replace BK420 := Aside0.mk (blk_below (g := gb420) (o := .cells #[.int .i64 ((rd_T38 l1 x5_1).f0), .string ((rd_T38 l1 x5_1).f1)] 38 (0, 0)) (bP BK420) hb); replace HB := sB hb; (try clear hb)))
    go_roundg kj5
    case measure => have := HK1.out; have := HJ2.out; have := HJ5.out; omega
    case rel => exact ⟨(wrap64 (x5_1 + 1)), cA, H', ⟨by have := HK1.out; have := HJ2.out; have := HJ5.out; omega⟩, ⟨bG⟩⟩
def newelref05_Compare.f (k : Nat) (a0 : ByteArray) (a1 : ByteArray) : Option (Int) := (newelref05_Split.f k a0).bind fun t425 => ((newelref05_Split.f k a1).bind fun t428 => ((newelref05_Words.f k t425 t428).bind fun t431 => (some t431)))
theorem newelref05_Compare.mono : ∀ a0 a1 k, LeO (newelref05_Compare.f k a0 a1) (newelref05_Compare.f (k + 1) a0 a1) := by
 intro a0 a1 k
 unfold newelref05_Compare.f
 have m0 := @newelref05_Split.mono
 have m1 := @newelref05_Words.mono
 exact mo
theorem newelref05_Compare.calls (k : Nat) (a0 : ByteArray) (a1 : ByteArray) (r : Int) (w : World) (hG : Glob w) (h : newelref05_Compare.f k a0 a1 = some r) :
 Calls Tryd.prog 55 #[.string a0, .string a1] w fun e w' => e = .returned (.int .i64 r) ∧ Below w.heap.size w w' := by
 have HG := Aside0.mk hG
 clear hG
 have HB := Aside0.mk (Below.refl w.heap.size w)
 have H : ((newelref05_Split.f k a0).bind fun t425 => ((newelref05_Split.f k a1).bind fun t428 => ((newelref05_Words.f k t425 t428).bind fun t431 => (some t431)))) = some r := h
 clear h
 replace H := bi H
 obtain ⟨t425, A30, H⟩ := H
 try dsimp only at H
 have A3 := Aside0.mk A30
 clear A30
 replace H := bi H
 obtain ⟨t428, A40, H⟩ := H
 try dsimp only at H
 have A4 := Aside0.mk A40
 clear A40
 replace H := bi H
 obtain ⟨t431, A50, H⟩ := H
 try dsimp only at H
 have A5 := Aside0.mk A50
 clear A50
 obtain rfl := Option.some.inj H
 go_enter Tryd.func55, Tryd.ntmps55
 go_wp2_with (first | (refine gl (some 6) Tryd.func32 #[.string a0] ?_; (with_reducible refine (newelref05_Split.calls k a0 t425 _ (gS HG) A3.out).mono ?_); rintro e w6 ⟨v426, rfl, ho0, hb⟩; refine ⟨_, rfl, ?_⟩; have HO427 := Aside0.mk (Kd.R_lower ho0 (below_size bE)); replace HB := sB hb; (try clear hb); (try clear ho0)) | (refine gl (some 8) Tryd.func32 #[.string a1] ?_; (with_reducible refine (newelref05_Split.calls k a1 t428 _ (gS HG) A4.out).mono ?_); rintro e w7 ⟨v429, rfl, ho0, hb⟩; refine ⟨_, rfl, ?_⟩; have HO430 := Aside0.mk (Kd.R_lower (Kd.R_new' ho0 (Kd.R_lt (kR HO427))) (below_size bE)); replace HO427 := Aside0.mk (Kd.R_elder' (kR HO427) (Kd.R_base ho0) hb); replace HB := sB hb; (try clear hb); (try clear ho0); obtain ⟨Ao8, co8, eo8⟩ := Kd.R_slice HO427.out; subst eo8; obtain ⟨Ao9, co9, eo9⟩ := Kd.R_slice HO430.out; subst eo9) | (refine gl (some 9) Tryd.func91 #[.slice Ao8 t425.length co8, .slice Ao9 t428.length co9] ?_; (with_reducible refine (newelref05_Words.calls k _ _ t425 _ _ t428 t431 _ ?side1 ?side2 ?side3 ?side4 (gS HG) A5.out).mono ?_); (case side1 => repeat (first | exact (Kd.R_reads' HO427.out).2.2 | (with_reducible refine Kd.C_alloc ?_ _) | (with_reducible refine Kd.C_drewN ?_ _) | (with_reducible refine Kd.C_drew ?_))); (case side2 => exact (Kd.R_reads' HO427.out).2.1); (case side3 => repeat (first | exact (Kd.R_reads' HO430.out).2.2 | (with_reducible refine Kd.C_alloc ?_ _) | (with_reducible refine Kd.C_drewN ?_ _) | (with_reducible refine Kd.C_drew ?_))); (case side4 => exact (Kd.R_reads' HO430.out).2.1); rintro e w10 ⟨rfl, hb⟩; refine ⟨_, rfl, ?_⟩; replace HO427 := rB HO427 hb; replace HO430 := rB HO430 hb; replace HB := sB hb; (try clear hb)))
 go_ret
 exact ⟨eA, bE⟩
def newelref05_May.j0 : Nat → Bool → ByteArray → ByteArray → Bool → Bool → Option (Bool)
 | 0, _, _, _, _, _ => none
 | k + 1, x41, x433000, x433001, x433002, x433003 => if x41 = true then (some false) else (if x433000.toList = ([] : List UInt8) then (some true) else (if x433001.toList = ([] : List UInt8) then (some true) else ((newelref05_Compare.f k x433000 x433001).bind fun t436 => (if t436 < 0 then (some true) else (if t436 = 0 then (if x433002 = true then (some x433003) else (some false)) else (some false))))))
def newelref05_May.f (k : Nat) (a0_0 : ByteArray) (a0_1 : ByteArray) (a0_2 : Bool) (a0_3 : Bool) : Option (Bool) := if a0_0.toList = ([] : List UInt8) then (if a0_1.toList = ([] : List UInt8) then (if a0_2 = true then (newelref05_May.j0 k true a0_0 a0_1 a0_2 a0_3) else (newelref05_May.j0 k a0_3 a0_0 a0_1 a0_2 a0_3)) else ((newelref05_Right.f k a0_1).bind fun t433 => (if t433 = true then (if a0_2 = true then (newelref05_May.j0 k true a0_0 a0_1 a0_2 a0_3) else (newelref05_May.j0 k false a0_0 a0_1 a0_2 a0_3)) else (newelref05_May.j0 k true a0_0 a0_1 a0_2 a0_3)))) else ((newelref05_Right.f k a0_0).bind fun t434 => (if t434 = true then (if a0_1.toList = ([] : List UInt8) then (newelref05_May.j0 k a0_3 a0_0 a0_1 a0_2 a0_3) else ((newelref05_Right.f k a0_1).bind fun t435 => (if t435 = true then (newelref05_May.j0 k false a0_0 a0_1 a0_2 a0_3) else (newelref05_May.j0 k true a0_0 a0_1 a0_2 a0_3)))) else (newelref05_May.j0 k true a0_0 a0_1 a0_2 a0_3)))
theorem newelref05_May.mono_l : ∀ k, (∀ y0 y1 y2 y3 y4, LeO (newelref05_May.j0 k y0 y1 y2 y3 y4) (newelref05_May.j0 (k + 1) y0 y1 y2 y3 y4))
 | 0 => fun _ _ _ _ _ r h => by simp [newelref05_May.j0] at h
 | k + 1 => by
  have ih0 := newelref05_May.mono_l k
  ·intro y0 y1 y2 y3 y4
   unfold newelref05_May.j0
   have m0 := @newelref05_Compare.mono
   have m1 := @newelref05_Right.mono
   exact mo
theorem newelref05_May.mono : ∀ a0 a1 a2 a3 k, LeO (newelref05_May.f k a0 a1 a2 a3) (newelref05_May.f (k + 1) a0 a1 a2 a3) := by
 intro a0 a1 a2 a3 k
 have ih0 := newelref05_May.mono_l k
 unfold newelref05_May.f
 have m0 := @newelref05_Compare.mono
 have m1 := @newelref05_Right.mono
 exact mo
theorem newelref05_May.calls (k : Nat) (a0_0 : ByteArray) (a0_1 : ByteArray) (a0_2 : Bool) (a0_3 : Bool) (r : Bool) (w : World) (hG : Glob w) (h : newelref05_May.f k a0_0 a0_1 a0_2 a0_3 = some r) :
 Calls Tryd.prog 89 #[.agg #[.string a0_0, .string a0_1, .bool a0_2, .bool a0_3]] w fun e w' => e = .returned (.bool r) ∧ Below w.heap.size w w' := by
 have hu58 := Tryd.underlying58
 have HG := Aside0.mk hG
 clear hG
 have HB := Aside0.mk (Below.refl w.heap.size w)
 have H : (if a0_0.toList = ([] : List UInt8) then (if a0_1.toList = ([] : List UInt8) then (if a0_2 = true then (newelref05_May.j0 k true a0_0 a0_1 a0_2 a0_3) else (newelref05_May.j0 k a0_3 a0_0 a0_1 a0_2 a0_3)) else ((newelref05_Right.f k a0_1).bind fun t433 => (if t433 = true then (if a0_2 = true then (newelref05_May.j0 k true a0_0 a0_1 a0_2 a0_3) else (newelref05_May.j0 k false a0_0 a0_1 a0_2 a0_3)) else (newelref05_May.j0 k true a0_0 a0_1 a0_2 a0_3)))) else ((newelref05_Right.f k a0_0).bind fun t434 => (if t434 = true then (if a0_1.toList = ([] : List UInt8) then (newelref05_May.j0 k a0_3 a0_0 a0_1 a0_2 a0_3) else ((newelref05_Right.f k a0_1).bind fun t435 => (if t435 = true then (newelref05_May.j0 k false a0_0 a0_1 a0_2 a0_3) else (newelref05_May.j0 k true a0_0 a0_1 a0_2 a0_3)))) else (newelref05_May.j0 k true a0_0 a0_1 a0_2 a0_3)))) = some r := h
 clear h
 have HC2 := Aside0.mk H
 clear H
 go_enter Tryd.func89, Tryd.ntmps89
 go_upto_region 1 with (first | (refine be 1 #[.string a0_0, .string a0_1, .bool a0_2, .bool a0_3] 58 ?_; intro gb432 hg w3 hbox hb; have BK432 := Aside0.mk (hbox); have GW432 := gW hg; have GE432 := gW hg; replace HB := sB hb; clear hb hbox hg))
 (try simp only [Act.put, List.setIfInBounds_toArray, List.set_cons_zero, List.set_cons_succ])
 go_cut [41] (fun v41 wc => ∃ (kq : Nat) (x41_1 : Bool), v41 = .bool x41_1 ∧ Aside0 (newelref05_May.j0 kq x41_1 a0_0 a0_1 a0_2 a0_3 = some r) ∧ Aside0 (kq ≤ k) ∧ Aside0 (wc.heap[gb432]? = some (.cells #[.string a0_0, .string a0_1, .bool a0_2, .bool a0_3] 58 (0, 0))) ∧ Aside0 (Below w.heap.size w wc))
 case first =>
  have H := HC2.out
  clear HC2
  by_cases c4 : a0_0.toList = ([] : List UInt8)
  rotate_left
  ·rw [if_neg c4] at H
   obtain ⟨c4b0, c4b1⟩ := eqF c4
   (try (have c4b2 : a0_0.toList.isEmpty = false := by simpa using c4))
   (first | rw [c4b0] | rw [c4b2] | (simp only [i64_w, i32_w]; rw [c4b0]) | skip)
   replace H := bi H
   obtain ⟨t434, A150, H⟩ := H
   try dsimp only at H
   have A15 := Aside0.mk A150
   clear A150
   by_cases c16 : t434 = true
   rotate_left
   ·replace c16 := Bool.eq_false_iff.mpr c16
    subst c16
    have H1 : (newelref05_May.j0 k true a0_0 a0_1 a0_2 a0_3) = some r := by rw [if_neg (show ¬ (false = true) by decide)] at H; exact H
    clear H
    have H := H1
    clear H1
    have H' := Aside0.mk H
    clear H
    obtain ⟨hcz23_0, hcz23_1, hcz23_2, hcz23_3, hfz23_0, hfz23_1, hfz23_2, hfz23_3⟩ := cells4 BK432
    go_wp2_with (first | (go_at_call 29; (with_reducible refine (newelref05_Right.calls k a0_0 false _ (gS HG) A15.out).mono ?_); rintro e w' ⟨rfl, ⟨nd, rfl⟩⟩))
    go_meet
    case rel => exact ⟨_, (true), cA, H', ⟨by first | omega | exact Nat.le_refl _⟩, ⟨bK BK432⟩, ⟨bG⟩⟩
   subst c16
   have H1 : (if a0_1.toList = ([] : List UInt8) then (newelref05_May.j0 k a0_3 a0_0 a0_1 a0_2 a0_3) else ((newelref05_Right.f k a0_1).bind fun t435 => (if t435 = true then (newelref05_May.j0 k false a0_0 a0_1 a0_2 a0_3) else (newelref05_May.j0 k true a0_0 a0_1 a0_2 a0_3)))) = some r := by rw [if_pos rfl] at H; exact H
   clear H
   have H := H1
   clear H1
   by_cases c17 : a0_1.toList = ([] : List UInt8)
   ·rw [if_pos c17] at H
    obtain ⟨c17b0, c17b1⟩ := eqT c17
    (try (have c17b2 : a0_1.toList.isEmpty = true := by simpa using c17))
    clear c17
    have H' := Aside0.mk H
    clear H
    obtain ⟨hcz18_0, hcz18_1, hcz18_2, hcz18_3, hfz18_0, hfz18_1, hfz18_2, hfz18_3⟩ := cells4 BK432
    go_wp2_with (first | (go_at_call 29; (with_reducible refine (newelref05_Right.calls k a0_0 true _ (gS HG) A15.out).mono ?_); rintro e w' ⟨rfl, ⟨nd, rfl⟩⟩))
    go_meet
    case rel => exact ⟨_, (a0_3), cA, H', ⟨by first | omega | exact Nat.le_refl _⟩, ⟨bK BK432⟩, ⟨bG⟩⟩
   rw [if_neg c17] at H
   obtain ⟨c17b0, c17b1⟩ := eqF c17
   (try (have c17b2 : a0_1.toList.isEmpty = false := by simpa using c17))
   replace H := bi H
   obtain ⟨t435, A190, H⟩ := H
   try dsimp only at H
   have A19 := Aside0.mk A190
   clear A190
   by_cases c20 : t435 = true
   ·subst c20
    have H1 : (newelref05_May.j0 k false a0_0 a0_1 a0_2 a0_3) = some r := by rw [if_pos rfl] at H; exact H
    clear H
    have H := H1
    clear H1
    have H' := Aside0.mk H
    clear H
    obtain ⟨hcz21_0, hcz21_1, hcz21_2, hcz21_3, hfz21_0, hfz21_1, hfz21_2, hfz21_3⟩ := cells4 BK432
    go_wp2_with (first | (go_at_call 29; (with_reducible refine (newelref05_Right.calls k a0_0 true _ (gS HG) A15.out).mono ?_); rintro e w' ⟨rfl, ⟨nd, rfl⟩⟩) | (go_at_call 29; (with_reducible refine (newelref05_Right.calls k a0_1 true _ (gS HG) A19.out).mono ?_); rintro e w' ⟨rfl, ⟨nd, rfl⟩⟩))
    go_meet
    case rel => exact ⟨_, (false), cA, H', ⟨by first | omega | exact Nat.le_refl _⟩, ⟨bK BK432⟩, ⟨bG⟩⟩
   replace c20 := Bool.eq_false_iff.mpr c20
   subst c20
   have H1 : (newelref05_May.j0 k true a0_0 a0_1 a0_2 a0_3) = some r := by rw [if_neg (show ¬ (false = true) by decide)] at H; exact H
   clear H
   have H := H1
   clear H1
   have H' := Aside0.mk H
   clear H
   obtain ⟨hcz22_0, hcz22_1, hcz22_2, hcz22_3, hfz22_0, hfz22_1, hfz22_2, hfz22_3⟩ := cells4 BK432
   go_wp2_with (first | (go_at_call 29; (with_reducible refine (newelref05_Right.calls k a0_0 true _ (gS HG) A15.out).mono ?_); rintro e w' ⟨rfl, ⟨nd, rfl⟩⟩) | (go_at_call 29; (with_reducible refine (newelref05_Right.calls k a0_1 false _ (gS HG) A19.out).mono ?_); rintro e w' ⟨rfl, ⟨nd, rfl⟩⟩))
   go_meet
   case rel => exact ⟨_, (true), cA, H', ⟨by first | omega | exact Nat.le_refl _⟩, ⟨bK BK432⟩, ⟨bG⟩⟩
  rw [if_pos c4] at H
  obtain ⟨c4b0, c4b1⟩ := eqT c4
  (try (have c4b2 : a0_0.toList.isEmpty = true := by simpa using c4))
  clear c4
  (first | rw [c4b0] | rw [c4b2] | (simp only [i64_w, i32_w]; rw [c4b0]) | skip)
  by_cases c5 : a0_1.toList = ([] : List UInt8)
  ·rw [if_pos c5] at H
   obtain ⟨c5b0, c5b1⟩ := eqT c5
   (try (have c5b2 : a0_1.toList.isEmpty = true := by simpa using c5))
   clear c5
   by_cases c6 : a0_2 = true
   ·subst c6
    have H1 : (newelref05_May.j0 k true a0_0 a0_1 true a0_3) = some r := by rw [if_pos rfl] at H; exact H
    clear H
    have H := H1
    clear H1
    have H' := Aside0.mk H
    clear H
    obtain ⟨hcz7_0, hcz7_1, hcz7_2, hcz7_3, hfz7_0, hfz7_1, hfz7_2, hfz7_3⟩ := cells4 BK432
    go_wp2
    go_meet
    case rel => exact ⟨_, (true), cA, H', ⟨by first | omega | exact Nat.le_refl _⟩, ⟨bK BK432⟩, ⟨bG⟩⟩
   replace c6 := Bool.eq_false_iff.mpr c6
   subst c6
   have H1 : (newelref05_May.j0 k a0_3 a0_0 a0_1 false a0_3) = some r := by rw [if_neg (show ¬ (false = true) by decide)] at H; exact H
   clear H
   have H := H1
   clear H1
   have H' := Aside0.mk H
   clear H
   obtain ⟨hcz8_0, hcz8_1, hcz8_2, hcz8_3, hfz8_0, hfz8_1, hfz8_2, hfz8_3⟩ := cells4 BK432
   go_wp2
   go_meet
   case rel => exact ⟨_, (a0_3), cA, H', ⟨by first | omega | exact Nat.le_refl _⟩, ⟨bK BK432⟩, ⟨bG⟩⟩
  rw [if_neg c5] at H
  obtain ⟨c5b0, c5b1⟩ := eqF c5
  (try (have c5b2 : a0_1.toList.isEmpty = false := by simpa using c5))
  replace H := bi H
  obtain ⟨t433, A90, H⟩ := H
  try dsimp only at H
  have A9 := Aside0.mk A90
  clear A90
  by_cases c10 : t433 = true
  rotate_left
  ·replace c10 := Bool.eq_false_iff.mpr c10
   subst c10
   have H1 : (newelref05_May.j0 k true a0_0 a0_1 a0_2 a0_3) = some r := by rw [if_neg (show ¬ (false = true) by decide)] at H; exact H
   clear H
   have H := H1
   clear H1
   have H' := Aside0.mk H
   clear H
   obtain ⟨hcz14_0, hcz14_1, hcz14_2, hcz14_3, hfz14_0, hfz14_1, hfz14_2, hfz14_3⟩ := cells4 BK432
   go_wp2_with (first | (go_at_call 29; (with_reducible refine (newelref05_Right.calls k a0_1 false _ (gS HG) A9.out).mono ?_); rintro e w' ⟨rfl, ⟨nd, rfl⟩⟩))
   go_meet
   case rel => exact ⟨_, (true), cA, H', ⟨by first | omega | exact Nat.le_refl _⟩, ⟨bK BK432⟩, ⟨bG⟩⟩
  subst c10
  have H1 : (if a0_2 = true then (newelref05_May.j0 k true a0_0 a0_1 a0_2 a0_3) else (newelref05_May.j0 k false a0_0 a0_1 a0_2 a0_3)) = some r := by rw [if_pos rfl] at H; exact H
  clear H
  have H := H1
  clear H1
  by_cases c11 : a0_2 = true
  ·subst c11
   have H1 : (newelref05_May.j0 k true a0_0 a0_1 true a0_3) = some r := by rw [if_pos rfl] at H; exact H
   clear H
   have H := H1
   clear H1
   have H' := Aside0.mk H
   clear H
   obtain ⟨hcz12_0, hcz12_1, hcz12_2, hcz12_3, hfz12_0, hfz12_1, hfz12_2, hfz12_3⟩ := cells4 BK432
   go_wp2_with (first | (go_at_call 29; (with_reducible refine (newelref05_Right.calls k a0_1 true _ (gS HG) A9.out).mono ?_); rintro e w' ⟨rfl, ⟨nd, rfl⟩⟩))
   go_meet
   case rel => exact ⟨_, (true), cA, H', ⟨by first | omega | exact Nat.le_refl _⟩, ⟨bK BK432⟩, ⟨bG⟩⟩
  replace c11 := Bool.eq_false_iff.mpr c11
  subst c11
  have H1 : (newelref05_May.j0 k false a0_0 a0_1 false a0_3) = some r := by rw [if_neg (show ¬ (false = true) by decide)] at H; exact H
  clear H
  have H := H1
  clear H1
  have H' := Aside0.mk H
  clear H
  obtain ⟨hcz13_0, hcz13_1, hcz13_2, hcz13_3, hfz13_0, hfz13_1, hfz13_2, hfz13_3⟩ := cells4 BK432
  go_wp2_with (first | (go_at_call 29; (with_reducible refine (newelref05_Right.calls k a0_1 true _ (gS HG) A9.out).mono ?_); rintro e w' ⟨rfl, ⟨nd, rfl⟩⟩))
  go_meet
  case rel => exact ⟨_, (false), cA, H', ⟨by first | omega | exact Nat.le_refl _⟩, ⟨bK BK432⟩, ⟨bG⟩⟩
 clear HC2
 try clear c1
 try clear c2
 try clear p2
 try clear c4
 try clear c4b0
 try clear c4b1
 try clear c4b2
 try clear c5
 try clear c5b0
 try clear c5b1
 try clear c5b2
 try clear c6
 try clear c8
 try clear c10
 try clear c11
 try clear c16
 try clear c17
 try clear c17b0
 try clear c17b1
 try clear c17b2
 try clear c20
 try clear hcz12_0
 try clear hcz12_1
 try clear hcz12_2
 try clear hcz12_3
 try clear hcz13_0
 try clear hcz13_1
 try clear hcz13_2
 try clear hcz13_3
 try clear hcz14_0
 try clear hcz14_1
 try clear hcz14_2
 try clear hcz14_3
 try clear hcz18_0
 try clear hcz18_1
 try clear hcz18_2
 try clear hcz18_3
 try clear hcz21_0
 try clear hcz21_1
 try clear hcz21_2
 try clear hcz21_3
 try clear hcz22_0
 try clear hcz22_1
 try clear hcz22_2
 try clear hcz22_3
 try clear hcz23_0
 try clear hcz23_1
 try clear hcz23_2
 try clear hcz23_3
 try clear hcz7_0
 try clear hcz7_1
 try clear hcz7_2
 try clear hcz7_3
 try clear hcz8_0
 try clear hcz8_1
 try clear hcz8_2
 try clear hcz8_3
 try clear hfz12_0
 try clear hfz12_1
 try clear hfz12_2
 try clear hfz12_3
 try clear hfz13_0
 try clear hfz13_1
 try clear hfz13_2
 try clear hfz13_3
 try clear hfz14_0
 try clear hfz14_1
 try clear hfz14_2
 try clear hfz14_3
 try clear hfz18_0
 try clear hfz18_1
 try clear hfz18_2
 try clear hfz18_3
 try clear hfz21_0
 try clear hfz21_1
 try clear hfz21_2
 try clear hfz21_3
 try clear hfz22_0
 try clear hfz22_1
 try clear hfz22_2
 try clear hfz22_3
 try clear hfz23_0
 try clear hfz23_1
 try clear hfz23_2
 try clear hfz23_3
 try clear hfz7_0
 try clear hfz7_1
 try clear hfz7_2
 try clear hfz7_3
 try clear hfz8_0
 try clear hfz8_1
 try clear hfz8_2
 try clear hfz8_3
 obtain ⟨kq, x41_1, rfl, HA, HJ1, BK432, HB⟩ := hcut
 cases kq with
 | zero => exact absurd HA.out (by simp [newelref05_May.j0])
 | succ kj1 =>
  have H := HA.out
  clear HA
  simp only [newelref05_May.j0] at H
  by_cases c24 : x41_1 = true
  ·subst c24
   have H1 : (some false) = some r := by rw [if_pos rfl] at H; exact H
   clear H
   have H := H1
   clear H1
   obtain rfl := Option.some.inj H
   go_wp2
   go_ret
   exact ⟨eA, bG⟩
  replace c24 := Bool.eq_false_iff.mpr c24
  subst c24
  have H1 : (if a0_0.toList = ([] : List UInt8) then (some true) else (if a0_1.toList = ([] : List UInt8) then (some true) else ((newelref05_Compare.f kj1 a0_0 a0_1).bind fun t436 => (if t436 < 0 then (some true) else (if t436 = 0 then (if a0_2 = true then (some a0_3) else (some false)) else (some false)))))) = some r := by rw [if_neg (show ¬ (false = true) by decide)] at H; exact H
  clear H
  have H := H1
  clear H1
  by_cases c25 : a0_0.toList = ([] : List UInt8)
  ·rw [if_pos c25] at H
   obtain ⟨c25b0, c25b1⟩ := eqT c25
   (try (have c25b2 : a0_0.toList.isEmpty = true := by simpa using c25))
   clear c25
   obtain rfl := Option.some.inj H
   obtain ⟨hcz26_0, hcz26_1, hcz26_2, hcz26_3, hfz26_0, hfz26_1, hfz26_2, hfz26_3⟩ := cells4 BK432
   go_wp2
   go_ret
   exact ⟨eA, bG⟩
  rw [if_neg c25] at H
  obtain ⟨c25b0, c25b1⟩ := eqF c25
  (try (have c25b2 : a0_0.toList.isEmpty = false := by simpa using c25))
  by_cases c27 : a0_1.toList = ([] : List UInt8)
  ·rw [if_pos c27] at H
   obtain ⟨c27b0, c27b1⟩ := eqT c27
   (try (have c27b2 : a0_1.toList.isEmpty = true := by simpa using c27))
   clear c27
   obtain rfl := Option.some.inj H
   obtain ⟨hcz28_0, hcz28_1, hcz28_2, hcz28_3, hfz28_0, hfz28_1, hfz28_2, hfz28_3⟩ := cells4 BK432
   go_wp2
   go_ret
   exact ⟨eA, bG⟩
  rw [if_neg c27] at H
  obtain ⟨c27b0, c27b1⟩ := eqF c27
  (try (have c27b2 : a0_1.toList.isEmpty = false := by simpa using c27))
  replace H := bi H
  obtain ⟨t436, A290, H⟩ := H
  try dsimp only at H
  have A29 := Aside0.mk A290
  clear A290
  by_cases c30 : t436 < 0
  ·rw [if_pos c30] at H
   have c30b0 := dT c30
   clear c30
   obtain rfl := Option.some.inj H
   obtain ⟨hcz31_0, hcz31_1, hcz31_2, hcz31_3, hfz31_0, hfz31_1, hfz31_2, hfz31_3⟩ := cells4 BK432
   go_wp2_with (first | (refine gl (some 54) Tryd.func55 #[.string a0_0, .string a0_1] ?_; (with_reducible refine (newelref05_Compare.calls kj1 a0_0 a0_1 t436 _ (gS HG) A29.out).mono ?_); rintro e w32 ⟨rfl, hb⟩; refine ⟨_, rfl, ?_⟩; replace BK432 := kB BK432 hb; replace HB := sB hb; (try clear hb)))
   go_ret
   exact ⟨eA, bG⟩
  rw [if_neg c30] at H
  have c30b0 := dF c30
  clear c30
  by_cases c33 : t436 = 0
  rotate_left
  ·rw [if_neg c33] at H
   obtain ⟨c33b0, c33b1⟩ := eqF c33
   obtain rfl := Option.some.inj H
   obtain ⟨hcz41_0, hcz41_1, hcz41_2, hcz41_3, hfz41_0, hfz41_1, hfz41_2, hfz41_3⟩ := cells4 BK432
   go_wp2_with (first | (refine gl (some 54) Tryd.func55 #[.string a0_0, .string a0_1] ?_; (with_reducible refine (newelref05_Compare.calls kj1 a0_0 a0_1 t436 _ (gS HG) A29.out).mono ?_); rintro e w42 ⟨rfl, hb⟩; refine ⟨_, rfl, ?_⟩; replace BK432 := kB BK432 hb; replace HB := sB hb; (try clear hb)))
   go_ret
   exact ⟨eA, bG⟩
  rw [if_pos c33] at H
  obtain ⟨c33b0, c33b1⟩ := eqT c33
  clear c33
  by_cases c34 : a0_2 = true
  ·subst c34
   have H1 : (some a0_3) = some r := by rw [if_pos rfl] at H; exact H
   clear H
   have H := H1
   clear H1
   obtain rfl := Option.some.inj H
   obtain ⟨hcz35_0, hcz35_1, hcz35_2, hcz35_3, hfz35_0, hfz35_1, hfz35_2, hfz35_3⟩ := cells4 BK432
   go_wp2_with (first | (refine gl (some 54) Tryd.func55 #[.string a0_0, .string a0_1] ?_; (with_reducible refine (newelref05_Compare.calls kj1 a0_0 a0_1 t436 _ (gS HG) A29.out).mono ?_); rintro e w36 ⟨rfl, hb⟩; refine ⟨_, rfl, ?_⟩; replace BK432 := kB BK432 hb; replace HB := sB hb; (try clear hb); have hcz37_0 : w36.cell? ⟨gb432, 0, none⟩ = some (.string a0_0) := (blk_cell BK432.out 0).trans rfl; have hcz37_1 : w36.cell? ⟨gb432, 1, none⟩ = some (.string a0_1) := (blk_cell BK432.out 1).trans rfl; have hcz37_2 : w36.cell? ⟨gb432, 2, none⟩ = some (.bool true) := (blk_cell BK432.out 2).trans rfl; have hcz37_3 : w36.cell? ⟨gb432, 3, none⟩ = some (.bool a0_3) := (blk_cell BK432.out 3).trans rfl; have hfz37_0 := blk_frozen BK432.out 0; have hfz37_1 := blk_frozen BK432.out 1; have hfz37_2 := blk_frozen BK432.out 2; have hfz37_3 := blk_frozen BK432.out 3))
   go_ret
   exact ⟨eA, bG⟩
  replace c34 := Bool.eq_false_iff.mpr c34
  subst c34
  have H1 : (some false) = some r := by rw [if_neg (show ¬ (false = true) by decide)] at H; exact H
  clear H
  have H := H1
  clear H1
  obtain rfl := Option.some.inj H
  obtain ⟨hcz38_0, hcz38_1, hcz38_2, hcz38_3, hfz38_0, hfz38_1, hfz38_2, hfz38_3⟩ := cells4 BK432
  go_wp2_with (first | (refine gl (some 54) Tryd.func55 #[.string a0_0, .string a0_1] ?_; (with_reducible refine (newelref05_Compare.calls kj1 a0_0 a0_1 t436 _ (gS HG) A29.out).mono ?_); rintro e w39 ⟨rfl, hb⟩; refine ⟨_, rfl, ?_⟩; replace BK432 := kB BK432 hb; replace HB := sB hb; (try clear hb); have hcz40_0 : w39.cell? ⟨gb432, 0, none⟩ = some (.string a0_0) := (blk_cell BK432.out 0).trans rfl; have hcz40_1 : w39.cell? ⟨gb432, 1, none⟩ = some (.string a0_1) := (blk_cell BK432.out 1).trans rfl; have hcz40_2 : w39.cell? ⟨gb432, 2, none⟩ = some (.bool false) := (blk_cell BK432.out 2).trans rfl; have hcz40_3 : w39.cell? ⟨gb432, 3, none⟩ = some (.bool a0_3) := (blk_cell BK432.out 3).trans rfl; have hfz40_0 := blk_frozen BK432.out 0; have hfz40_1 := blk_frozen BK432.out 1; have hfz40_2 := blk_frozen BK432.out 2; have hfz40_3 := blk_frozen BK432.out 3))
  go_ret
  exact ⟨eA, bG⟩
def newelref05_behind.f (k : Nat) (a0_0 : ByteArray) (a0_1 : ByteArray) (a0_2 : Bool) (a0_3 : Bool) (a1_0 : ByteArray) (a1_1 : ByteArray) (a1_2 : Bool) (a1_3 : Bool) : Option (Bool) := if a0_1.toList = ([] : List UInt8) then (some false) else (if a1_0.toList = ([] : List UInt8) then (some false) else ((newelref05_Compare.f k a0_1 a1_0).bind fun t439 => (if t439 < 0 then (some true) else (if t439 = 0 then (if a0_3 = true then (some (!a1_2)) else (some (!false))) else (some false)))))
theorem newelref05_behind.mono : ∀ a0 a1 a2 a3 a4 a5 a6 a7 k, LeO (newelref05_behind.f k a0 a1 a2 a3 a4 a5 a6 a7) (newelref05_behind.f (k + 1) a0 a1 a2 a3 a4 a5 a6 a7) := by
 intro a0 a1 a2 a3 a4 a5 a6 a7 k
 unfold newelref05_behind.f
 have m0 := @newelref05_Compare.mono
 exact mo
theorem newelref05_behind.calls (k : Nat) (a0_0 : ByteArray) (a0_1 : ByteArray) (a0_2 : Bool) (a0_3 : Bool) (a1_0 : ByteArray) (a1_1 : ByteArray) (a1_2 : Bool) (a1_3 : Bool) (r : Bool) (w : World) (hG : Glob w) (h : newelref05_behind.f k a0_0 a0_1 a0_2 a0_3 a1_0 a1_1 a1_2 a1_3 = some r) :
 Calls Tryd.prog 90 #[.agg #[.string a0_0, .string a0_1, .bool a0_2, .bool a0_3], .agg #[.string a1_0, .string a1_1, .bool a1_2, .bool a1_3]] w fun e w' => e = .returned (.bool r) ∧ Below w.heap.size w w' := by
 have hu58 := Tryd.underlying58
 have HG := Aside0.mk hG
 clear hG
 have HB := Aside0.mk (Below.refl w.heap.size w)
 have H : (if a0_1.toList = ([] : List UInt8) then (some false) else (if a1_0.toList = ([] : List UInt8) then (some false) else ((newelref05_Compare.f k a0_1 a1_0).bind fun t439 => (if t439 < 0 then (some true) else (if t439 = 0 then (if a0_3 = true then (some (!a1_2)) else (some (!false))) else (some false)))))) = some r := h
 clear h
 by_cases c3 : a0_1.toList = ([] : List UInt8)
 ·rw [if_pos c3] at H
  obtain ⟨c3b0, c3b1⟩ := eqT c3
  (try (have c3b2 : a0_1.toList.isEmpty = true := by simpa using c3))
  clear c3
  obtain rfl := Option.some.inj H
  go_enter Tryd.func90, Tryd.ntmps90
  go_wp2_with (first | (refine be 2 #[.string a0_0, .string a0_1, .bool a0_2, .bool a0_3] 58 ?_; intro gb437 hg w4 hbox hb; have BK437 := Aside0.mk (hbox); have GW437 := gW hg; have GE437 := gW hg; replace HB := sB hb; clear hb hbox hg) | (refine be 3 #[.string a1_0, .string a1_1, .bool a1_2, .bool a1_3] 58 ?_; intro gb438 hg w5 hbox hb; have BK438 := Aside0.mk (hbox); have GW438 := gW hg; have GE438 := gW hg; replace HB := sB hb; have NB437_438 := nL BK437 hg; have NB438_437 := nG BK437 hg; replace BK437 := kB BK437 hb; clear hb hbox hg; have hnb6 := NB437_438.out; have hnc6 := NB438_437.out; have hcz7_0 : w5.cell? ⟨gb437, 0, none⟩ = some (.string a0_0) := (blk_cell BK437.out 0).trans rfl; have hcz7_1 : w5.cell? ⟨gb437, 1, none⟩ = some (.string a0_1) := (blk_cell BK437.out 1).trans rfl; have hcz7_2 : w5.cell? ⟨gb437, 2, none⟩ = some (.bool a0_2) := (blk_cell BK437.out 2).trans rfl; have hcz7_3 : w5.cell? ⟨gb437, 3, none⟩ = some (.bool a0_3) := (blk_cell BK437.out 3).trans rfl; have hfz7_0 := blk_frozen BK437.out 0; have hfz7_1 := blk_frozen BK437.out 1; have hfz7_2 := blk_frozen BK437.out 2; have hfz7_3 := blk_frozen BK437.out 3))
  go_ret
  exact ⟨eA, bG⟩
 rw [if_neg c3] at H
 obtain ⟨c3b0, c3b1⟩ := eqF c3
 (try (have c3b2 : a0_1.toList.isEmpty = false := by simpa using c3))
 by_cases c8 : a1_0.toList = ([] : List UInt8)
 ·rw [if_pos c8] at H
  obtain ⟨c8b0, c8b1⟩ := eqT c8
  (try (have c8b2 : a1_0.toList.isEmpty = true := by simpa using c8))
  clear c8
  obtain rfl := Option.some.inj H
  go_enter Tryd.func90, Tryd.ntmps90
  go_wp2_with (first | (refine be 2 #[.string a0_0, .string a0_1, .bool a0_2, .bool a0_3] 58 ?_; intro gb437 hg w9 hbox hb; have BK437 := Aside0.mk (hbox); have GW437 := gW hg; have GE437 := gW hg; replace HB := sB hb; clear hb hbox hg) | (refine be 3 #[.string a1_0, .string a1_1, .bool a1_2, .bool a1_3] 58 ?_; intro gb438 hg w10 hbox hb; have BK438 := Aside0.mk (hbox); have GW438 := gW hg; have GE438 := gW hg; replace HB := sB hb; have NB437_438 := nL BK437 hg; have NB438_437 := nG BK437 hg; replace BK437 := kB BK437 hb; clear hb hbox hg; have hnb11 := NB437_438.out; have hnc11 := NB438_437.out; have hcz12_0 : w10.cell? ⟨gb437, 0, none⟩ = some (.string a0_0) := (blk_cell BK437.out 0).trans rfl; have hcz12_1 : w10.cell? ⟨gb437, 1, none⟩ = some (.string a0_1) := (blk_cell BK437.out 1).trans rfl; have hcz12_2 : w10.cell? ⟨gb437, 2, none⟩ = some (.bool a0_2) := (blk_cell BK437.out 2).trans rfl; have hcz12_3 : w10.cell? ⟨gb437, 3, none⟩ = some (.bool a0_3) := (blk_cell BK437.out 3).trans rfl; have hfz12_0 := blk_frozen BK437.out 0; have hfz12_1 := blk_frozen BK437.out 1; have hfz12_2 := blk_frozen BK437.out 2; have hfz12_3 := blk_frozen BK437.out 3; have hcz13_0 : w10.cell? ⟨gb438, 0, none⟩ = some (.string a1_0) := (blk_cell BK438.out 0).trans rfl; have hcz13_1 : w10.cell? ⟨gb438, 1, none⟩ = some (.string a1_1) := (blk_cell BK438.out 1).trans rfl; have hcz13_2 : w10.cell? ⟨gb438, 2, none⟩ = some (.bool a1_2) := (blk_cell BK438.out 2).trans rfl; have hcz13_3 : w10.cell? ⟨gb438, 3, none⟩ = some (.bool a1_3) := (blk_cell BK438.out 3).trans rfl; have hfz13_0 := blk_frozen BK438.out 0; have hfz13_1 := blk_frozen BK438.out 1; have hfz13_2 := blk_frozen BK438.out 2; have hfz13_3 := blk_frozen BK438.out 3))
  go_ret
  exact ⟨eA, bG⟩
 rw [if_neg c8] at H
 obtain ⟨c8b0, c8b1⟩ := eqF c8
 (try (have c8b2 : a1_0.toList.isEmpty = false := by simpa using c8))
 replace H := bi H
 obtain ⟨t439, A140, H⟩ := H
 try dsimp only at H
 have A14 := Aside0.mk A140
 clear A140
 by_cases c15 : t439 < 0
 ·rw [if_pos c15] at H
  have c15b0 := dT c15
  clear c15
  obtain rfl := Option.some.inj H
  go_enter Tryd.func90, Tryd.ntmps90
  go_wp2_with (first | (refine be 2 #[.string a0_0, .string a0_1, .bool a0_2, .bool a0_3] 58 ?_; intro gb437 hg w16 hbox hb; have BK437 := Aside0.mk (hbox); have GW437 := gW hg; have GE437 := gW hg; replace HB := sB hb; clear hb hbox hg) | (refine be 3 #[.string a1_0, .string a1_1, .bool a1_2, .bool a1_3] 58 ?_; intro gb438 hg w17 hbox hb; have BK438 := Aside0.mk (hbox); have GW438 := gW hg; have GE438 := gW hg; replace HB := sB hb; have NB437_438 := nL BK437 hg; have NB438_437 := nG BK437 hg; replace BK437 := kB BK437 hb; clear hb hbox hg; have hnb18 := NB437_438.out; have hnc18 := NB438_437.out; have hcz19_0 : w17.cell? ⟨gb437, 0, none⟩ = some (.string a0_0) := (blk_cell BK437.out 0).trans rfl; have hcz19_1 : w17.cell? ⟨gb437, 1, none⟩ = some (.string a0_1) := (blk_cell BK437.out 1).trans rfl; have hcz19_2 : w17.cell? ⟨gb437, 2, none⟩ = some (.bool a0_2) := (blk_cell BK437.out 2).trans rfl; have hcz19_3 : w17.cell? ⟨gb437, 3, none⟩ = some (.bool a0_3) := (blk_cell BK437.out 3).trans rfl; have hfz19_0 := blk_frozen BK437.out 0; have hfz19_1 := blk_frozen BK437.out 1; have hfz19_2 := blk_frozen BK437.out 2; have hfz19_3 := blk_frozen BK437.out 3; have hcz20_0 : w17.cell? ⟨gb438, 0, none⟩ = some (.string a1_0) := (blk_cell BK438.out 0).trans rfl; have hcz20_1 : w17.cell? ⟨gb438, 1, none⟩ = some (.string a1_1) := (blk_cell BK438.out 1).trans rfl; have hcz20_2 : w17.cell? ⟨gb438, 2, none⟩ = some (.bool a1_2) := (blk_cell BK438.out 2).trans rfl; have hcz20_3 : w17.cell? ⟨gb438, 3, none⟩ = some (.bool a1_3) := (blk_cell BK438.out 3).trans rfl; have hfz20_0 := blk_frozen BK438.out 0; have hfz20_1 := blk_frozen BK438.out 1; have hfz20_2 := blk_frozen BK438.out 2; have hfz20_3 := blk_frozen BK438.out 3) | (refine gl (some 18) Tryd.func55 #[.string a0_1, .string a1_0] ?_; (with_reducible refine (newelref05_Compare.calls k a0_1 a1_0 t439 _ (gS HG) A14.out).mono ?_); rintro e w21 ⟨rfl, hb⟩; refine ⟨_, rfl, ?_⟩; replace BK437 := kB BK437 hb; replace BK438 := kB BK438 hb; replace HB := sB hb; (try clear hb)))
  go_ret
  exact ⟨eA, bG⟩
 rw [if_neg c15] at H
 have c15b0 := dF c15
 clear c15
 by_cases c22 : t439 = 0
 rotate_left
 ·rw [if_neg c22] at H
  obtain ⟨c22b0, c22b1⟩ := eqF c22
  obtain rfl := Option.some.inj H
  go_enter Tryd.func90, Tryd.ntmps90
  go_wp2_with (first | (refine be 2 #[.string a0_0, .string a0_1, .bool a0_2, .bool a0_3] 58 ?_; intro gb437 hg w39 hbox hb; have BK437 := Aside0.mk (hbox); have GW437 := gW hg; have GE437 := gW hg; replace HB := sB hb; clear hb hbox hg) | (refine be 3 #[.string a1_0, .string a1_1, .bool a1_2, .bool a1_3] 58 ?_; intro gb438 hg w40 hbox hb; have BK438 := Aside0.mk (hbox); have GW438 := gW hg; have GE438 := gW hg; replace HB := sB hb; have NB437_438 := nL BK437 hg; have NB438_437 := nG BK437 hg; replace BK437 := kB BK437 hb; clear hb hbox hg; have hnb41 := NB437_438.out; have hnc41 := NB438_437.out; have hcz42_0 : w40.cell? ⟨gb437, 0, none⟩ = some (.string a0_0) := (blk_cell BK437.out 0).trans rfl; have hcz42_1 : w40.cell? ⟨gb437, 1, none⟩ = some (.string a0_1) := (blk_cell BK437.out 1).trans rfl; have hcz42_2 : w40.cell? ⟨gb437, 2, none⟩ = some (.bool a0_2) := (blk_cell BK437.out 2).trans rfl; have hcz42_3 : w40.cell? ⟨gb437, 3, none⟩ = some (.bool a0_3) := (blk_cell BK437.out 3).trans rfl; have hfz42_0 := blk_frozen BK437.out 0; have hfz42_1 := blk_frozen BK437.out 1; have hfz42_2 := blk_frozen BK437.out 2; have hfz42_3 := blk_frozen BK437.out 3; have hcz43_0 : w40.cell? ⟨gb438, 0, none⟩ = some (.string a1_0) := (blk_cell BK438.out 0).trans rfl; have hcz43_1 : w40.cell? ⟨gb438, 1, none⟩ = some (.string a1_1) := (blk_cell BK438.out 1).trans rfl; have hcz43_2 : w40.cell? ⟨gb438, 2, none⟩ = some (.bool a1_2) := (blk_cell BK438.out 2).trans rfl; have hcz43_3 : w40.cell? ⟨gb438, 3, none⟩ = some (.bool a1_3) := (blk_cell BK438.out 3).trans rfl; have hfz43_0 := blk_frozen BK438.out 0; have hfz43_1 := blk_frozen BK438.out 1; have hfz43_2 := blk_frozen BK438.out 2; have hfz43_3 := blk_frozen BK438.out 3) | (refine gl (some 18) Tryd.func55 #[.string a0_1, .string a1_0] ?_; (with_reducible refine (newelref05_Compare.calls k a0_1 a1_0 t439 _ (gS HG) A14.out).mono ?_); rintro e w44 ⟨rfl, hb⟩; refine ⟨_, rfl, ?_⟩; replace BK437 := kB BK437 hb; replace BK438 := kB BK438 hb; replace HB := sB hb; (try clear hb)))
  go_ret
  exact ⟨eA, bG⟩
 rw [if_pos c22] at H
 obtain ⟨c22b0, c22b1⟩ := eqT c22
 clear c22
 by_cases c23 : a0_3 = true
 ·subst c23
  have H1 : (some (!a1_2)) = some r := by rw [if_pos rfl] at H; exact H
  clear H
  have H := H1
  clear H1
  obtain rfl := Option.some.inj H
  go_enter Tryd.func90, Tryd.ntmps90
  go_wp2_with (first | (refine be 2 #[.string a0_0, .string a0_1, .bool a0_2, .bool true] 58 ?_; intro gb437 hg w24 hbox hb; have BK437 := Aside0.mk (hbox); have GW437 := gW hg; have GE437 := gW hg; replace HB := sB hb; clear hb hbox hg) | (refine be 3 #[.string a1_0, .string a1_1, .bool a1_2, .bool a1_3] 58 ?_; intro gb438 hg w25 hbox hb; have BK438 := Aside0.mk (hbox); have GW438 := gW hg; have GE438 := gW hg; replace HB := sB hb; have NB437_438 := nL BK437 hg; have NB438_437 := nG BK437 hg; replace BK437 := kB BK437 hb; clear hb hbox hg; have hnb26 := NB437_438.out; have hnc26 := NB438_437.out; have hcz27_0 : w25.cell? ⟨gb437, 0, none⟩ = some (.string a0_0) := (blk_cell BK437.out 0).trans rfl; have hcz27_1 : w25.cell? ⟨gb437, 1, none⟩ = some (.string a0_1) := (blk_cell BK437.out 1).trans rfl; have hcz27_2 : w25.cell? ⟨gb437, 2, none⟩ = some (.bool a0_2) := (blk_cell BK437.out 2).trans rfl; have hcz27_3 : w25.cell? ⟨gb437, 3, none⟩ = some (.bool true) := (blk_cell BK437.out 3).trans rfl; have hfz27_0 := blk_frozen BK437.out 0; have hfz27_1 := blk_frozen BK437.out 1; have hfz27_2 := blk_frozen BK437.out 2; have hfz27_3 := blk_frozen BK437.out 3; have hcz28_0 : w25.cell? ⟨gb438, 0, none⟩ = some (.string a1_0) := (blk_cell BK438.out 0).trans rfl; have hcz28_1 : w25.cell? ⟨gb438, 1, none⟩ = some (.string a1_1) := (blk_cell BK438.out 1).trans rfl; have hcz28_2 : w25.cell? ⟨gb438, 2, none⟩ = some (.bool a1_2) := (blk_cell BK438.out 2).trans rfl; have hcz28_3 : w25.cell? ⟨gb438, 3, none⟩ = some (.bool a1_3) := (blk_cell BK438.out 3).trans rfl; have hfz28_0 := blk_frozen BK438.out 0; have hfz28_1 := blk_frozen BK438.out 1; have hfz28_2 := blk_frozen BK438.out 2; have hfz28_3 := blk_frozen BK438.out 3) | (refine gl (some 18) Tryd.func55 #[.string a0_1, .string a1_0] ?_; (with_reducible refine (newelref05_Compare.calls k a0_1 a1_0 t439 _ (gS HG) A14.out).mono ?_); rintro e w29 ⟨rfl, hb⟩; refine ⟨_, rfl, ?_⟩; replace BK437 := kB BK437 hb; replace BK438 := kB BK438 hb; replace HB := sB hb; (try clear hb); have hcz30_0 : w29.cell? ⟨gb437, 0, none⟩ = some (.string a0_0) := (blk_cell BK437.out 0).trans rfl; have hcz30_1 : w29.cell? ⟨gb437, 1, none⟩ = some (.string a0_1) := (blk_cell BK437.out 1).trans rfl; have hcz30_2 : w29.cell? ⟨gb437, 2, none⟩ = some (.bool a0_2) := (blk_cell BK437.out 2).trans rfl; have hcz30_3 : w29.cell? ⟨gb437, 3, none⟩ = some (.bool true) := (blk_cell BK437.out 3).trans rfl; have hfz30_0 := blk_frozen BK437.out 0; have hfz30_1 := blk_frozen BK437.out 1; have hfz30_2 := blk_frozen BK437.out 2; have hfz30_3 := blk_frozen BK437.out 3; have hcz31_0 : w29.cell? ⟨gb438, 0, none⟩ = some (.string a1_0) := (blk_cell BK438.out 0).trans rfl; have hcz31_1 : w29.cell? ⟨gb438, 1, none⟩ = some (.string a1_1) := (blk_cell BK438.out 1).trans rfl; have hcz31_2 : w29.cell? ⟨gb438, 2, none⟩ = some (.bool a1_2) := (blk_cell BK438.out 2).trans rfl; have hcz31_3 : w29.cell? ⟨gb438, 3, none⟩ = some (.bool a1_3) := (blk_cell BK438.out 3).trans rfl; have hfz31_0 := blk_frozen BK438.out 0; have hfz31_1 := blk_frozen BK438.out 1; have hfz31_2 := blk_frozen BK438.out 2; have hfz31_3 := blk_frozen BK438.out 3))
  go_ret
  exact ⟨eA, bG⟩
 replace c23 := Bool.eq_false_iff.mpr c23
 subst c23
 have H1 : (some (!false)) = some r := by rw [if_neg (show ¬ (false = true) by decide)] at H; exact H
 clear H
 have H := H1
 clear H1
 obtain rfl := Option.some.inj H
 go_enter Tryd.func90, Tryd.ntmps90
 go_wp2_with (first | (refine be 2 #[.string a0_0, .string a0_1, .bool a0_2, .bool false] 58 ?_; intro gb437 hg w32 hbox hb; have BK437 := Aside0.mk (hbox); have GW437 := gW hg; have GE437 := gW hg; replace HB := sB hb; clear hb hbox hg) | (refine be 3 #[.string a1_0, .string a1_1, .bool a1_2, .bool a1_3] 58 ?_; intro gb438 hg w33 hbox hb; have BK438 := Aside0.mk (hbox); have GW438 := gW hg; have GE438 := gW hg; replace HB := sB hb; have NB437_438 := nL BK437 hg; have NB438_437 := nG BK437 hg; replace BK437 := kB BK437 hb; clear hb hbox hg; have hnb34 := NB437_438.out; have hnc34 := NB438_437.out; have hcz35_0 : w33.cell? ⟨gb437, 0, none⟩ = some (.string a0_0) := (blk_cell BK437.out 0).trans rfl; have hcz35_1 : w33.cell? ⟨gb437, 1, none⟩ = some (.string a0_1) := (blk_cell BK437.out 1).trans rfl; have hcz35_2 : w33.cell? ⟨gb437, 2, none⟩ = some (.bool a0_2) := (blk_cell BK437.out 2).trans rfl; have hcz35_3 : w33.cell? ⟨gb437, 3, none⟩ = some (.bool false) := (blk_cell BK437.out 3).trans rfl; have hfz35_0 := blk_frozen BK437.out 0; have hfz35_1 := blk_frozen BK437.out 1; have hfz35_2 := blk_frozen BK437.out 2; have hfz35_3 := blk_frozen BK437.out 3; have hcz36_0 : w33.cell? ⟨gb438, 0, none⟩ = some (.string a1_0) := (blk_cell BK438.out 0).trans rfl; have hcz36_1 : w33.cell? ⟨gb438, 1, none⟩ = some (.string a1_1) := (blk_cell BK438.out 1).trans rfl; have hcz36_2 : w33.cell? ⟨gb438, 2, none⟩ = some (.bool a1_2) := (blk_cell BK438.out 2).trans rfl; have hcz36_3 : w33.cell? ⟨gb438, 3, none⟩ = some (.bool a1_3) := (blk_cell BK438.out 3).trans rfl; have hfz36_0 := blk_frozen BK438.out 0; have hfz36_1 := blk_frozen BK438.out 1; have hfz36_2 := blk_frozen BK438.out 2; have hfz36_3 := blk_frozen BK438.out 3) | (refine gl (some 18) Tryd.func55 #[.string a0_1, .string a1_0] ?_; (with_reducible refine (newelref05_Compare.calls k a0_1 a1_0 t439 _ (gS HG) A14.out).mono ?_); rintro e w37 ⟨rfl, hb⟩; refine ⟨_, rfl, ?_⟩; replace BK437 := kB BK437 hb; replace BK438 := kB BK438 hb; replace HB := sB hb; (try clear hb); have hcz38_0 : w37.cell? ⟨gb437, 0, none⟩ = some (.string a0_0) := (blk_cell BK437.out 0).trans rfl; have hcz38_1 : w37.cell? ⟨gb437, 1, none⟩ = some (.string a0_1) := (blk_cell BK437.out 1).trans rfl; have hcz38_2 : w37.cell? ⟨gb437, 2, none⟩ = some (.bool a0_2) := (blk_cell BK437.out 2).trans rfl; have hcz38_3 : w37.cell? ⟨gb437, 3, none⟩ = some (.bool false) := (blk_cell BK437.out 3).trans rfl; have hfz38_0 := blk_frozen BK437.out 0; have hfz38_1 := blk_frozen BK437.out 1; have hfz38_2 := blk_frozen BK437.out 2; have hfz38_3 := blk_frozen BK437.out 3))
 go_ret
 exact ⟨eA, bG⟩
mutual
def newelref05_Parse.l0 : Nat → ByteArray → List (S58) → Option ((List (S58)) × Int)
 | 0, _, _ => none
 | k + 1, x0, x4 => newelref05_Parse.l1 k x0 x4 0
def newelref05_Parse.j2 : Nat → ByteArray → List (S58) → Int → Option ((List (S58)) × Int)
 | 0, _, _, _ => none
 | k + 1, x0, x4, x5 => (newelref05_Is.f x0).bind fun t440 => (if t440 = true then (newelref05_Parse.j3 k x0 x4 x5 (x5 == (x0.size : Int))) else (newelref05_Parse.j3 k x0 x4 x5 true))
def newelref05_Parse.j3 : Nat → ByteArray → List (S58) → Int → Bool → Option ((List (S58)) × Int)
 | 0, _, _, _, _ => none
 | k + 1, x0, x4, x5, x34 => if x34 = true then (some (([] : List (S58)), 12)) else (if 1 ≤ x5 then (if x5 ≤ (x0.size : Int) then (if 0 < (x0.size : Int) then (if 0 ≤ x5 then (if x5 < (x0.size : Int) then ((newelref05_span.f k (x0.extract 1 (x5 : Int).toNat) (bt x0 0) (bt x0 x5)).bind fun bt441 => (if bt441.2.2.2.2 = true then ((newelref05_May.f k bt441.1 bt441.2.1 bt441.2.2.1 bt441.2.2.2.1).bind fun t447 => (if t447 = true then (if (x4.length : Int) > 0 then (if 0 ≤ (wrap64 ((x4.length : Int) - 1)) then (if (wrap64 ((x4.length : Int) - 1)) < (x4.length : Int) then ((newelref05_behind.f k ((rd_T58 x4 (wrap64 ((x4.length : Int) - 1))).f0) ((rd_T58 x4 (wrap64 ((x4.length : Int) - 1))).f1) ((rd_T58 x4 (wrap64 ((x4.length : Int) - 1))).f2) ((rd_T58 x4 (wrap64 ((x4.length : Int) - 1))).f3) bt441.1 bt441.2.1 bt441.2.2.1 bt441.2.2.2.1).bind fun t449 => (if t449 = true then (newelref05_Parse.j4 k x0 x4 x5 (decide ((x4.length : Int) ≥ 20)) bt441.1 bt441.2.1 bt441.2.2.1 bt441.2.2.2.1) else (newelref05_Parse.j4 k x0 x4 x5 true bt441.1 bt441.2.1 bt441.2.2.1 bt441.2.2.2.1))) else (none)) else (none)) else (newelref05_Parse.j4 k x0 x4 x5 (decide ((x4.length : Int) ≥ 20)) bt441.1 bt441.2.1 bt441.2.2.1 bt441.2.2.2.1)) else (newelref05_Parse.j4 k x0 x4 x5 true bt441.1 bt441.2.1 bt441.2.2.1 bt441.2.2.2.1))) else (newelref05_Parse.j4 k x0 x4 x5 true bt441.1 bt441.2.1 bt441.2.2.1 bt441.2.2.2.1))) else (none)) else (none)) else (none)) else (none)) else (none))
def newelref05_Parse.j4 : Nat → ByteArray → List (S58) → Int → Bool → ByteArray → ByteArray → Bool → Bool → Option ((List (S58)) × Int)
 | 0, _, _, _, _, _, _, _, _ => none
 | k + 1, x0, x4, x5, x74, x447000, x447001, x447002, x447003 => if x74 = true then (some (([] : List (S58)), 12)) else (if x4.length < 3518437208883 then ((some (x4 ++ [(⟨x447000, x447001, x447002, x447003⟩ : S58)] : List (S58))).bind fun y450 => (if 0 ≤ (wrap64 (x5 + 1)) then (if (wrap64 (x5 + 1)) ≤ (x0.size : Int) then (if (x0.extract ((wrap64 (x5 + 1)) : Int).toNat x0.size).toList = ([] : List UInt8) then (some (y450, 0)) else (if 0 < ((x0.extract ((wrap64 (x5 + 1)) : Int).toNat x0.size).size : Int) then (if (bt (x0.extract ((wrap64 (x5 + 1)) : Int).toNat x0.size) 0) = 44 then (if 1 ≤ ((x0.extract ((wrap64 (x5 + 1)) : Int).toNat x0.size).size : Int) then (newelref05_Parse.l0 k ((x0.extract ((wrap64 (x5 + 1)) : Int).toNat x0.size).extract 1 (x0.extract ((wrap64 (x5 + 1)) : Int).toNat x0.size).size) y450) else (none)) else (some (([] : List (S58)), 12))) else (none))) else (none)) else (none))) else (none))
def newelref05_Parse.l1 : Nat → ByteArray → List (S58) → Int → Option ((List (S58)) × Int)
 | 0, _, _, _ => none
 | k + 1, x0, x4, x5 => if x5 < (x0.size : Int) then (if 0 ≤ x5 then (if (bt x0 x5) = 93 then (newelref05_Parse.j2 k x0 x4 x5) else (if (bt x0 x5) = 41 then (newelref05_Parse.j2 k x0 x4 x5) else (newelref05_Parse.l1 k x0 x4 (wrap64 (x5 + 1))))) else (none)) else (newelref05_Parse.j2 k x0 x4 x5)
end
def newelref05_Parse.f (k : Nat) (a0 : ByteArray) : Option ((List (S58)) × Int) := newelref05_Parse.l0 k a0 ([] : List (S58))
theorem newelref05_Parse.mono_l : ∀ k, (∀ y0 y1, LeO (newelref05_Parse.l0 k y0 y1) (newelref05_Parse.l0 (k + 1) y0 y1)) ∧ (∀ y0 y1 y2, LeO (newelref05_Parse.j2 k y0 y1 y2) (newelref05_Parse.j2 (k + 1) y0 y1 y2)) ∧ (∀ y0 y1 y2 y3, LeO (newelref05_Parse.j3 k y0 y1 y2 y3) (newelref05_Parse.j3 (k + 1) y0 y1 y2 y3)) ∧ (∀ y0 y1 y2 y3 y4 y5 y6 y7, LeO (newelref05_Parse.j4 k y0 y1 y2 y3 y4 y5 y6 y7) (newelref05_Parse.j4 (k + 1) y0 y1 y2 y3 y4 y5 y6 y7)) ∧ (∀ y0 y1 y2, LeO (newelref05_Parse.l1 k y0 y1 y2) (newelref05_Parse.l1 (k + 1) y0 y1 y2))
 | 0 => ⟨fun _ _ r h => by simp [newelref05_Parse.l0] at h, fun _ _ _ r h => by simp [newelref05_Parse.j2] at h, fun _ _ _ _ r h => by simp [newelref05_Parse.j3] at h, fun _ _ _ _ _ _ _ _ r h => by simp [newelref05_Parse.j4] at h, fun _ _ _ r h => by simp [newelref05_Parse.l1] at h⟩
 | k + 1 => by
  obtain ⟨ih0, ih1, ih2, ih3, ih4⟩ := newelref05_Parse.mono_l k
  refine ⟨?_, ?_, ?_, ?_, ?_⟩
  ·intro y0 y1
   unfold newelref05_Parse.l0
   have m0 := @newelref05_May.mono
   have m1 := @newelref05_behind.mono
   have m2 := @newelref05_span.mono
   exact mo
  ·intro y0 y1 y2
   unfold newelref05_Parse.j2
   have m0 := @newelref05_May.mono
   have m1 := @newelref05_behind.mono
   have m2 := @newelref05_span.mono
   exact mo
  ·intro y0 y1 y2 y3
   unfold newelref05_Parse.j3
   have m0 := @newelref05_May.mono
   have m1 := @newelref05_behind.mono
   have m2 := @newelref05_span.mono
   exact mo
  ·intro y0 y1 y2 y3 y4 y5 y6 y7
   unfold newelref05_Parse.j4
   have m0 := @newelref05_May.mono
   have m1 := @newelref05_behind.mono
   have m2 := @newelref05_span.mono
   exact mo
  ·intro y0 y1 y2
   unfold newelref05_Parse.l1
   have m0 := @newelref05_May.mono
   have m1 := @newelref05_behind.mono
   have m2 := @newelref05_span.mono
   exact mo
theorem newelref05_Parse.mono : ∀ a0 k, LeO (newelref05_Parse.f k a0) (newelref05_Parse.f (k + 1) a0) := by
 intro a0 k
 obtain ⟨ih0, ih1, ih2, ih3, ih4⟩ := newelref05_Parse.mono_l k
 unfold newelref05_Parse.f
 have m0 := @newelref05_May.mono
 have m1 := @newelref05_behind.mono
 have m2 := @newelref05_span.mono
 exact mo
def newelref05_Parse.T7 : Bool × List (List Nat × List Nat) := (true, [([], []), ([], []), ([0, 1], [0, 1]), ([], []), ([3], [3]), ([], []), ([], []), ([5, 6], [5, 6]), ([2, 4, 7], [2, 4, 7]), ([8], [8]), ([9], [9]), ([9], [9]), ([], []), ([12, 10, 8, 0, 1, 2, 3, 4, 5, 6, 7, 8, 9, 10, 12], [10, 12]), ([11, 13, 0, 1, 2, 3, 4, 5, 6, 7, 8, 9, 10, 11, 12, 13], [11])])
def newelref05_Parse.B7 : List Nat := [0, 0, 3, 0, 8, 0, 0, 96, 255, 511, 1023, 1023, 0, 6143, 16383]
theorem newelref05_Parse.tab7 : rtab .any (opsOf Tryd.f52 7) = newelref05_Parse.T7 := by kernel_rfl
theorem newelref05_Parse.bits7 : waitsOk newelref05_Parse.T7.2 newelref05_Parse.B7 = true := by kernel_rfl
def newelref05_Parse.T8 : Bool × List (List Nat × List Nat) := (true, [([], []), ([0], [0]), ([1], [1]), ([2], [2]), ([3, 2, 2], [2, 3]), ([4, 2], [2, 4]), ([2, 5], [2, 5]), ([6, 4], [6]), ([7], [7]), ([8, 7], [7, 8]), ([9, 7], [7, 9]), ([10, 7, 7], [7, 10]), ([11], [11]), ([11], [11]), ([13, 11], [11, 13]), ([14, 11], [11, 14]), ([12, 15, 11], [11, 12, 15]), ([16, 11], [11, 16]), ([11], [11]), ([17, 18, 11, 11], [11, 17, 18]), ([19, 11], [11, 19]), ([11, 20, 7], [7, 11, 20]), ([7, 21], [7, 21]), ([22, 19], [22]), ([23], [23]), ([24, 23], [23, 24]), ([25, 23], [23, 25]), ([23, 26], [23, 26])])
def newelref05_Parse.B8 : List Nat := [0, 1, 3, 7, 15, 31, 63, 127, 255, 511, 1023, 2047, 4095, 4095, 12287, 28671, 65535, 131071, 4095, 524287, 1048575, 2097151, 4194303, 8388607, 16777215, 33554431, 67108863, 134217727]
theorem newelref05_Parse.tab8 : rtab .any (opsOf Tryd.f52 8) = newelref05_Parse.T8 := by kernel_rfl
theorem newelref05_Parse.bits8 : waitsOk newelref05_Parse.T8.2 newelref05_Parse.B8 = true := by kernel_rfl
theorem newelref05_Parse.calls (k : Nat) (a0 : ByteArray) (r1 : List (S58)) (r2 : Int) (w : World) (hG : Glob w) (h : newelref05_Parse.f k a0 = some (r1, r2)) :
 Calls Tryd.prog 52 #[.string a0] w fun e w' => ∃ v0_ : Value, e = .returned (.tuple #[v0_, .int .i64 r2]) ∧ Kd.R k58 58 w' w.heap.size (fun _ => True) v0_ r1 ∧ Below w.heap.size w w' := by
 have hu58 := Tryd.underlying58
 have HG := Aside0.mk hG
 clear hG
 have HB := Aside0.mk (Below.refl w.heap.size w)
 have H : (newelref05_Parse.l0 k a0 ([] : List (S58))) = some (r1, r2) := h
 clear h
 have H' := Aside0.mk H
 clear H
 go_enter Tryd.func52, Tryd.ntmps52
 go_wp2
 go_loopg [0, 4] k (fun kq v0 v4 w' => ∃ (x0_1 : ByteArray) (x4_1 : List (S58)), v0 = .string x0_1 ∧ Aside0 (newelref05_Parse.l0 kq x0_1 x4_1 = some (r1, r2)) ∧ Aside0 (kq ≤ k) ∧ Aside0 (Kd.R k58 58 w' w.heap.size (fun _ => True) v4 x4_1) ∧ Aside0 (Below w.heap.size w w'))
 case atStart => exact ⟨(a0), (([] : List (S58))), cA, H', ⟨Nat.le_refl _⟩, ⟨by first | exact Kd.R_nil _ _ _ _ _ | exact Kd.N_nil _ _ _ _ _ | exact Kd.V_nil _ _ _ _ _ | exact Kd.Q_nil _ _ _ _ _ | exact Kd.S_nil _ _ _ _ _⟩, ⟨bE⟩⟩
 clear H'
 obtain ⟨x0_1, x4_1, rfl, HA, HK1, HO_4, HB⟩ := hrel
 cases gk with
 | zero => exact absurd HA.out (by simp [newelref05_Parse.l0])
 | succ k1 =>
  have H := HA.out
  clear HA
  simp only [newelref05_Parse.l0] at H
  have HC2 := Aside0.mk H
  clear H
  go_upto_block 2 with (fail)
  go_cut [5] (fun v5 wc => ∃ (kq : Nat) (x5_1 : Int), v5 = .int .i64 x5_1 ∧ Aside0 (newelref05_Parse.j2 kq x0_1 x4_1 x5_1 = some (r1, r2)) ∧ Aside0 (kq ≤ k1) ∧ Aside0 (Kd.R k58 58 wc w.heap.size (fun _ => True) u4 x4_1) ∧ Aside0 (Below w.heap.size w wc))
  case first =>
   have H := HC2.out
   clear HC2
   have H' := Aside0.mk H
   clear H
   go_wp2
   go_loopg [5] k1 (fun kq v5 w' => ∃ (x5_2 : Int), v5 = .int .i64 x5_2 ∧ Aside0 (newelref05_Parse.l1 kq x0_1 x4_1 x5_2 = some (r1, r2)) ∧ Aside0 (kq ≤ k1) ∧ Aside0 (Kd.R k58 58 w' w.heap.size (fun _ => True) u4 x4_1) ∧ Aside0 (Below w.heap.size w w'))
   case atStart => exact ⟨(0), cA, H', ⟨Nat.le_refl _⟩, ⟨kR HO_4⟩, ⟨bE⟩⟩
   clear H'
   try clear p2
   obtain ⟨x5_2, rfl, HA, HK2, HO_4, HB⟩ := hrel
   cases gk with
   | zero => exact absurd HA.out (by simp [newelref05_Parse.l1])
   | succ k2 =>
    have H := HA.out
    clear HA
    simp only [newelref05_Parse.l1] at H
    by_cases c3 : x5_2 < (x0_1.size : Int)
    rotate_left
    ·rw [if_neg c3] at H
     have c3b0 := dF c3
     clear c3
     (first | rw [c3b0] | (simp only [i64_w, i32_w]; rw [c3b0]) | skip)
     have H' := Aside0.mk H
     clear H
     go_wp2
     go_meet
     case rel => exact ⟨_, (x5_2), cA, H', ⟨by have := HK1.out; have := HK2.out; first | omega | exact Nat.le_refl _⟩, ⟨kR HO_4⟩, ⟨bE⟩⟩
    rw [if_pos c3] at H
    have c3b0 := dT c3
    clear c3
    (first | rw [c3b0] | (simp only [i64_w, i32_w]; rw [c3b0]) | skip)
    by_cases c4 : 0 ≤ x5_2
    rotate_left
    ·rw [if_neg c4] at H
     exact absurd H (by simp)
    rw [if_pos c4] at H
    have c4b0 := dT c4
    clear c4
    by_cases c6 : (bt x0_1 x5_2) = 93
    ·rw [if_pos c6] at H
     obtain ⟨c6b0, c6b1⟩ := eqT c6
     clear c6
     have H' := Aside0.mk H
     clear H
     have p5 : 0 ≤ (x5_2 : Int) := dA
     have q5 : x5_2 < (x0_1.size : Int) := dA
     have hx5 := bt_at x0_1 x5_2
     replace p5 := eq_true p5
     replace q5 := eq_true q5
     go_wp2
     go_meet
     case rel => exact ⟨_, (x5_2), cA, H', ⟨by have := HK1.out; have := HK2.out; first | omega | exact Nat.le_refl _⟩, ⟨kR HO_4⟩, ⟨bE⟩⟩
    rw [if_neg c6] at H
    obtain ⟨c6b0, c6b1⟩ := eqF c6
    by_cases c8 : (bt x0_1 x5_2) = 41
    rotate_left
    ·rw [if_neg c8] at H
     obtain ⟨c8b0, c8b1⟩ := eqF c8
     have H' := Aside0.mk H
     clear H
     have p5 : 0 ≤ (x5_2 : Int) := dA
     have q5 : x5_2 < (x0_1.size : Int) := dA
     have hx5 := bt_at x0_1 x5_2
     replace p5 := eq_true p5
     replace q5 := eq_true q5
     have p7 : 0 ≤ (x5_2 : Int) := dA
     have q7 : x5_2 < (x0_1.size : Int) := dA
     have hx7 := bt_at x0_1 x5_2
     replace p7 := eq_true p7
     replace q7 := eq_true q7
     go_wp2
     go_roundg k2
     case measure => have := HK1.out; have := HK2.out; omega
     case rel => exact ⟨(wrap64 (x5_2 + 1)), cA, H', ⟨by have := HK1.out; have := HK2.out; omega⟩, ⟨kR HO_4⟩, ⟨bE⟩⟩
    rw [if_pos c8] at H
    obtain ⟨c8b0, c8b1⟩ := eqT c8
    clear c8
    have H' := Aside0.mk H
    clear H
    have p5 : 0 ≤ (x5_2 : Int) := dA
    have q5 : x5_2 < (x0_1.size : Int) := dA
    have hx5 := bt_at x0_1 x5_2
    replace p5 := eq_true p5
    replace q5 := eq_true q5
    have p7 : 0 ≤ (x5_2 : Int) := dA
    have q7 : x5_2 < (x0_1.size : Int) := dA
    have hx7 := bt_at x0_1 x5_2
    replace p7 := eq_true p7
    replace q7 := eq_true q7
    go_wp2
    go_meet
    case rel => exact ⟨_, (x5_2), cA, H', ⟨by have := HK1.out; have := HK2.out; first | omega | exact Nat.le_refl _⟩, ⟨kR HO_4⟩, ⟨bE⟩⟩
  clear HC2
  try clear p2
  try clear c3
  try clear c3b0
  try clear c4
  try clear c4b0
  try clear c5
  try clear p5
  try clear q5
  try clear hx5
  try clear c6
  try clear c6b0
  try clear c6b1
  try clear p6
  try clear p7
  try clear q7
  try clear hx7
  try clear c8
  try clear c8b0
  try clear c8b1
  try clear p2
  try clear p5
  try clear p7
  try clear q5
  try clear q7
  obtain ⟨kq, x5_1, rfl, HA, HJ1, HO_4, HB⟩ := hcut
  cases kq with
  | zero => exact absurd HA.out (by simp [newelref05_Parse.j2])
  | succ kj1 =>
   have H := HA.out
   clear HA
   simp only [newelref05_Parse.j2] at H
   have HC9 := Aside0.mk H
   clear H
   go_upto_region 5 with (fail)
   go_cut [34] (fun v34 wc => ∃ (kq : Nat) (x34_8 : Bool), v34 = .bool x34_8 ∧ Aside0 (newelref05_Parse.j3 kq x0_1 x4_1 x5_1 x34_8 = some (r1, r2)) ∧ Aside0 (kq ≤ kj1) ∧ Aside0 (Kd.R k58 58 wc w.heap.size (fun _ => True) u4 x4_1) ∧ Aside0 (Below w.heap.size w wc))
   case first =>
    have H := HC9.out
    clear HC9
    replace H := bi H
    obtain ⟨t440, A100, H⟩ := H
    try dsimp only at H
    have A10 := Aside0.mk A100
    clear A100
    by_cases c11 : t440 = true
    ·subst c11
     have H1 : (newelref05_Parse.j3 kj1 x0_1 x4_1 x5_1 (x5_1 == (x0_1.size : Int))) = some (r1, r2) := by rw [if_pos rfl] at H; exact H
     clear H
     have H := H1
     clear H1
     have H' := Aside0.mk H
     clear H
     go_wp2_with (first | (refine gl (some 27) Tryd.func51 #[.string x0_1] ?_; (with_reducible refine (newelref05_Is.calls x0_1 true _ (gS HG) A10.out).mono ?_); rintro e w' ⟨rfl, ⟨nd, rfl⟩⟩; refine ⟨_, rfl, ?_⟩))
     go_meet
     case rel => exact ⟨_, ((x5_1 == (x0_1.size : Int))), cA, H', ⟨by have := HK1.out; have := HJ1.out; first | omega | exact Nat.le_refl _⟩, ⟨kR HO_4⟩, ⟨bE⟩⟩
    replace c11 := Bool.eq_false_iff.mpr c11
    subst c11
    have H1 : (newelref05_Parse.j3 kj1 x0_1 x4_1 x5_1 true) = some (r1, r2) := by rw [if_neg (show ¬ (false = true) by decide)] at H; exact H
    clear H
    have H := H1
    clear H1
    have H' := Aside0.mk H
    clear H
    go_wp2_with (first | (refine gl (some 27) Tryd.func51 #[.string x0_1] ?_; (with_reducible refine (newelref05_Is.calls x0_1 false _ (gS HG) A10.out).mono ?_); rintro e w' ⟨rfl, ⟨nd, rfl⟩⟩; refine ⟨_, rfl, ?_⟩))
    go_meet
    case rel => exact ⟨_, (true), cA, H', ⟨by have := HK1.out; have := HJ1.out; first | omega | exact Nat.le_refl _⟩, ⟨kR HO_4⟩, ⟨bE⟩⟩
   clear HC9
   try clear c1
   try clear p2
   try clear c3
   try clear c3b0
   try clear c4
   try clear c4b0
   try clear c5
   try clear p5
   try clear q5
   try clear hx5
   try clear c6
   try clear c6b0
   try clear c6b1
   try clear p6
   try clear p7
   try clear q7
   try clear hx7
   try clear c8
   try clear c8b0
   try clear c8b1
   try clear c11
   try clear p2
   try clear p5
   try clear p6
   try clear p7
   try clear q5
   try clear q7
   obtain ⟨kq, x34_8, rfl, HA, HJ8, HO_4, HB⟩ := hcut
   cases kq with
   | zero => exact absurd HA.out (by simp [newelref05_Parse.j3])
   | succ kj8 =>
    have H := HA.out
    clear HA
    simp only [newelref05_Parse.j3] at H
    by_cases c12 : x34_8 = true
    ·subst c12
     have H1 : (some (([] : List (S58)), 12)) = some (r1, r2) := by rw [if_pos rfl] at H; exact H
     clear H
     have H := H1
     clear H1
     simp only [Option.some.injEq, Prod.mk.injEq] at H
     obtain ⟨rfl, rfl⟩ := H
     go_wp2
     go_ret2
     exact ⟨_, by first | rfl | (simp [errW_none, errW_some] <;> rfl) | (simp [*, errW_none, errW_some] <;> rfl), by first | exact Kd.R_nil _ _ _ _ _ | exact Kd.N_nil _ _ _ _ _ | exact Kd.V_nil _ _ _ _ _ | exact Kd.Q_nil _ _ _ _ _ | exact Kd.S_nil _ _ _ _ _, bE⟩
    replace c12 := Bool.eq_false_iff.mpr c12
    subst c12
    have H1 : (if 1 ≤ x5_1 then (if x5_1 ≤ (x0_1.size : Int) then (if 0 < (x0_1.size : Int) then (if 0 ≤ x5_1 then (if x5_1 < (x0_1.size : Int) then ((newelref05_span.f kj8 (x0_1.extract 1 (x5_1 : Int).toNat) (bt x0_1 0) (bt x0_1 x5_1)).bind fun bt441 => (if bt441.2.2.2.2 = true then ((newelref05_May.f kj8 bt441.1 bt441.2.1 bt441.2.2.1 bt441.2.2.2.1).bind fun t447 => (if t447 = true then (if (x4_1.length : Int) > 0 then (if 0 ≤ (wrap64 ((x4_1.length : Int) - 1)) then (if (wrap64 ((x4_1.length : Int) - 1)) < (x4_1.length : Int) then ((newelref05_behind.f kj8 ((rd_T58 x4_1 (wrap64 ((x4_1.length : Int) - 1))).f0) ((rd_T58 x4_1 (wrap64 ((x4_1.length : Int) - 1))).f1) ((rd_T58 x4_1 (wrap64 ((x4_1.length : Int) - 1))).f2) ((rd_T58 x4_1 (wrap64 ((x4_1.length : Int) - 1))).f3) bt441.1 bt441.2.1 bt441.2.2.1 bt441.2.2.2.1).bind fun t449 => (if t449 = true then (newelref05_Parse.j4 kj8 x0_1 x4_1 x5_1 (decide ((x4_1.length : Int) ≥ 20)) bt441.1 bt441.2.1 bt441.2.2.1 bt441.2.2.2.1) else (newelref05_Parse.j4 kj8 x0_1 x4_1 x5_1 true bt441.1 bt441.2.1 bt441.2.2.1 bt441.2.2.2.1))) else (none)) else (none)) else (newelref05_Parse.j4 kj8 x0_1 x4_1 x5_1 (decide ((x4_1.length : Int) ≥ 20)) bt441.1 bt441.2.1 bt441.2.2.1 bt441.2.2.2.1)) else (newelref05_Parse.j4 kj8 x0_1 x4_1 x5_1 true bt441.1 bt441.2.1 bt441.2.2.1 bt441.2.2.2.1))) else (newelref05_Parse.j4 kj8 x0_1 x4_1 x5_1 true bt441.1 bt441.2.1 bt441.2.2.1 bt441.2.2.2.1))) else (none)) else (none)) else (none)) else (none)) else (none)) = some (r1, r2) := by rw [if_neg (show ¬ (false = true) by decide)] at H; exact H
    clear H
    have H := H1
    clear H1
    by_cases c13 : 1 ≤ x5_1
    rotate_left
    ·rw [if_neg c13] at H
     exact absurd H (by simp)
    rw [if_pos c13] at H
    have c13b0 := eq_true c13
    have c13b1 := dT c13
    clear c13
    by_cases c14 : x5_1 ≤ (x0_1.size : Int)
    rotate_left
    ·rw [if_neg c14] at H
     exact absurd H (by simp)
    rw [if_pos c14] at H
    have c14b0 := eq_true c14
    have c14b1 := dT c14
    clear c14
    by_cases c15 : 0 < (x0_1.size : Int)
    rotate_left
    ·rw [if_neg c15] at H
     exact absurd H (by simp)
    rw [if_pos c15] at H
    have c15b0 := dT c15
    have c15b1 : decide (0 < x0_1.size) = true := decide_eq_true (by omega)
    clear c15
    by_cases c17 : 0 ≤ x5_1
    rotate_left
    ·rw [if_neg c17] at H
     exact absurd H (by simp)
    rw [if_pos c17] at H
    have c17b0 := dT c17
    clear c17
    by_cases c18 : x5_1 < (x0_1.size : Int)
    rotate_left
    ·rw [if_neg c18] at H
     exact absurd H (by simp)
    rw [if_pos c18] at H
    have c18b0 := dT c18
    clear c18
    replace H := bi H
    obtain ⟨⟨t441, t442, t443, t444, t445⟩, A200, H⟩ := H
    try dsimp only at H
    have A20 := Aside0.mk A200
    clear A200
    have HC21 := Aside0.mk H
    clear H
    try go_wp2
    replace HO_4 := Aside0.mk (Kd.R_drew HO_4.out)
    replace HB := Aside0.mk (below_drew1 HB.out)
    have p16 : 0 ≤ (0 : Int) := (by omega)
    have q16 : 0 < x0_1.size := (by have : (0 : Int) < (x0_1.size : Int) := dA; omega)
    have hx16 : ∀ h : 0 < x0_1.size, ((x0_1[0]'h).toNat : Int) = bt x0_1 0 := bt_at x0_1 0
    clear p16
    have qi16 : (0 < (x0_1.size : Int)) = True := eq_true (dA)
    replace q16 := eq_true q16
    have p19 : 0 ≤ (x5_1 : Int) := dA
    have q19 : x5_1 < (x0_1.size : Int) := dA
    have hx19 := bt_at x0_1 x5_1
    replace p19 := eq_true p19
    replace q19 := eq_true q19
    refine start_ (n := 15) (S := fun w' => True) (ds := []) #[false, false, false, false, false, false, false, false, false, false, false, false, false, false, false] (by kernel_rfl) rfl rfl trivial (fun hHeld => ?_); refine with_tabW newelref05_Parse.tab7 newelref05_Parse.bits7 (fun HT_ HW_ => ?_)
    generalize wc.drew = w22 at HO_4 HB hHeld ⊢
    refine pz 0 (some 36) HT_ ?_
    refine pz 1 (some 37) HT_ ?_
    refine pz 2 (some 38) HT_ ?_
    refine pz 3 (some 39) HT_ ?_
    refine pz 5 (some 41) HT_ ?_
    refine pz 6 (some 42) HT_ ?_
    refine tk 4 (some 40) HT_ HW_ hHeld ?_
    refine tk 7 (some 43) HT_ HW_ hHeld ?_
    refine join_ (σ := Nat) 2 #[true, true, true, true, true, true, true, true, true, true, true, true, true, false, false] (fun s_ => [(44, .tuple #[.agg #[.string t441, .string t442, .bool t443, .bool t444], .bool t445]), (6, .pointer (some ⟨s_, 0, none⟩)), (35, .tuple #[.agg #[.string t441, .string t442, .bool t443, .bool t444], .bool t445]), (45, .agg #[.string t441, .string t442, .bool t443, .bool t444]), (46, .bool t445)]) (fun s_ w' => (Kd.R k58 58 w' w.heap.size (fun k_ => k_ ≠ s_) u4 x4_1) ∧ (w'.heap[s_]? = some (.cells #[.string (⟨#[]⟩ : ByteArray), .string (⟨#[]⟩ : ByteArray), .bool false, .bool false] 58 (0, 0))) ∧ (w.heap.size ≤ s_) ∧ (w.heap.size ≤ s_) ∧ (Below w.heap.size w w')) ?_ ?_
    rotate_left
    ·intro hCont
     refine two_ (i := 8) (j := 12) (Ni := some 44) (Nj := some 6) #[true, true, true, true, true, true, true, true, true, false, false, false, false, false, false] #[true, true, true, true, true, true, true, true, false, false, false, false, true, false, false] rfl rfl rfl rfl (two_of HT_.out (by kernel_rfl)) (by decide) (by decide) (fun K hK => ?_) (fun K hK => ?_)
     ·skip
      refine goes_ Tryd.func88 (by kernel_rfl) rfl #[.string (x0_1.extract 1 (x5_1 : Int).toNat), .int .u8 (bt x0_1 0), .int .u8 (bt x0_1 x5_1)] (by rfl) rfl rfl mA ?_
      with_reducible refine (newelref05_span.calls kj8 (x0_1.extract 1 (x5_1 : Int).toNat) (bt x0_1 0) (bt x0_1 x5_1) t441 t442 t443 t444 t445 _ (gS HG) A20.out).mono ?_
      rintro e w23 ⟨rfl, hb⟩
      refine ⟨_, rfl, ?_⟩
      replace HO_4 := rB HO_4 hb
      replace HB := sB hb
      (try clear hb)
      refine hK.out _ _ trivial (fun hHeld => ?_)
      clear hK K
      refine nz (some 44) ?_
      refine pz 9 (some 35) HT_ ?_
      refine pz 10 (some 45) HT_ ?_
      refine pz 11 (some 46) HT_ ?_
      refine on 12 (some 6) HT_ (fun K hK => ?_)
      refine bs 6 #[.string (⟨#[]⟩ : ByteArray), .string (⟨#[]⟩ : ByteArray), .bool false, .bool false] 58 ?_
      intro gb446 hg w24 hbox hb
      replace HO_4 := Aside0.mk (Kd.R_below (Kd.R_elderB (kR HO_4) gb446 (Nat.le_of_eq hg.symm)) hb)
      have BK446 := Aside0.mk (hbox)
      have GW446 := gW hg
      have GE446 := gW hg
      replace HB := sB hb
      clear hb hbox hg
      refine hK.out _ _ trivial (fun hHeld => ?_)
      clear hK K
      refine nz (some 6) ?_
      exact norm_ (by simp only [putAll, Act.put, List.setIfInBounds_toArray, List.set_cons_zero, List.set_cons_succ]) (hCont (gb446) _ ⟨(by (with_reducible repeat (first | apply Kd.R_alloc | apply Kd.R_drewN | apply Kd.R_drew)); exact Kd.R_mono HO_4.out (fun _ hk => hk.2)), (bK BK446), GW446.out, GE446.out, bG⟩)
     ·skip
      refine bs 6 #[.string (⟨#[]⟩ : ByteArray), .string (⟨#[]⟩ : ByteArray), .bool false, .bool false] 58 ?_
      intro gb446 hg w23 hbox hb
      replace HO_4 := Aside0.mk (Kd.R_below (Kd.R_elderB (kR HO_4) gb446 (Nat.le_of_eq hg.symm)) hb)
      have BK446 := Aside0.mk (hbox)
      have GW446 := gW hg
      have GE446 := gW hg
      replace HB := sB hb
      clear hb hbox hg
      refine hK.out _ _ trivial (fun hHeld => ?_)
      clear hK K
      refine nz (some 6) ?_
      refine on 8 (some 44) HT_ (fun K hK => ?_)
      refine goes_ Tryd.func88 (by kernel_rfl) rfl #[.string (x0_1.extract 1 (x5_1 : Int).toNat), .int .u8 (bt x0_1 0), .int .u8 (bt x0_1 x5_1)] (by rfl) rfl rfl mA ?_
      with_reducible refine (newelref05_span.calls kj8 (x0_1.extract 1 (x5_1 : Int).toNat) (bt x0_1 0) (bt x0_1 x5_1) t441 t442 t443 t444 t445 _ (gS HG) A20.out).mono ?_
      rintro e w24 ⟨rfl, hb⟩
      refine ⟨_, rfl, ?_⟩
      replace HO_4 := rB HO_4 hb
      replace BK446 := kB BK446 hb
      replace HB := sB hb
      (try clear hb)
      refine hK.out _ _ trivial (fun hHeld => ?_)
      clear hK K
      refine nz (some 44) ?_
      refine pz 9 (some 35) HT_ ?_
      refine pz 10 (some 45) HT_ ?_
      refine pz 11 (some 46) HT_ ?_
      exact norm_ (by simp only [putAll, Act.put, List.setIfInBounds_toArray, List.set_cons_zero, List.set_cons_succ]) (hCont (gb446) _ ⟨(by (with_reducible repeat (first | apply Kd.R_alloc | apply Kd.R_drewN | apply Kd.R_drew)); exact Kd.R_mono HO_4.out (fun _ hk => hk.2)), (bK BK446), GW446.out, GE446.out, bG⟩)
    rintro gb446 w25 ⟨h0_, h1_, h2_, h3_, h4_⟩
    replace HO_4 : Aside0 (Kd.R k58 58 w25 w.heap.size (fun k_ => k_ ≠ gb446) u4 x4_1) := ⟨h0_⟩
    have BK446 : Aside0 (w25.heap[gb446]? = some (.cells #[.string (⟨#[]⟩ : ByteArray), .string (⟨#[]⟩ : ByteArray), .bool false, .bool false] 58 (0, 0))) := ⟨h1_⟩
    have GW446 : Aside0 (w.heap.size ≤ gb446) := ⟨h2_⟩
    have GE446 : Aside0 (w.heap.size ≤ gb446) := ⟨h3_⟩
    replace HB : Aside0 (Below w.heap.size w w25) := ⟨h4_⟩
    clear h0_ h1_ h2_ h3_ h4_
    have hHeld := trivial
    refine norm_ (a' := ?_) ?_ ?_
    rotate_left
    ·simp only [putAll, Act.put, List.setIfInBounds_toArray, List.set_cons_zero, List.set_cons_succ]
     rfl
    refine on 13 (none) HT_ (fun K hK => ?_)
    have hs26 : w25.cell? ⟨gb446, 0, none⟩ = some (.string (⟨#[]⟩ : ByteArray)) := (blk_cell BK446.out 0).trans rfl
    have hfs26 := blk_frozen BK446.out 0
    have hs27 : w25.cell? ⟨gb446, 1, none⟩ = some (.string (⟨#[]⟩ : ByteArray)) := (blk_cell BK446.out 1).trans rfl
    have hfs27 := blk_frozen BK446.out 1
    have hs28 : w25.cell? ⟨gb446, 2, none⟩ = some (.bool false) := (blk_cell BK446.out 2).trans rfl
    have hfs28 := blk_frozen BK446.out 2
    have hs29 : w25.cell? ⟨gb446, 3, none⟩ = some (.bool false) := (blk_cell BK446.out 3).trans rfl
    have hfs29 := blk_frozen BK446.out 3
    refine skip_ (w1 := ?_) (by rfl) rfl ?_ ?_
    rotate_left
    ·go_simp
     rfl
    refine hK.out _ _ trivial (fun hHeld => ?_)
    clear hK K
    refine pz 14 (some 7) HT_ ?_
    refine done_ (done_of HT_.out (by kernel_rfl)) ?_
    go_upto_region 8 with (fail)
    go_cut [74] (fun v74 wc => ∃ (kq : Nat) (x74_20 : Bool), v74 = .bool x74_20 ∧ Aside0 (newelref05_Parse.j4 kq x0_1 x4_1 x5_1 x74_20 t441 t442 t443 t444 = some (r1, r2)) ∧ Aside0 (kq ≤ kj8) ∧ Aside0 (Kd.R k58 58 wc w.heap.size (fun k_ => k_ ≠ gb446) u4 x4_1) ∧ Aside0 (wc.heap[gb446]? = some (.cells #[.string t441, .string t442, .bool t443, .bool t444] 58 (0, 0))) ∧ Aside0 (Below w.heap.size w wc))
    case first =>
     have H := HC21.out
     clear HC21
     by_cases c30 : t445 = true
     rotate_left
     ·replace c30 := Bool.eq_false_iff.mpr c30
      subst c30
      have H1 : (newelref05_Parse.j4 kj8 x0_1 x4_1 x5_1 true t441 t442 t443 t444) = some (r1, r2) := by rw [if_neg (show ¬ (false = true) by decide)] at H; exact H
      clear H
      have H := H1
      clear H1
      have H' := Aside0.mk H
      clear H
      try go_wp2
      have n0_ : Aside0 (Kd.R k58 58 ((((w25.setCell ⟨gb446, 0, none⟩ (.string t441)).setCell ⟨gb446, 1, none⟩ (.string t442)).setCell ⟨gb446, 2, none⟩ (.bool t443)).setCell ⟨gb446, 3, none⟩ (.bool t444)) w.heap.size (fun k_ => k_ ≠ gb446) u4 x4_1) := ⟨by (with_reducible repeat (first | apply Kd.R_alloc | apply Kd.R_drewN | apply Kd.R_drew)); exact Kd.R_mono (Kd.R_far (p := ⟨gb446, 3, none⟩) (Kd.R_far (p := ⟨gb446, 2, none⟩) (Kd.R_far (p := ⟨gb446, 1, none⟩) (Kd.R_far (p := ⟨gb446, 0, none⟩) (Kd.R_mono HO_4.out (fun k_ hk => (⟨hk, hk⟩ : _ ∧ k_ ≠ gb446))) (fun _ hk => hk.2) (.string t441)) (fun _ hk => hk.2) (.string t442)) (fun _ hk => hk.2) (.bool t443)) (fun _ hk => hk.2) (.bool t444)) (fun _ hk => hk.1)⟩
      have n1_ : Aside0 (((((w25.setCell ⟨gb446, 0, none⟩ (.string t441)).setCell ⟨gb446, 1, none⟩ (.string t442)).setCell ⟨gb446, 2, none⟩ (.bool t443)).setCell ⟨gb446, 3, none⟩ (.bool t444)).heap[gb446]? = some (.cells #[.string t441, .string t442, .bool t443, .bool t444] 58 (0, 0))) := ⟨bP BK446⟩
      have n2_ : Aside0 (Below w.heap.size w ((((w25.setCell ⟨gb446, 0, none⟩ (.string t441)).setCell ⟨gb446, 1, none⟩ (.string t442)).setCell ⟨gb446, 2, none⟩ (.bool t443)).setCell ⟨gb446, 3, none⟩ (.bool t444))) := ⟨bG⟩
      (try clear HO_4)
      (try clear BK446)
      (try clear HB)
      generalize ((((w25.setCell ⟨gb446, 0, none⟩ (.string t441)).setCell ⟨gb446, 1, none⟩ (.string t442)).setCell ⟨gb446, 2, none⟩ (.bool t443)).setCell ⟨gb446, 3, none⟩ (.bool t444)) = w56 at n0_ n1_ n2_ ⊢
      have HO_4 := n0_
      have BK446 := n1_
      have HB := n2_
      clear n0_ n1_ n2_
      replace HO_4 := Aside0.mk (Kd.R_drew HO_4.out)
      replace BK446 := Aside0.mk (blk_drew BK446.out)
      replace HB := Aside0.mk (below_drew1 HB.out)
      refine start_ (n := 28) (S := fun w' => True) (ds := []) #[false, false, false, false, false, false, false, false, false, false, false, false, false, false, false, false, false, false, false, false, false, false, false, false, false, false, false, false] (by kernel_rfl) rfl rfl trivial (fun hHeld => ?_); refine with_tabW newelref05_Parse.tab8 newelref05_Parse.bits8 (fun HT_ HW_ => ?_)
      generalize w56.drew = w57 at HO_4 BK446 HB hHeld ⊢
      refine pz 0 (some 47) HT_ ?_
      refine pz 1 (some 48) HT_ ?_
      refine pz 2 (some 49) HT_ ?_
      refine pu 3 (some 50) HT_ ?_
      refine pu 4 (some 51) HT_ ?_
      refine pu 5 (some 52) HT_ ?_
      refine pz 6 (some 53) HT_ ?_
      refine pz 7 (some 54) HT_ ?_
      refine pu 8 (some 55) HT_ ?_
      refine pu 9 (some 56) HT_ ?_
      refine pu 10 (some 57) HT_ ?_
      refine pu 11 (some 58) HT_ ?_
      refine pu 12 (some 59) HT_ ?_
      refine pu 13 (some 60) HT_ ?_
      refine pu 14 (some 61) HT_ ?_
      refine pu 15 (some 62) HT_ ?_
      refine pu 16 (some 63) HT_ ?_
      refine pu 17 (some 64) HT_ ?_
      refine pu 18 (some 65) HT_ ?_
      refine pu 19 (some 66) HT_ ?_
      refine pu 20 (some 67) HT_ ?_
      refine pu 21 (some 68) HT_ ?_
      refine pz 22 (some 69) HT_ ?_
      refine pz 23 (some 70) HT_ ?_
      refine pu 24 (some 71) HT_ ?_
      refine pu 25 (some 72) HT_ ?_
      refine pu 26 (some 73) HT_ ?_
      refine pz 27 (some 74) HT_ ?_
      refine done_ (done_of HT_.out (by kernel_rfl)) ?_
      try go_wp2
      go_meet
      case rel => exact ⟨_, (true), cA, H', ⟨by have := HK1.out; have := HJ1.out; have := HJ8.out; first | omega | exact Nat.le_refl _⟩, ⟨kR HO_4⟩, ⟨bK BK446⟩, ⟨bG⟩⟩
     subst c30
     have H1 : ((newelref05_May.f kj8 t441 t442 t443 t444).bind fun t447 => (if t447 = true then (if (x4_1.length : Int) > 0 then (if 0 ≤ (wrap64 ((x4_1.length : Int) - 1)) then (if (wrap64 ((x4_1.length : Int) - 1)) < (x4_1.length : Int) then ((newelref05_behind.f kj8 ((rd_T58 x4_1 (wrap64 ((x4_1.length : Int) - 1))).f0) ((rd_T58 x4_1 (wrap64 ((x4_1.length : Int) - 1))).f1) ((rd_T58 x4_1 (wrap64 ((x4_1.length : Int) - 1))).f2) ((rd_T58 x4_1 (wrap64 ((x4_1.length : Int) - 1))).f3) t441 t442 t443 t444).bind fun t449 => (if t449 = true then (newelref05_Parse.j4 kj8 x0_1 x4_1 x5_1 (decide ((x4_1.length : Int) ≥ 20)) t441 t442 t443 t444) else (newelref05_Parse.j4 kj8 x0_1 x4_1 x5_1 true t441 t442 t443 t444))) else (none)) else (none)) else (newelref05_Parse.j4 kj8 x0_1 x4_1 x5_1 (decide ((x4_1.length : Int) ≥ 20)) t441 t442 t443 t444)) else (newelref05_Parse.j4 kj8 x0_1 x4_1 x5_1 true t441 t442 t443 t444))) = some (r1, r2) := by rw [if_pos rfl] at H; exact H
     clear H
     have H := H1
     clear H1
     replace H := bi H
     obtain ⟨t447, A310, H⟩ := H
     try dsimp only at H
     have A31 := Aside0.mk A310
     clear A310
     by_cases c32 : t447 = true
     rotate_left
     ·replace c32 := Bool.eq_false_iff.mpr c32
      subst c32
      have H1 : (newelref05_Parse.j4 kj8 x0_1 x4_1 x5_1 true t441 t442 t443 t444) = some (r1, r2) := by rw [if_neg (show ¬ (false = true) by decide)] at H; exact H
      clear H
      have H := H1
      clear H1
      have H' := Aside0.mk H
      clear H
      try go_wp2
      have n0_ : Aside0 (Kd.R k58 58 ((((w25.setCell ⟨gb446, 0, none⟩ (.string t441)).setCell ⟨gb446, 1, none⟩ (.string t442)).setCell ⟨gb446, 2, none⟩ (.bool t443)).setCell ⟨gb446, 3, none⟩ (.bool t444)) w.heap.size (fun k_ => k_ ≠ gb446) u4 x4_1) := ⟨by (with_reducible repeat (first | apply Kd.R_alloc | apply Kd.R_drewN | apply Kd.R_drew)); exact Kd.R_mono (Kd.R_far (p := ⟨gb446, 3, none⟩) (Kd.R_far (p := ⟨gb446, 2, none⟩) (Kd.R_far (p := ⟨gb446, 1, none⟩) (Kd.R_far (p := ⟨gb446, 0, none⟩) (Kd.R_mono HO_4.out (fun k_ hk => (⟨hk, hk⟩ : _ ∧ k_ ≠ gb446))) (fun _ hk => hk.2) (.string t441)) (fun _ hk => hk.2) (.string t442)) (fun _ hk => hk.2) (.bool t443)) (fun _ hk => hk.2) (.bool t444)) (fun _ hk => hk.1)⟩
      have n1_ : Aside0 (((((w25.setCell ⟨gb446, 0, none⟩ (.string t441)).setCell ⟨gb446, 1, none⟩ (.string t442)).setCell ⟨gb446, 2, none⟩ (.bool t443)).setCell ⟨gb446, 3, none⟩ (.bool t444)).heap[gb446]? = some (.cells #[.string t441, .string t442, .bool t443, .bool t444] 58 (0, 0))) := ⟨bP BK446⟩
      have n2_ : Aside0 (Below w.heap.size w ((((w25.setCell ⟨gb446, 0, none⟩ (.string t441)).setCell ⟨gb446, 1, none⟩ (.string t442)).setCell ⟨gb446, 2, none⟩ (.bool t443)).setCell ⟨gb446, 3, none⟩ (.bool t444))) := ⟨bG⟩
      (try clear HO_4)
      (try clear BK446)
      (try clear HB)
      generalize ((((w25.setCell ⟨gb446, 0, none⟩ (.string t441)).setCell ⟨gb446, 1, none⟩ (.string t442)).setCell ⟨gb446, 2, none⟩ (.bool t443)).setCell ⟨gb446, 3, none⟩ (.bool t444)) = w53 at n0_ n1_ n2_ ⊢
      have HO_4 := n0_
      have BK446 := n1_
      have HB := n2_
      clear n0_ n1_ n2_
      replace HO_4 := Aside0.mk (Kd.R_drew HO_4.out)
      replace BK446 := Aside0.mk (blk_drew BK446.out)
      replace HB := Aside0.mk (below_drew1 HB.out)
      refine start_ (n := 28) (S := fun w' => w'.cell? ⟨gb446, 0, none⟩ = some (.string t441) ∧ w'.cell? ⟨gb446, 1, none⟩ = some (.string t442) ∧ w'.cell? ⟨gb446, 2, none⟩ = some (.bool t443) ∧ w'.cell? ⟨gb446, 3, none⟩ = some (.bool t444)) (ds := []) #[false, false, false, false, false, false, false, false, false, false, false, false, false, false, false, false, false, false, false, false, false, false, false, false, false, false, false, false] (by kernel_rfl) rfl rfl ⟨(blk_cell BK446.out 0).trans rfl, (blk_cell BK446.out 1).trans rfl, (blk_cell BK446.out 2).trans rfl, (blk_cell BK446.out 3).trans rfl⟩ (fun hHeld => ?_); refine with_tabW newelref05_Parse.tab8 newelref05_Parse.bits8 (fun HT_ HW_ => ?_)
      generalize w53.drew = w54 at HO_4 BK446 HB hHeld ⊢
      refine pz 0 (some 47) HT_ ?_
      refine pz 1 (some 48) HT_ ?_
      refine pz 2 (some 49) HT_ ?_
      refine tm 3 (some 50) HT_ HW_ hHeld ?_
      refine on 4 (some 51) HT_ (fun K hK => ?_)
      refine goes_ Tryd.func89 (by kernel_rfl) rfl #[.agg #[.string t441, .string t442, .bool t443, .bool t444]] (by rfl) rfl rfl mA ?_
      with_reducible refine (newelref05_May.calls kj8 t441 t442 t443 t444 false _ (gS HG) A31.out).mono ?_
      rintro e w55 ⟨rfl, hb⟩
      refine ⟨_, rfl, ?_⟩
      replace HO_4 := rB HO_4 hb
      replace BK446 := kB BK446 hb
      replace HB := sB hb
      (try clear hb)
      refine hK.out _ _ ⟨(blk_cell BK446.out 0).trans rfl, (blk_cell BK446.out 1).trans rfl, (blk_cell BK446.out 2).trans rfl, (blk_cell BK446.out 3).trans rfl⟩ (fun hHeld => ?_)
      clear hK K
      refine nz (some 51) ?_
      refine pz 5 (some 52) HT_ ?_
      refine pz 6 (some 53) HT_ ?_
      refine pz 7 (some 54) HT_ ?_
      refine pu 8 (some 55) HT_ ?_
      refine pu 9 (some 56) HT_ ?_
      refine pu 10 (some 57) HT_ ?_
      refine pu 11 (some 58) HT_ ?_
      refine pu 12 (some 59) HT_ ?_
      refine pu 13 (some 60) HT_ ?_
      refine pu 14 (some 61) HT_ ?_
      refine pu 15 (some 62) HT_ ?_
      refine pu 16 (some 63) HT_ ?_
      refine pu 17 (some 64) HT_ ?_
      refine pu 18 (some 65) HT_ ?_
      refine pu 19 (some 66) HT_ ?_
      refine pu 20 (some 67) HT_ ?_
      refine pu 21 (some 68) HT_ ?_
      refine pz 22 (some 69) HT_ ?_
      refine pz 23 (some 70) HT_ ?_
      refine pu 24 (some 71) HT_ ?_
      refine pu 25 (some 72) HT_ ?_
      refine pu 26 (some 73) HT_ ?_
      refine pz 27 (some 74) HT_ ?_
      refine done_ (done_of HT_.out (by kernel_rfl)) ?_
      try go_wp2
      go_meet
      case rel => exact ⟨_, (true), cA, H', ⟨by have := HK1.out; have := HJ1.out; have := HJ8.out; first | omega | exact Nat.le_refl _⟩, ⟨kR HO_4⟩, ⟨bK BK446⟩, ⟨bG⟩⟩
     subst c32
     have H1 : (if (x4_1.length : Int) > 0 then (if 0 ≤ (wrap64 ((x4_1.length : Int) - 1)) then (if (wrap64 ((x4_1.length : Int) - 1)) < (x4_1.length : Int) then ((newelref05_behind.f kj8 ((rd_T58 x4_1 (wrap64 ((x4_1.length : Int) - 1))).f0) ((rd_T58 x4_1 (wrap64 ((x4_1.length : Int) - 1))).f1) ((rd_T58 x4_1 (wrap64 ((x4_1.length : Int) - 1))).f2) ((rd_T58 x4_1 (wrap64 ((x4_1.length : Int) - 1))).f3) t441 t442 t443 t444).bind fun t449 => (if t449 = true then (newelref05_Parse.j4 kj8 x0_1 x4_1 x5_1 (decide ((x4_1.length : Int) ≥ 20)) t441 t442 t443 t444) else (newelref05_Parse.j4 kj8 x0_1 x4_1 x5_1 true t441 t442 t443 t444))) else (none)) else (none)) else (newelref05_Parse.j4 kj8 x0_1 x4_1 x5_1 (decide ((x4_1.length : Int) ≥ 20)) t441 t442 t443 t444)) = some (r1, r2) := by rw [if_pos rfl] at H; exact H
     clear H
     have H := H1
     clear H1
     by_cases c33 : (x4_1.length : Int) > 0
     rotate_left
     ·rw [if_neg c33] at H
      have c33b0 := dF c33
      have c33b1 : decide (0 < x4_1.length) = false := decide_eq_false (by omega)
      clear c33
      (first | rw [c33b0] | (simp only [i64_w, i32_w]; rw [c33b0]) | skip)
      have H' := Aside0.mk H
      clear H
      try go_wp2
      have n0_ : Aside0 (Kd.R k58 58 ((((w25.setCell ⟨gb446, 0, none⟩ (.string t441)).setCell ⟨gb446, 1, none⟩ (.string t442)).setCell ⟨gb446, 2, none⟩ (.bool t443)).setCell ⟨gb446, 3, none⟩ (.bool t444)) w.heap.size (fun k_ => k_ ≠ gb446) u4 x4_1) := ⟨by (with_reducible repeat (first | apply Kd.R_alloc | apply Kd.R_drewN | apply Kd.R_drew)); exact Kd.R_mono (Kd.R_far (p := ⟨gb446, 3, none⟩) (Kd.R_far (p := ⟨gb446, 2, none⟩) (Kd.R_far (p := ⟨gb446, 1, none⟩) (Kd.R_far (p := ⟨gb446, 0, none⟩) (Kd.R_mono HO_4.out (fun k_ hk => (⟨hk, hk⟩ : _ ∧ k_ ≠ gb446))) (fun _ hk => hk.2) (.string t441)) (fun _ hk => hk.2) (.string t442)) (fun _ hk => hk.2) (.bool t443)) (fun _ hk => hk.2) (.bool t444)) (fun _ hk => hk.1)⟩
      have n1_ : Aside0 (((((w25.setCell ⟨gb446, 0, none⟩ (.string t441)).setCell ⟨gb446, 1, none⟩ (.string t442)).setCell ⟨gb446, 2, none⟩ (.bool t443)).setCell ⟨gb446, 3, none⟩ (.bool t444)).heap[gb446]? = some (.cells #[.string t441, .string t442, .bool t443, .bool t444] 58 (0, 0))) := ⟨bP BK446⟩
      have n2_ : Aside0 (Below w.heap.size w ((((w25.setCell ⟨gb446, 0, none⟩ (.string t441)).setCell ⟨gb446, 1, none⟩ (.string t442)).setCell ⟨gb446, 2, none⟩ (.bool t443)).setCell ⟨gb446, 3, none⟩ (.bool t444))) := ⟨bG⟩
      (try clear HO_4)
      (try clear BK446)
      (try clear HB)
      generalize ((((w25.setCell ⟨gb446, 0, none⟩ (.string t441)).setCell ⟨gb446, 1, none⟩ (.string t442)).setCell ⟨gb446, 2, none⟩ (.bool t443)).setCell ⟨gb446, 3, none⟩ (.bool t444)) = w49 at n0_ n1_ n2_ ⊢
      have HO_4 := n0_
      have BK446 := n1_
      have HB := n2_
      clear n0_ n1_ n2_
      replace HO_4 := Aside0.mk (Kd.R_drew HO_4.out)
      replace BK446 := Aside0.mk (blk_drew BK446.out)
      replace HB := Aside0.mk (below_drew1 HB.out)
      refine start_ (n := 28) (S := fun w' => w'.cell? ⟨gb446, 0, none⟩ = some (.string t441) ∧ w'.cell? ⟨gb446, 1, none⟩ = some (.string t442) ∧ w'.cell? ⟨gb446, 2, none⟩ = some (.bool t443) ∧ w'.cell? ⟨gb446, 3, none⟩ = some (.bool t444)) (ds := []) #[false, false, false, false, false, false, false, false, false, false, false, false, false, false, false, false, false, false, false, false, false, false, false, false, false, false, false, false] (by kernel_rfl) rfl rfl ⟨(blk_cell BK446.out 0).trans rfl, (blk_cell BK446.out 1).trans rfl, (blk_cell BK446.out 2).trans rfl, (blk_cell BK446.out 3).trans rfl⟩ (fun hHeld => ?_); refine with_tabW newelref05_Parse.tab8 newelref05_Parse.bits8 (fun HT_ HW_ => ?_)
      generalize w49.drew = w50 at HO_4 BK446 HB hHeld ⊢
      refine pz 0 (some 47) HT_ ?_
      refine pz 1 (some 48) HT_ ?_
      refine pz 2 (some 49) HT_ ?_
      refine tm 3 (some 50) HT_ HW_ hHeld ?_
      refine on 4 (some 51) HT_ (fun K hK => ?_)
      refine goes_ Tryd.func89 (by kernel_rfl) rfl #[.agg #[.string t441, .string t442, .bool t443, .bool t444]] (by rfl) rfl rfl mA ?_
      with_reducible refine (newelref05_May.calls kj8 t441 t442 t443 t444 true _ (gS HG) A31.out).mono ?_
      rintro e w51 ⟨rfl, hb⟩
      refine ⟨_, rfl, ?_⟩
      replace HO_4 := rB HO_4 hb
      replace BK446 := kB BK446 hb
      replace HB := sB hb
      (try clear hb)
      obtain ⟨Ao52, co52, eo52⟩ := Kd.R_slice HO_4.out
      (first | subst eo52 | (injection eo52 with f1_ f2_ f3_; have f4_ := f1_.symm; have f5_ := f3_.symm; clear f1_ f2_ f3_; subst f4_; subst f5_))
      refine hK.out _ _ ⟨(blk_cell BK446.out 0).trans rfl, (blk_cell BK446.out 1).trans rfl, (blk_cell BK446.out 2).trans rfl, (blk_cell BK446.out 3).trans rfl⟩ (fun hHeld => ?_)
      clear hK K
      refine nz (some 51) ?_
      refine pz 5 (some 52) HT_ ?_
      refine pz 6 (some 53) HT_ ?_
      refine pz 7 (some 54) HT_ ?_
      refine pz 8 (some 55) HT_ ?_
      refine pz 9 (some 56) HT_ ?_
      refine pz 10 (some 57) HT_ ?_
      refine pz 11 (some 58) HT_ ?_
      refine pu 12 (some 59) HT_ ?_
      refine pu 13 (some 60) HT_ ?_
      refine pu 14 (some 61) HT_ ?_
      refine pu 15 (some 62) HT_ ?_
      refine pu 16 (some 63) HT_ ?_
      refine pu 17 (some 64) HT_ ?_
      refine pu 18 (some 65) HT_ ?_
      refine pu 19 (some 66) HT_ ?_
      refine pu 20 (some 67) HT_ ?_
      refine pz 21 (some 68) HT_ ?_
      refine pz 22 (some 69) HT_ ?_
      refine pz 23 (some 70) HT_ ?_
      refine pz 24 (some 71) HT_ ?_
      refine pz 25 (some 72) HT_ ?_
      refine pz 26 (some 73) HT_ ?_
      refine pz 27 (some 74) HT_ ?_
      refine done_ (done_of HT_.out (by kernel_rfl)) ?_
      try go_wp2
      go_meet
      case rel => exact ⟨_, (decide ((x4_1.length : Int) ≥ 20)), cA, H', ⟨by have := HK1.out; have := HJ1.out; have := HJ8.out; first | omega | exact Nat.le_refl _⟩, ⟨kR HO_4⟩, ⟨bK BK446⟩, ⟨bG⟩⟩
     rw [if_pos c33] at H
     have c33b0 := dT c33
     have c33b1 : decide (0 < x4_1.length) = true := decide_eq_true (by omega)
     clear c33
     (first | rw [c33b0] | (simp only [i64_w, i32_w]; rw [c33b0]) | skip)
     obtain ⟨ji34, hji34⟩ : ∃ j_ : Int, (wrap64 ((x4_1.length : Int) - 1)) = j_ := ⟨_, rfl⟩
     rw [hji34] at H
     (try rw [hji34] at A31)
     have hji34w : (IntKind.i64.wrap ((x4_1.length : Int) - 1)) = ji34 := (i64_w _).trans hji34
     by_cases c35 : 0 ≤ (ji34)
     rotate_left
     ·rw [if_neg c35] at H
      exact absurd H (by simp)
     rw [if_pos c35] at H
     have c35b0 := dT c35
     clear c35
     by_cases c36 : (ji34) < (x4_1.length : Int)
     rotate_left
     ·rw [if_neg c36] at H
      exact absurd H (by simp)
     rw [if_pos c36] at H
     have c36b0 := dT c36
     clear c36
     replace H := bi H
     obtain ⟨t449, A370, H⟩ := H
     try dsimp only at H
     have A37 := Aside0.mk A370
     clear A370
     by_cases c38 : t449 = true
     ·subst c38
      have H1 : (newelref05_Parse.j4 kj8 x0_1 x4_1 x5_1 (decide ((x4_1.length : Int) ≥ 20)) t441 t442 t443 t444) = some (r1, r2) := by rw [if_pos rfl] at H; exact H
      clear H
      have H := H1
      clear H1
      have H' := Aside0.mk H
      clear H
      try go_wp2
      have n0_ : Aside0 (Kd.R k58 58 ((((w25.setCell ⟨gb446, 0, none⟩ (.string t441)).setCell ⟨gb446, 1, none⟩ (.string t442)).setCell ⟨gb446, 2, none⟩ (.bool t443)).setCell ⟨gb446, 3, none⟩ (.bool t444)) w.heap.size (fun k_ => k_ ≠ gb446) u4 x4_1) := ⟨by (with_reducible repeat (first | apply Kd.R_alloc | apply Kd.R_drewN | apply Kd.R_drew)); exact Kd.R_mono (Kd.R_far (p := ⟨gb446, 3, none⟩) (Kd.R_far (p := ⟨gb446, 2, none⟩) (Kd.R_far (p := ⟨gb446, 1, none⟩) (Kd.R_far (p := ⟨gb446, 0, none⟩) (Kd.R_mono HO_4.out (fun k_ hk => (⟨hk, hk⟩ : _ ∧ k_ ≠ gb446))) (fun _ hk => hk.2) (.string t441)) (fun _ hk => hk.2) (.string t442)) (fun _ hk => hk.2) (.bool t443)) (fun _ hk => hk.2) (.bool t444)) (fun _ hk => hk.1)⟩
      have n1_ : Aside0 (((((w25.setCell ⟨gb446, 0, none⟩ (.string t441)).setCell ⟨gb446, 1, none⟩ (.string t442)).setCell ⟨gb446, 2, none⟩ (.bool t443)).setCell ⟨gb446, 3, none⟩ (.bool t444)).heap[gb446]? = some (.cells #[.string t441, .string t442, .bool t443, .bool t444] 58 (0, 0))) := ⟨bP BK446⟩
      have n2_ : Aside0 (Below w.heap.size w ((((w25.setCell ⟨gb446, 0, none⟩ (.string t441)).setCell ⟨gb446, 1, none⟩ (.string t442)).setCell ⟨gb446, 2, none⟩ (.bool t443)).setCell ⟨gb446, 3, none⟩ (.bool t444))) := ⟨bG⟩
      (try clear HO_4)
      (try clear BK446)
      (try clear HB)
      generalize ((((w25.setCell ⟨gb446, 0, none⟩ (.string t441)).setCell ⟨gb446, 1, none⟩ (.string t442)).setCell ⟨gb446, 2, none⟩ (.bool t443)).setCell ⟨gb446, 3, none⟩ (.bool t444)) = w39 at n0_ n1_ n2_ ⊢
      have HO_4 := n0_
      have BK446 := n1_
      have HB := n2_
      clear n0_ n1_ n2_
      replace HO_4 := Aside0.mk (Kd.R_drew HO_4.out)
      replace BK446 := Aside0.mk (blk_drew BK446.out)
      replace HB := Aside0.mk (below_drew1 HB.out)
      have p448 : 0 ≤ ((ji34) : Int) := dA
      have q448 : (ji34) < (x4_1.length : Int) := dA
      (try (obtain ⟨Ao_, co_, eo_⟩ := Kd.R_slice HO_4.out; subst eo_))
      obtain ⟨ad448, e448, hx448_0, hx448_1, hx448_2, hx448_3⟩ := at_T58 (Kd.R_reads' HO_4.out).2.2 (ji34) p448 q448
      cases e448
      replace p448 := eq_true p448
      replace q448 := eq_true q448
      refine start_ (n := 28) (S := fun w' => w'.cell? ⟨gb446, 0, none⟩ = some (.string t441) ∧ w'.cell? ⟨gb446, 1, none⟩ = some (.string t442) ∧ w'.cell? ⟨gb446, 2, none⟩ = some (.bool t443) ∧ w'.cell? ⟨gb446, 3, none⟩ = some (.bool t444) ∧ w'.cell? (ad448.add (((ji34)).toNat * 4)) = some (.string ((rd_T58 x4_1 (ji34)).f0)) ∧ w'.cell? ⟨(ad448.add (((ji34)).toNat * 4)).block, (ad448.add (((ji34)).toNat * 4)).off + 1, none⟩ = some (.string ((rd_T58 x4_1 (ji34)).f1)) ∧ w'.cell? ⟨(ad448.add (((ji34)).toNat * 4)).block, (ad448.add (((ji34)).toNat * 4)).off + 2, none⟩ = some (.bool ((rd_T58 x4_1 (ji34)).f2)) ∧ w'.cell? ⟨(ad448.add (((ji34)).toNat * 4)).block, (ad448.add (((ji34)).toNat * 4)).off + 3, none⟩ = some (.bool ((rd_T58 x4_1 (ji34)).f3))) (ds := []) #[false, false, false, false, false, false, false, false, false, false, false, false, false, false, false, false, false, false, false, false, false, false, false, false, false, false, false, false] (by kernel_rfl) rfl rfl ⟨(blk_cell BK446.out 0).trans rfl, (blk_cell BK446.out 1).trans rfl, (blk_cell BK446.out 2).trans rfl, (blk_cell BK446.out 3).trans rfl, hx448_0, hx448_1, hx448_2, hx448_3⟩ (fun hHeld => ?_); refine with_tabW newelref05_Parse.tab8 newelref05_Parse.bits8 (fun HT_ HW_ => ?_)
      generalize w39.drew = w40 at HO_4 BK446 HB hx448_0 hx448_1 hx448_2 hx448_3 hHeld ⊢
      refine pz 0 (some 47) HT_ ?_
      refine pz 1 (some 48) HT_ ?_
      refine pz 2 (some 49) HT_ ?_
      refine tm 3 (some 50) HT_ HW_ hHeld ?_
      refine on 4 (some 51) HT_ (fun K hK => ?_)
      refine goes_ Tryd.func89 (by kernel_rfl) rfl #[.agg #[.string t441, .string t442, .bool t443, .bool t444]] (by rfl) rfl rfl mA ?_
      with_reducible refine (newelref05_May.calls kj8 t441 t442 t443 t444 true _ (gS HG) A31.out).mono ?_
      rintro e w41 ⟨rfl, hb⟩
      have HS4_ := (hb.cell (World.block_lt_of_cell? _ _ (hHeld.2.2.2.2.1))).trans (hHeld.2.2.2.2.1)
      have HS5_ := (hb.cell (World.block_lt_of_cell? _ _ (hHeld.2.2.2.2.2.1))).trans (hHeld.2.2.2.2.2.1)
      have HS6_ := (hb.cell (World.block_lt_of_cell? _ _ (hHeld.2.2.2.2.2.2.1))).trans (hHeld.2.2.2.2.2.2.1)
      have HS7_ := (hb.cell (World.block_lt_of_cell? _ _ (hHeld.2.2.2.2.2.2.2))).trans (hHeld.2.2.2.2.2.2.2)
      refine ⟨_, rfl, ?_⟩
      replace HO_4 := rB HO_4 hb
      replace BK446 := kB BK446 hb
      replace HB := sB hb
      (try clear hb)
      obtain ⟨Ao42, co42, eo42⟩ := Kd.R_slice HO_4.out
      (first | subst eo42 | (injection eo42 with f1_ f2_ f3_; have f4_ := f1_.symm; have f5_ := f3_.symm; clear f1_ f2_ f3_; subst f4_; subst f5_))
      refine hK.out _ _ ⟨(blk_cell BK446.out 0).trans rfl, (blk_cell BK446.out 1).trans rfl, (blk_cell BK446.out 2).trans rfl, (blk_cell BK446.out 3).trans rfl, HS4_, HS5_, HS6_, HS7_⟩ (fun hHeld => ?_)
      clear hK K
      refine nz (some 51) ?_
      refine pz 5 (some 52) HT_ ?_
      refine pz 6 (some 53) HT_ ?_
      refine pz 7 (some 54) HT_ ?_
      refine pz 8 (some 55) HT_ ?_
      refine pz 9 (some 56) HT_ ?_
      refine pz 10 (some 57) HT_ ?_
      refine pz 11 (some 58) HT_ ?_
      refine pz 12 (some 59) HT_ ?_
      refine pz 13 (some 60) HT_ ?_
      refine pz 14 (some 61) HT_ ?_
      refine pz 15 (some 62) HT_ ?_
      refine pz 16 (some 63) HT_ ?_
      refine tm 17 (some 64) HT_ HW_ hHeld ?_
      refine tm 18 (some 65) HT_ HW_ hHeld ?_
      refine on 19 (some 66) HT_ (fun K hK => ?_)
      refine goes_ Tryd.func90 (by kernel_rfl) rfl #[.agg #[.string ((rd_T58 x4_1 (ji34)).f0), .string ((rd_T58 x4_1 (ji34)).f1), .bool ((rd_T58 x4_1 (ji34)).f2), .bool ((rd_T58 x4_1 (ji34)).f3)], .agg #[.string t441, .string t442, .bool t443, .bool t444]] (by rfl) rfl rfl (by (try simp only [List.map_toArray, List.map_cons, List.map_nil]); first | done | (simp only [hji34]; rfl) | rfl | (simp only [List.length_drop, List.length_take]; rfl)) ?_
      with_reducible refine (newelref05_behind.calls kj8 ((rd_T58 x4_1 (ji34)).f0) ((rd_T58 x4_1 (ji34)).f1) ((rd_T58 x4_1 (ji34)).f2) ((rd_T58 x4_1 (ji34)).f3) t441 t442 t443 t444 true _ (gS HG) A37.out).mono ?_
      rintro e w43 ⟨rfl, hb⟩
      have HS4_ := (hb.cell (World.block_lt_of_cell? _ _ (hHeld.2.2.2.2.1))).trans (hHeld.2.2.2.2.1)
      have HS5_ := (hb.cell (World.block_lt_of_cell? _ _ (hHeld.2.2.2.2.2.1))).trans (hHeld.2.2.2.2.2.1)
      have HS6_ := (hb.cell (World.block_lt_of_cell? _ _ (hHeld.2.2.2.2.2.2.1))).trans (hHeld.2.2.2.2.2.2.1)
      have HS7_ := (hb.cell (World.block_lt_of_cell? _ _ (hHeld.2.2.2.2.2.2.2))).trans (hHeld.2.2.2.2.2.2.2)
      refine ⟨_, rfl, ?_⟩
      replace HO_4 := rB HO_4 hb
      replace BK446 := kB BK446 hb
      replace HB := sB hb
      (try clear hb)
      refine hK.out _ _ ⟨(blk_cell BK446.out 0).trans rfl, (blk_cell BK446.out 1).trans rfl, (blk_cell BK446.out 2).trans rfl, (blk_cell BK446.out 3).trans rfl, HS4_, HS5_, HS6_, HS7_⟩ (fun hHeld => ?_)
      clear hK K
      refine nz (some 66) ?_
      refine pz 20 (some 67) HT_ ?_
      refine pz 21 (some 68) HT_ ?_
      refine pz 22 (some 69) HT_ ?_
      refine pz 23 (some 70) HT_ ?_
      refine pz 24 (some 71) HT_ ?_
      refine pz 25 (some 72) HT_ ?_
      refine pz 26 (some 73) HT_ ?_
      refine pz 27 (some 74) HT_ ?_
      refine done_ (done_of HT_.out (by kernel_rfl)) ?_
      try go_wp2
      go_meet
      case rel => exact ⟨_, (decide ((x4_1.length : Int) ≥ 20)), cA, H', ⟨by have := HK1.out; have := HJ1.out; have := HJ8.out; first | omega | exact Nat.le_refl _⟩, ⟨kR HO_4⟩, ⟨bK BK446⟩, ⟨bG⟩⟩
     replace c38 := Bool.eq_false_iff.mpr c38
     subst c38
     have H1 : (newelref05_Parse.j4 kj8 x0_1 x4_1 x5_1 true t441 t442 t443 t444) = some (r1, r2) := by rw [if_neg (show ¬ (false = true) by decide)] at H; exact H
     clear H
     have H := H1
     clear H1
     have H' := Aside0.mk H
     clear H
     try go_wp2
     have n0_ : Aside0 (Kd.R k58 58 ((((w25.setCell ⟨gb446, 0, none⟩ (.string t441)).setCell ⟨gb446, 1, none⟩ (.string t442)).setCell ⟨gb446, 2, none⟩ (.bool t443)).setCell ⟨gb446, 3, none⟩ (.bool t444)) w.heap.size (fun k_ => k_ ≠ gb446) u4 x4_1) := ⟨by (with_reducible repeat (first | apply Kd.R_alloc | apply Kd.R_drewN | apply Kd.R_drew)); exact Kd.R_mono (Kd.R_far (p := ⟨gb446, 3, none⟩) (Kd.R_far (p := ⟨gb446, 2, none⟩) (Kd.R_far (p := ⟨gb446, 1, none⟩) (Kd.R_far (p := ⟨gb446, 0, none⟩) (Kd.R_mono HO_4.out (fun k_ hk => (⟨hk, hk⟩ : _ ∧ k_ ≠ gb446))) (fun _ hk => hk.2) (.string t441)) (fun _ hk => hk.2) (.string t442)) (fun _ hk => hk.2) (.bool t443)) (fun _ hk => hk.2) (.bool t444)) (fun _ hk => hk.1)⟩
     have n1_ : Aside0 (((((w25.setCell ⟨gb446, 0, none⟩ (.string t441)).setCell ⟨gb446, 1, none⟩ (.string t442)).setCell ⟨gb446, 2, none⟩ (.bool t443)).setCell ⟨gb446, 3, none⟩ (.bool t444)).heap[gb446]? = some (.cells #[.string t441, .string t442, .bool t443, .bool t444] 58 (0, 0))) := ⟨bP BK446⟩
     have n2_ : Aside0 (Below w.heap.size w ((((w25.setCell ⟨gb446, 0, none⟩ (.string t441)).setCell ⟨gb446, 1, none⟩ (.string t442)).setCell ⟨gb446, 2, none⟩ (.bool t443)).setCell ⟨gb446, 3, none⟩ (.bool t444))) := ⟨bG⟩
     (try clear HO_4)
     (try clear BK446)
     (try clear HB)
     generalize ((((w25.setCell ⟨gb446, 0, none⟩ (.string t441)).setCell ⟨gb446, 1, none⟩ (.string t442)).setCell ⟨gb446, 2, none⟩ (.bool t443)).setCell ⟨gb446, 3, none⟩ (.bool t444)) = w44 at n0_ n1_ n2_ ⊢
     have HO_4 := n0_
     have BK446 := n1_
     have HB := n2_
     clear n0_ n1_ n2_
     replace HO_4 := Aside0.mk (Kd.R_drew HO_4.out)
     replace BK446 := Aside0.mk (blk_drew BK446.out)
     replace HB := Aside0.mk (below_drew1 HB.out)
     have p448 : 0 ≤ ((ji34) : Int) := dA
     have q448 : (ji34) < (x4_1.length : Int) := dA
     (try (obtain ⟨Ao_, co_, eo_⟩ := Kd.R_slice HO_4.out; subst eo_))
     obtain ⟨ad448, e448, hx448_0, hx448_1, hx448_2, hx448_3⟩ := at_T58 (Kd.R_reads' HO_4.out).2.2 (ji34) p448 q448
     cases e448
     replace p448 := eq_true p448
     replace q448 := eq_true q448
     refine start_ (n := 28) (S := fun w' => w'.cell? ⟨gb446, 0, none⟩ = some (.string t441) ∧ w'.cell? ⟨gb446, 1, none⟩ = some (.string t442) ∧ w'.cell? ⟨gb446, 2, none⟩ = some (.bool t443) ∧ w'.cell? ⟨gb446, 3, none⟩ = some (.bool t444) ∧ w'.cell? (ad448.add (((ji34)).toNat * 4)) = some (.string ((rd_T58 x4_1 (ji34)).f0)) ∧ w'.cell? ⟨(ad448.add (((ji34)).toNat * 4)).block, (ad448.add (((ji34)).toNat * 4)).off + 1, none⟩ = some (.string ((rd_T58 x4_1 (ji34)).f1)) ∧ w'.cell? ⟨(ad448.add (((ji34)).toNat * 4)).block, (ad448.add (((ji34)).toNat * 4)).off + 2, none⟩ = some (.bool ((rd_T58 x4_1 (ji34)).f2)) ∧ w'.cell? ⟨(ad448.add (((ji34)).toNat * 4)).block, (ad448.add (((ji34)).toNat * 4)).off + 3, none⟩ = some (.bool ((rd_T58 x4_1 (ji34)).f3))) (ds := []) #[false, false, false, false, false, false, false, false, false, false, false, false, false, false, false, false, false, false, false, false, false, false, false, false, false, false, false, false] (by kernel_rfl) rfl rfl ⟨(blk_cell BK446.out 0).trans rfl, (blk_cell BK446.out 1).trans rfl, (blk_cell BK446.out 2).trans rfl, (blk_cell BK446.out 3).trans rfl, hx448_0, hx448_1, hx448_2, hx448_3⟩ (fun hHeld => ?_); refine with_tabW newelref05_Parse.tab8 newelref05_Parse.bits8 (fun HT_ HW_ => ?_)
     generalize w44.drew = w45 at HO_4 BK446 HB hx448_0 hx448_1 hx448_2 hx448_3 hHeld ⊢
     refine pz 0 (some 47) HT_ ?_
     refine pz 1 (some 48) HT_ ?_
     refine pz 2 (some 49) HT_ ?_
     refine tm 3 (some 50) HT_ HW_ hHeld ?_
     refine on 4 (some 51) HT_ (fun K hK => ?_)
     refine goes_ Tryd.func89 (by kernel_rfl) rfl #[.agg #[.string t441, .string t442, .bool t443, .bool t444]] (by rfl) rfl rfl mA ?_
     with_reducible refine (newelref05_May.calls kj8 t441 t442 t443 t444 true _ (gS HG) A31.out).mono ?_
     rintro e w46 ⟨rfl, hb⟩
     have HS4_ := (hb.cell (World.block_lt_of_cell? _ _ (hHeld.2.2.2.2.1))).trans (hHeld.2.2.2.2.1)
     have HS5_ := (hb.cell (World.block_lt_of_cell? _ _ (hHeld.2.2.2.2.2.1))).trans (hHeld.2.2.2.2.2.1)
     have HS6_ := (hb.cell (World.block_lt_of_cell? _ _ (hHeld.2.2.2.2.2.2.1))).trans (hHeld.2.2.2.2.2.2.1)
     have HS7_ := (hb.cell (World.block_lt_of_cell? _ _ (hHeld.2.2.2.2.2.2.2))).trans (hHeld.2.2.2.2.2.2.2)
     refine ⟨_, rfl, ?_⟩
     replace HO_4 := rB HO_4 hb
     replace BK446 := kB BK446 hb
     replace HB := sB hb
     (try clear hb)
     obtain ⟨Ao47, co47, eo47⟩ := Kd.R_slice HO_4.out
     (first | subst eo47 | (injection eo47 with f1_ f2_ f3_; have f4_ := f1_.symm; have f5_ := f3_.symm; clear f1_ f2_ f3_; subst f4_; subst f5_))
     refine hK.out _ _ ⟨(blk_cell BK446.out 0).trans rfl, (blk_cell BK446.out 1).trans rfl, (blk_cell BK446.out 2).trans rfl, (blk_cell BK446.out 3).trans rfl, HS4_, HS5_, HS6_, HS7_⟩ (fun hHeld => ?_)
     clear hK K
     refine nz (some 51) ?_
     refine pz 5 (some 52) HT_ ?_
     refine pz 6 (some 53) HT_ ?_
     refine pz 7 (some 54) HT_ ?_
     refine pz 8 (some 55) HT_ ?_
     refine pz 9 (some 56) HT_ ?_
     refine pz 10 (some 57) HT_ ?_
     refine pz 11 (some 58) HT_ ?_
     refine pz 12 (some 59) HT_ ?_
     refine pz 13 (some 60) HT_ ?_
     refine pz 14 (some 61) HT_ ?_
     refine pz 15 (some 62) HT_ ?_
     refine pz 16 (some 63) HT_ ?_
     refine tm 17 (some 64) HT_ HW_ hHeld ?_
     refine tm 18 (some 65) HT_ HW_ hHeld ?_
     refine on 19 (some 66) HT_ (fun K hK => ?_)
     refine goes_ Tryd.func90 (by kernel_rfl) rfl #[.agg #[.string ((rd_T58 x4_1 (ji34)).f0), .string ((rd_T58 x4_1 (ji34)).f1), .bool ((rd_T58 x4_1 (ji34)).f2), .bool ((rd_T58 x4_1 (ji34)).f3)], .agg #[.string t441, .string t442, .bool t443, .bool t444]] (by rfl) rfl rfl (by (try simp only [List.map_toArray, List.map_cons, List.map_nil]); first | done | (simp only [hji34]; rfl) | rfl | (simp only [List.length_drop, List.length_take]; rfl)) ?_
     with_reducible refine (newelref05_behind.calls kj8 ((rd_T58 x4_1 (ji34)).f0) ((rd_T58 x4_1 (ji34)).f1) ((rd_T58 x4_1 (ji34)).f2) ((rd_T58 x4_1 (ji34)).f3) t441 t442 t443 t444 false _ (gS HG) A37.out).mono ?_
     rintro e w48 ⟨rfl, hb⟩
     have HS4_ := (hb.cell (World.block_lt_of_cell? _ _ (hHeld.2.2.2.2.1))).trans (hHeld.2.2.2.2.1)
     have HS5_ := (hb.cell (World.block_lt_of_cell? _ _ (hHeld.2.2.2.2.2.1))).trans (hHeld.2.2.2.2.2.1)
     have HS6_ := (hb.cell (World.block_lt_of_cell? _ _ (hHeld.2.2.2.2.2.2.1))).trans (hHeld.2.2.2.2.2.2.1)
     have HS7_ := (hb.cell (World.block_lt_of_cell? _ _ (hHeld.2.2.2.2.2.2.2))).trans (hHeld.2.2.2.2.2.2.2)
     refine ⟨_, rfl, ?_⟩
     replace HO_4 := rB HO_4 hb
     replace BK446 := kB BK446 hb
     replace HB := sB hb
     (try clear hb)
     refine hK.out _ _ ⟨(blk_cell BK446.out 0).trans rfl, (blk_cell BK446.out 1).trans rfl, (blk_cell BK446.out 2).trans rfl, (blk_cell BK446.out 3).trans rfl, HS4_, HS5_, HS6_, HS7_⟩ (fun hHeld => ?_)
     clear hK K
     refine nz (some 66) ?_
     refine pz 20 (some 67) HT_ ?_
     refine pz 21 (some 68) HT_ ?_
     refine pz 22 (some 69) HT_ ?_
     refine pz 23 (some 70) HT_ ?_
     refine pu 24 (some 71) HT_ ?_
     refine pu 25 (some 72) HT_ ?_
     refine pu 26 (some 73) HT_ ?_
     refine pz 27 (some 74) HT_ ?_
     refine done_ (done_of HT_.out (by kernel_rfl)) ?_
     try go_wp2
     go_meet
     case rel => exact ⟨_, (true), cA, H', ⟨by have := HK1.out; have := HJ1.out; have := HJ8.out; first | omega | exact Nat.le_refl _⟩, ⟨kR HO_4⟩, ⟨bK BK446⟩, ⟨bG⟩⟩
    clear HC21
    try clear p2
    try clear c3
    try clear c8
    try clear c30
    try clear c32
    obtain ⟨kq, x74_20, rfl, HA, HJ20, HO_4, BK446, HB⟩ := hcut
    cases kq with
    | zero => exact absurd HA.out (by simp [newelref05_Parse.j4])
    | succ kj20 =>
     have H := HA.out
     clear HA
     simp only [newelref05_Parse.j4] at H
     by_cases c58 : x74_20 = true
     ·subst c58
      have H1 : (some (([] : List (S58)), 12)) = some (r1, r2) := by rw [if_pos rfl] at H; exact H
      clear H
      have H := H1
      clear H1
      simp only [Option.some.injEq, Prod.mk.injEq] at H
      obtain ⟨rfl, rfl⟩ := H
      go_wp2
      go_ret2
      exact ⟨_, by first | rfl | (simp [errW_none, errW_some] <;> rfl) | (simp [*, errW_none, errW_some] <;> rfl), by first | exact Kd.R_nil _ _ _ _ _ | exact Kd.N_nil _ _ _ _ _ | exact Kd.V_nil _ _ _ _ _ | exact Kd.Q_nil _ _ _ _ _ | exact Kd.S_nil _ _ _ _ _, bG⟩
     replace c58 := Bool.eq_false_iff.mpr c58
     subst c58
     have H1 : (if x4_1.length < 3518437208883 then ((some (x4_1 ++ [(⟨t441, t442, t443, t444⟩ : S58)] : List (S58))).bind fun y450 => (if 0 ≤ (wrap64 (x5_1 + 1)) then (if (wrap64 (x5_1 + 1)) ≤ (x0_1.size : Int) then (if (x0_1.extract ((wrap64 (x5_1 + 1)) : Int).toNat x0_1.size).toList = ([] : List UInt8) then (some (y450, 0)) else (if 0 < ((x0_1.extract ((wrap64 (x5_1 + 1)) : Int).toNat x0_1.size).size : Int) then (if (bt (x0_1.extract ((wrap64 (x5_1 + 1)) : Int).toNat x0_1.size) 0) = 44 then (if 1 ≤ ((x0_1.extract ((wrap64 (x5_1 + 1)) : Int).toNat x0_1.size).size : Int) then (newelref05_Parse.l0 kj20 ((x0_1.extract ((wrap64 (x5_1 + 1)) : Int).toNat x0_1.size).extract 1 (x0_1.extract ((wrap64 (x5_1 + 1)) : Int).toNat x0_1.size).size) y450) else (none)) else (some (([] : List (S58)), 12))) else (none))) else (none)) else (none))) else (none)) = some (r1, r2) := by rw [if_neg (show ¬ (false = true) by decide)] at H; exact H
     clear H
     have H := H1
     clear H1
     by_cases c59 : x4_1.length < 3518437208883
     rotate_left
     ·rw [if_neg c59] at H
      exact absurd H (by simp)
     rw [if_pos c59] at H
     have LMc59 := Aside0.mk c59
     clear c59
     obtain ⟨y450, hy450⟩ : ∃ y_ : List (S58), y_ = (x4_1 ++ [(⟨t441, t442, t443, t444⟩ : S58)]) := ⟨_, rfl⟩
     replace H : (if 0 ≤ (wrap64 (x5_1 + 1)) then (if (wrap64 (x5_1 + 1)) ≤ (x0_1.size : Int) then (if (x0_1.extract ((wrap64 (x5_1 + 1)) : Int).toNat x0_1.size).toList = ([] : List UInt8) then (some (y450, 0)) else (if 0 < ((x0_1.extract ((wrap64 (x5_1 + 1)) : Int).toNat x0_1.size).size : Int) then (if (bt (x0_1.extract ((wrap64 (x5_1 + 1)) : Int).toNat x0_1.size) 0) = 44 then (if 1 ≤ ((x0_1.extract ((wrap64 (x5_1 + 1)) : Int).toNat x0_1.size).size : Int) then (newelref05_Parse.l0 kj20 ((x0_1.extract ((wrap64 (x5_1 + 1)) : Int).toNat x0_1.size).extract 1 (x0_1.extract ((wrap64 (x5_1 + 1)) : Int).toNat x0_1.size).size) y450) else (none)) else (some (([] : List (S58)), 12))) else (none))) else (none)) else (none)) = some (r1, r2) := by first | (rw [hy450]; with_reducible exact H) | (have H2_ := (Option.bind_some _ _).symm.trans H; rw [hy450]; with_reducible exact H2_) | (have H2_ := (Option.bind_some _ _).symm.trans H; with_reducible exact H2_) | with_reducible exact H | (rw [hy450]; exact H) | exact H
     have Ny450 := Aside0.mk hy450
     clear hy450
     obtain ⟨ji60, hji60⟩ : ∃ j_ : Int, (wrap64 (x5_1 + 1)) = j_ := ⟨_, rfl⟩
     rw [hji60] at H
     have hji60w : (IntKind.i64.wrap (x5_1 + 1)) = ji60 := (i64_w _).trans hji60
     by_cases c61 : 0 ≤ (ji60)
     rotate_left
     ·rw [if_neg c61] at H
      exact absurd H (by simp)
     rw [if_pos c61] at H
     have c61b0 := eq_true c61
     have c61b1 := dT c61
     clear c61
     by_cases c62 : (ji60) ≤ (x0_1.size : Int)
     rotate_left
     ·rw [if_neg c62] at H
      exact absurd H (by simp)
     rw [if_pos c62] at H
     have c62b0 := eq_true c62
     have c62b1 := dT c62
     clear c62
     by_cases c63 : (x0_1.extract ((ji60) : Int).toNat x0_1.size).toList = ([] : List UInt8)
     ·rw [if_pos c63] at H
      obtain ⟨c63b0, c63b1⟩ := eqT c63
      (try (have c63b2 : ((x0_1.extract ((ji60) : Int).toNat x0_1.size).toList).isEmpty = true := by simpa using c63))
      clear c63
      simp only [Option.some.injEq, Prod.mk.injEq] at H
      obtain ⟨rfl, rfl⟩ := H
      obtain ⟨hcz64_0, hcz64_1, hcz64_2, hcz64_3, hfz64_0, hfz64_1, hfz64_2, hfz64_3⟩ := cells4 BK446
      go_wp2_with (first | ((with_reducible refine gate_builtin (b := .append) (xs := #[.tmp 75, .tmp 77]) rfl ?_); (try (refine gate_guard (by rfl) ?_; dsimp only)); at_builtin; refine Kd.R_append k58 (w0 := w) w.heap.size rfl (.tmp 75) (.tmp 77) 55 58 (.agg #[(.string ⟨#[]⟩), (.string ⟨#[]⟩), (.bool false), (.bool false)]) 40 rfl Tryd.underlying55 info58 rfl (by decide) (by omega) u4 x4_1 (⟨t441, t442, t443, t444⟩ : S58) [.string t441, .string t442, .bool t443, .bool t444] (fun k_ => k_ ≠ gb446) (fun _ => False) rfl rfl ?aP (fun _ hk => hk.elim) ?aF ?aO ?aB ?aS ?aL ?_; (case aP => exact k58_mkM _ _ _ (⟨t441, t442, t443, t444⟩ : S58)); (case aB => exact bG); (case aF => exact (fun k_ hk => Kd.freshB (g := gb446) (o := .cells #[.string t441, .string t442, .bool t443, .bool t444] 58 (0, 0)) (bK BK446) k_ hk)); (case aO => exact (kR HO_4)); (case aS => exact (below_size bG)); (case aL => have := LMc59.out; omega); intro v451 w65 ho hb hg hat; rw [← Ny450.out] at ho; replace BK446 := Aside0.mk (blk_grown (g := gb446) (o := .cells #[.string t441, .string t442, .bool t443, .bool t444] 58 (0, 0)) (bK BK446) hg (Kd.R_away HO_4.out (fun _ hk => hk))); replace HB := Aside0.mk (hb); have HO452 := Aside0.mk (ho); clear HO_4; clear ho hb hg hat))
      go_ret2
      exact ⟨_, by first | rfl | (simp [errW_none, errW_some] <;> rfl) | (simp only [← hji60]; first | rfl | (simp [errW_none, errW_some] <;> rfl)) | (simp [*, errW_none, errW_some] <;> rfl), by (with_reducible repeat (first | apply Kd.R_alloc | apply Kd.R_drewN | apply Kd.R_drew)); exact Kd.R_mono HO452.out (fun _ hk => trivial), bG⟩
     rw [if_neg c63] at H
     obtain ⟨c63b0, c63b1⟩ := eqF c63
     (try (have c63b2 : ((x0_1.extract ((ji60) : Int).toNat x0_1.size).toList).isEmpty = false := by simpa using c63))
     by_cases c66 : 0 < ((x0_1.extract ((ji60) : Int).toNat x0_1.size).size : Int)
     rotate_left
     ·rw [if_neg c66] at H
      exact absurd H (by simp)
     rw [if_pos c66] at H
     have c66b0 := dT c66
     have c66b1 : decide (0 < (x0_1.extract ((ji60) : Int).toNat x0_1.size).size) = true := decide_eq_true (by omega)
     try have c66s : (0 < x0_1.size - ji60.toNat) = True := eq_true (by have z_ := of_decide_eq_true c66b1; simp only [ByteArray.size_extract] at z_; omega)
     clear c66
     by_cases c68 : (bt (x0_1.extract ((ji60) : Int).toNat x0_1.size) 0) = 44
     rotate_left
     ·rw [if_neg c68] at H
      obtain ⟨c68b0, c68b1⟩ := eqF c68
      simp only [Option.some.injEq, Prod.mk.injEq] at H
      obtain ⟨rfl, rfl⟩ := H
      obtain ⟨hcz72_0, hcz72_1, hcz72_2, hcz72_3, hfz72_0, hfz72_1, hfz72_2, hfz72_3⟩ := cells4 BK446
      go_wp2_with (first | ((with_reducible refine gate_builtin (b := .append) (xs := #[.tmp 75, .tmp 77]) rfl ?_); (try (refine gate_guard (by rfl) ?_; dsimp only)); at_builtin; refine Kd.R_append k58 (w0 := w) w.heap.size rfl (.tmp 75) (.tmp 77) 55 58 (.agg #[(.string ⟨#[]⟩), (.string ⟨#[]⟩), (.bool false), (.bool false)]) 40 rfl Tryd.underlying55 info58 rfl (by decide) (by omega) u4 x4_1 (⟨t441, t442, t443, t444⟩ : S58) [.string t441, .string t442, .bool t443, .bool t444] (fun k_ => k_ ≠ gb446) (fun _ => False) rfl rfl ?aP (fun _ hk => hk.elim) ?aF ?aO ?aB ?aS ?aL ?_; (case aP => exact k58_mkM _ _ _ (⟨t441, t442, t443, t444⟩ : S58)); (case aB => exact bG); (case aF => exact (fun k_ hk => Kd.freshB (g := gb446) (o := .cells #[.string t441, .string t442, .bool t443, .bool t444] 58 (0, 0)) (bK BK446) k_ hk)); (case aO => exact (kR HO_4)); (case aS => exact (below_size bG)); (case aL => have := LMc59.out; omega); intro v451 w73 ho hb hg hat; rw [← Ny450.out] at ho; replace BK446 := Aside0.mk (blk_grown (g := gb446) (o := .cells #[.string t441, .string t442, .bool t443, .bool t444] 58 (0, 0)) (bK BK446) hg (Kd.R_away HO_4.out (fun _ hk => hk))); replace HB := Aside0.mk (hb); have HO452 := Aside0.mk (ho); clear HO_4; clear ho hb hg hat; have p67 : 0 ≤ (0 : Int) := (by omega); have q67 : 0 < (x0_1.extract ((ji60) : Int).toNat x0_1.size).size := (by have : (0 : Int) < ((x0_1.extract ((ji60) : Int).toNat x0_1.size).size : Int) := dA; omega); have hx67 : ∀ h : 0 < (x0_1.extract ((ji60) : Int).toNat x0_1.size).size, (((x0_1.extract ((ji60) : Int).toNat x0_1.size)[0]'h).toNat : Int) = bt (x0_1.extract ((ji60) : Int).toNat x0_1.size) 0 := bt_at (x0_1.extract ((ji60) : Int).toNat x0_1.size) 0; clear p67; have qi67 : (0 < ((x0_1.extract ((ji60) : Int).toNat x0_1.size).size : Int)) = True := eq_true (dA); replace q67 := eq_true q67))
      go_ret2
      exact ⟨_, by first | rfl | (simp [errW_none, errW_some] <;> rfl) | (simp only [← hji60]; first | rfl | (simp [errW_none, errW_some] <;> rfl)) | (simp [*, errW_none, errW_some] <;> rfl), by first | exact Kd.R_nil _ _ _ _ _ | exact Kd.N_nil _ _ _ _ _ | exact Kd.V_nil _ _ _ _ _ | exact Kd.Q_nil _ _ _ _ _ | exact Kd.S_nil _ _ _ _ _, bG⟩
     rw [if_pos c68] at H
     obtain ⟨c68b0, c68b1⟩ := eqT c68
     clear c68
     by_cases c69 : 1 ≤ ((x0_1.extract ((ji60) : Int).toNat x0_1.size).size : Int)
     rotate_left
     ·rw [if_neg c69] at H
      exact absurd H (by simp)
     rw [if_pos c69] at H
     have c69b0 := eq_true c69
     have c69b1 := dT c69
     try have c69s : (1 ≤ x0_1.size - ji60.toNat) = True := eq_true (by have z_ := of_decide_eq_true c69b1; simp only [ByteArray.size_extract] at z_; omega)
     try have c69i : (((x0_1.size - ji60.toNat : Nat) : Int) < 1) = False := eq_false (by have z_ := of_decide_eq_true c69b1; simp only [ByteArray.size_extract] at z_; omega)
     try have c69j : (1 ≤ ((x0_1.size - ji60.toNat : Nat) : Int)) = True := eq_true (by have z_ := of_decide_eq_true c69b1; simp only [ByteArray.size_extract] at z_; omega)
     clear c69
     have H' := Aside0.mk H
     clear H
     obtain ⟨hcz70_0, hcz70_1, hcz70_2, hcz70_3, hfz70_0, hfz70_1, hfz70_2, hfz70_3⟩ := cells4 BK446
     go_wp2_with (first | ((with_reducible refine gate_builtin (b := .append) (xs := #[.tmp 75, .tmp 77]) rfl ?_); (try (refine gate_guard (by rfl) ?_; dsimp only)); at_builtin; refine Kd.R_append k58 (w0 := w) w.heap.size rfl (.tmp 75) (.tmp 77) 55 58 (.agg #[(.string ⟨#[]⟩), (.string ⟨#[]⟩), (.bool false), (.bool false)]) 40 rfl Tryd.underlying55 info58 rfl (by decide) (by omega) u4 x4_1 (⟨t441, t442, t443, t444⟩ : S58) [.string t441, .string t442, .bool t443, .bool t444] (fun k_ => k_ ≠ gb446) (fun _ => False) rfl rfl ?aP (fun _ hk => hk.elim) ?aF ?aO ?aB ?aS ?aL ?_; (case aP => exact k58_mkM _ _ _ (⟨t441, t442, t443, t444⟩ : S58)); (case aB => exact bG); (case aF => exact (fun k_ hk => Kd.freshB (g := gb446) (o := .cells #[.string t441, .string t442, .bool t443, .bool t444] 58 (0, 0)) (bK BK446) k_ hk)); (case aO => exact (kR HO_4)); (case aS => exact (below_size bG)); (case aL => have := LMc59.out; omega); intro v451 w71 ho hb hg hat; rw [← Ny450.out] at ho; replace BK446 := Aside0.mk (blk_grown (g := gb446) (o := .cells #[.string t441, .string t442, .bool t443, .bool t444] 58 (0, 0)) (bK BK446) hg (Kd.R_away HO_4.out (fun _ hk => hk))); replace HB := Aside0.mk (hb); have HO452 := Aside0.mk (ho); clear HO_4; clear ho hb hg hat; have p67 : 0 ≤ (0 : Int) := (by omega); have q67 : 0 < (x0_1.extract ((ji60) : Int).toNat x0_1.size).size := (by have : (0 : Int) < ((x0_1.extract ((ji60) : Int).toNat x0_1.size).size : Int) := dA; omega); have hx67 : ∀ h : 0 < (x0_1.extract ((ji60) : Int).toNat x0_1.size).size, (((x0_1.extract ((ji60) : Int).toNat x0_1.size)[0]'h).toNat : Int) = bt (x0_1.extract ((ji60) : Int).toNat x0_1.size) 0 := bt_at (x0_1.extract ((ji60) : Int).toNat x0_1.size) 0; clear p67; have qi67 : (0 < ((x0_1.extract ((ji60) : Int).toNat x0_1.size).size : Int)) = True := eq_true (dA); replace q67 := eq_true q67))
     go_roundg kj20
     case measure => have := HK1.out; have := HJ1.out; have := HJ8.out; have := HJ20.out; omega
     case rel => exact ⟨((x0_1.extract ((ji60) : Int).toNat x0_1.size).extract 1 (x0_1.extract ((ji60) : Int).toNat x0_1.size).size), (y450), (by first | rfl | (simp; done) | (simp only [← hji60] <;> (first | rfl | simp)) | (simp [*]; done)), H', ⟨by have := HK1.out; have := HJ1.out; have := HJ8.out; have := HJ20.out; omega⟩, ⟨by (with_reducible repeat (first | apply Kd.R_alloc | apply Kd.R_drewN | apply Kd.R_drew)); exact Kd.R_mono HO452.out (fun _ hk => trivial)⟩, ⟨bG⟩⟩
end Go.Proofs.YtgdjfcmmpjcaaaaDoor.Q
namespace Go.Proofs.YtgdjfcmmpjcaaaaDoor.Q
open Go.RowKit Go.Proofs.YtgdjfcmmpjcaaaaDoorW.PrintWords Go.Proofs.YtgdjfcmmpjcaaaaDoorW.PrintLast Go.Proofs.YtgdjfcmmpjcaaaaDoorW.Own Go.Proofs.YtgdjfcmmpjcaaaaDoorW.PrintMore
attribute [local go_sem] max2_int min2_int max_two min_two max_three min_three max_four min_four   -- for this text's walks alone
set_option linter.unusedVariables false
set_option linter.unusedSimpArgs false
theorem eqA58 (d : Nat) (w : World) (x0 y0 : ByteArray) (x1 y1 : ByteArray) (x2 y2 : Bool) (x3 y3 : Bool) :
    (Op.equalIn (d + 2) 58 (.agg #[.string x0, .string x1, .bool x2, .bool x3]) (.agg #[.string y0, .string y1, .bool y2, .bool y3])).run Tryd.prog w = .ok (x0.toList == y0.toList && (x1.toList == y1.toList && (x2 == y2 && (x3 == y3)))) w := by
  refine eqA_of Tryd.underlying58 (by kernel_rfl) ?_
  refine eqf_cons (by rfl) (by go_simp; rfl) (by go_simp; rfl) (by go_simp) ?_
  refine eqf_cons (by rfl) (by go_simp; rfl) (by go_simp; rfl) (by go_simp) ?_
  refine eqf_cons (by rfl) (by go_simp; rfl) (by go_simp; rfl) (by go_simp) ?_
  exact eqf_last (by rfl) (by go_simp; rfl) (by go_simp; rfl) (by go_simp)
end Go.Proofs.YtgdjfcmmpjcaaaaDoor.Q
namespace Go.Proofs.YtgdjfcmmpjcaaaaDoor.Q
open Go.RowKit Go.Proofs.YtgdjfcmmpjcaaaaDoorW.PrintWords Go.Proofs.YtgdjfcmmpjcaaaaDoorW.PrintLast Go.Proofs.YtgdjfcmmpjcaaaaDoorW.Own Go.Proofs.YtgdjfcmmpjcaaaaDoorW.PrintMore
attribute [local go_sem] max2_int min2_int max_two min_two max_three min_three max_four min_four   -- for this text's walks alone
set_option linter.unusedVariables false
set_option linter.unusedSimpArgs false
set_option maxHeartbeats 8000000
set_option maxRecDepth 100000
section
attribute [local go_sem high] eqA58
def api_Span_1.f (a0_0 : ByteArray) (a0_1 : ByteArray) (a0_2 : Bool) (a0_3 : Bool) (a1_0 : ByteArray) (a1_1 : ByteArray) (a1_2 : Bool) (a1_3 : Bool) : Option (Bool) := some (a0_0.toList == a1_0.toList && (a0_1.toList == a1_1.toList && (a0_2 == a1_2 && (a0_3 == a1_3))))
theorem api_Span_1.calls (a0_0 : ByteArray) (a0_1 : ByteArray) (a0_2 : Bool) (a0_3 : Bool) (a1_0 : ByteArray) (a1_1 : ByteArray) (a1_2 : Bool) (a1_3 : Bool) (r : Bool) (w : World) (hG : Glob w) (h : api_Span_1.f a0_0 a0_1 a0_2 a0_3 a1_0 a1_1 a1_2 a1_3 = some r) :
 Calls Tryd.prog 101 #[.agg #[.string a0_0, .string a0_1, .bool a0_2, .bool a0_3], .agg #[.string a1_0, .string a1_1, .bool a1_2, .bool a1_3]] w fun e w' => e = .returned (.bool r) ∧ Below w.heap.size w w' := by
 have hu58 := Tryd.underlying58
 have HG := Aside0.mk hG
 clear hG
 have HB := Aside0.mk (Below.refl w.heap.size w)
 have H : (some (a0_0.toList == a1_0.toList && (a0_1.toList == a1_1.toList && (a0_2 == a1_2 && (a0_3 == a1_3))))) = some r := h
 clear h
 obtain rfl := Option.some.inj H
 go_enter Tryd.func101, Tryd.ntmps101
 go_wp2_with (first | (refine be 2 #[.string a0_0, .string a0_1, .bool a0_2, .bool a0_3] 58 ?_; intro gb546 hg w3 hbox hb; have BK546 := Aside0.mk (hbox); have GW546 := gW hg; have GE546 := gW hg; replace HB := sB hb; clear hb hbox hg) | (refine be 3 #[.string a1_0, .string a1_1, .bool a1_2, .bool a1_3] 58 ?_; intro gb547 hg w4 hbox hb; have BK547 := Aside0.mk (hbox); have GW547 := gW hg; have GE547 := gW hg; replace HB := sB hb; have NB546_547 := nL BK546 hg; have NB547_546 := nG BK546 hg; replace BK546 := kB BK546 hb; clear hb hbox hg; have hnb5 := NB546_547.out; have hnc5 := NB547_546.out; have hcz6_0 : w4.cell? ⟨gb546, 0, none⟩ = some (.string a0_0) := (blk_cell BK546.out 0).trans rfl; have hcz6_1 : w4.cell? ⟨gb546, 1, none⟩ = some (.string a0_1) := (blk_cell BK546.out 1).trans rfl; have hcz6_2 : w4.cell? ⟨gb546, 2, none⟩ = some (.bool a0_2) := (blk_cell BK546.out 2).trans rfl; have hcz6_3 : w4.cell? ⟨gb546, 3, none⟩ = some (.bool a0_3) := (blk_cell BK546.out 3).trans rfl; have hfz6_0 := blk_frozen BK546.out 0; have hfz6_1 := blk_frozen BK546.out 1; have hfz6_2 := blk_frozen BK546.out 2; have hfz6_3 := blk_frozen BK546.out 3; have hcz7_0 : w4.cell? ⟨gb547, 0, none⟩ = some (.string a1_0) := (blk_cell BK547.out 0).trans rfl; have hcz7_1 : w4.cell? ⟨gb547, 1, none⟩ = some (.string a1_1) := (blk_cell BK547.out 1).trans rfl; have hcz7_2 : w4.cell? ⟨gb547, 2, none⟩ = some (.bool a1_2) := (blk_cell BK547.out 2).trans rfl; have hcz7_3 : w4.cell? ⟨gb547, 3, none⟩ = some (.bool a1_3) := (blk_cell BK547.out 3).trans rfl; have hfz7_0 := blk_frozen BK547.out 0; have hfz7_1 := blk_frozen BK547.out 1; have hfz7_2 := blk_frozen BK547.out 2; have hfz7_3 := blk_frozen BK547.out 3))
 go_ret
 exact ⟨eA, bG⟩
end
end Go.Proofs.YtgdjfcmmpjcaaaaDoor.Q
