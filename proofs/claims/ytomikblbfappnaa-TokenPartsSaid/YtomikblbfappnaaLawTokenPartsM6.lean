/- Texts put together: what functions of the program compute, and plain words about them. -/
import Derived.Test.YtomikblbfappnaaLawTokenPartsM1
import Derived.Test.YtomikblbfappnaaLawTokenPartsM3
import Derived.Test.YtomikblbfappnaaLawTokenPartsM4
import Derived.Test.YtomikblbfappnaaLawTokenPartsM5
import Derived.Test.YtomikblbfappnaaLawTokenPartsM2
import Derived.Deep.RegionLaw
import Derived.Lib.Hide
import Derived.Outline
namespace Go.Proofs.Ytomikblbfappnaa.Q
open Go.RowKit Go.Proofs.YtomikblbfappnaaW.PrintWords Go.Proofs.YtomikblbfappnaaW.PrintLast Go.Proofs.YtomikblbfappnaaW.Own Go.Proofs.YtomikblbfappnaaW.PrintMore
attribute [local go_sem] max2_int min2_int max_two min_two max_three min_three max_four min_four   -- for this text's walks alone
set_option linter.unusedVariables false
set_option linter.unusedSimpArgs false
set_option maxHeartbeats 20000000
set_option maxRecDepth 100000
def newelref01_walk_next.f (k : Nat) (s0_0 : ByteArray) (s0_1 : Int) : Option (Int × ByteArray × ByteArray × (List (S39)) × Bool × Bool × ByteArray × Int) := (newelref01_begins.f s0_0 (⟨#[60, 33, 45, 45]⟩ : ByteArray) s0_1).bind fun t365 => (if t365 = true then ((newelref01_walk_comment.f k s0_0 s0_1).bind fun bt366 => (some (bt366.1, bt366.2.1, bt366.2.2.1, bt366.2.2.2.1, bt366.2.2.2.2.1, bt366.2.2.2.2.2.1, bt366.2.2.2.2.2.2.1, bt366.2.2.2.2.2.2.2))) else ((newelref01_begins.f s0_0 (⟨#[60, 33, 91, 67, 68, 65, 84, 65, 91]⟩ : ByteArray) s0_1).bind fun t376 => (if t376 = true then ((newelref01_walk_upto.f k s0_0 s0_1 (wrap64 (s0_1 + 9)) (⟨#[93, 93, 62]⟩ : ByteArray)).bind fun bt377 => (some (3, (⟨#[]⟩ : ByteArray), bt377.1, ([] : List (S39)), false, bt377.2.1, bt377.2.2.1, bt377.2.2.2))) else ((newelref01_begins.f s0_0 (⟨#[60, 63]⟩ : ByteArray) s0_1).bind fun t381 => (if t381 = true then ((newelref01_walk_upto.f k s0_0 s0_1 (wrap64 (s0_1 + 2)) (⟨#[63, 62]⟩ : ByteArray)).bind fun bt382 => (if bt382.2.1 = true then (some (5, (⟨#[]⟩ : ByteArray), bt382.1, ([] : List (S39)), false, (s0_1 == 0), bt382.2.2.1, bt382.2.2.2)) else (some (5, (⟨#[]⟩ : ByteArray), bt382.1, ([] : List (S39)), false, false, bt382.2.2.1, bt382.2.2.2)))) else ((newelref01_begins.f s0_0 (⟨#[60, 47]⟩ : ByteArray) s0_1).bind fun t386 => (if t386 = true then ((newelref01_walk_closing.f k s0_0 s0_1).bind fun bt387 => (some (bt387.1, bt387.2.1, bt387.2.2.1, bt387.2.2.2.1, bt387.2.2.2.2.1, bt387.2.2.2.2.2.1, bt387.2.2.2.2.2.2.1, bt387.2.2.2.2.2.2.2))) else ((newelref01_begins.f s0_0 (⟨#[60]⟩ : ByteArray) s0_1).bind fun t397 => (if t397 = true then ((newelref01_walk_open.f k s0_0 s0_1).bind fun bt398 => (some (bt398.1, bt398.2.1, bt398.2.2.1, bt398.2.2.2.1, bt398.2.2.2.2.1, bt398.2.2.2.2.2.1, bt398.2.2.2.2.2.2.1, bt398.2.2.2.2.2.2.2))) else ((newelref01_find.f k s0_0 (⟨#[60]⟩ : ByteArray) s0_1).bind fun t408 => (if t408 < 0 then (if 0 ≤ s0_1 then (if s0_1 ≤ (s0_0.size : Int) then (if (s0_0.size : Int) ≤ (s0_0.size : Int) then ((newelref01_Entities.f k (s0_0.extract (s0_1 : Int).toNat ((s0_0.size : Int) : Int).toNat)).bind fun bt409 => (some (3, (⟨#[]⟩ : ByteArray), bt409.1, ([] : List (S39)), false, (bt409.2 == 0), s0_0, (s0_0.size : Int)))) else (none)) else (none)) else (none)) else (if 0 ≤ s0_1 then (if s0_1 ≤ t408 then (if t408 ≤ (s0_0.size : Int) then ((newelref01_Entities.f k (s0_0.extract (s0_1 : Int).toNat (t408 : Int).toNat)).bind fun bt411 => (some (3, (⟨#[]⟩ : ByteArray), bt411.1, ([] : List (S39)), false, (bt411.2 == 0), s0_0, t408))) else (none)) else (none)) else (none)))))))))))))
theorem newelref01_walk_next.mono : ∀ a0 a1 k, LeO (newelref01_walk_next.f k a0 a1) (newelref01_walk_next.f (k + 1) a0 a1) := by
 intro a0 a1 k
 unfold newelref01_walk_next.f
 have m0 := @newelref01_Entities.mono
 have m1 := @newelref01_find.mono
 have m2 := @newelref01_walk_closing.mono
 have m3 := @newelref01_walk_comment.mono
 have m4 := @newelref01_walk_open.mono
 have m5 := @newelref01_walk_upto.mono
 exact mo
def newelref01_walk_next.T1 : Bool × List (List Nat × List Nat) := (true, [([], []), ([0], [0]), ([1], [1]), ([2], [2]), ([], []), ([4], [4]), ([5], [5]), ([6], [6]), ([3, 7], [3, 7]), ([8, 8], [8])])
def newelref01_walk_next.B1 : List Nat := [0, 1, 3, 7, 0, 16, 48, 112, 255, 511]
theorem newelref01_walk_next.tab1 : rtab .any (opsOf Try.f27 1) = newelref01_walk_next.T1 := by kernel_rfl
theorem newelref01_walk_next.bits1 : waitsOk newelref01_walk_next.T1.2 newelref01_walk_next.B1 = true := by kernel_rfl
def newelref01_walk_next.T3 : Bool × List (List Nat × List Nat) := (true, [([], []), ([0], [0]), ([1], [1]), ([2], [2]), ([], []), ([4], [4]), ([5], [5]), ([6], [6]), ([3, 7], [3, 7]), ([8, 8], [8])])
def newelref01_walk_next.B3 : List Nat := [0, 1, 3, 7, 0, 16, 48, 112, 255, 511]
theorem newelref01_walk_next.tab3 : rtab .any (opsOf Try.f27 3) = newelref01_walk_next.T3 := by kernel_rfl
theorem newelref01_walk_next.bits3 : waitsOk newelref01_walk_next.T3.2 newelref01_walk_next.B3 = true := by kernel_rfl
def newelref01_walk_next.T6 : Bool × List (List Nat × List Nat) := (true, [([], []), ([0], [0]), ([1], [1]), ([2], [2]), ([], []), ([4], [4]), ([5], [5]), ([6], [6]), ([3, 7], [3, 7]), ([8, 8], [8])])
def newelref01_walk_next.B6 : List Nat := [0, 1, 3, 7, 0, 16, 48, 112, 255, 511]
theorem newelref01_walk_next.tab6 : rtab .any (opsOf Try.f27 6) = newelref01_walk_next.T6 := by kernel_rfl
theorem newelref01_walk_next.bits6 : waitsOk newelref01_walk_next.T6.2 newelref01_walk_next.B6 = true := by kernel_rfl
def newelref01_walk_next.T10 : Bool × List (List Nat × List Nat) := (true, [([], []), ([0], [0]), ([1], [1]), ([2], [2]), ([], []), ([4], [4]), ([5], [5]), ([6], [6]), ([3, 7], [3, 7]), ([8, 8], [8])])
def newelref01_walk_next.B10 : List Nat := [0, 1, 3, 7, 0, 16, 48, 112, 255, 511]
theorem newelref01_walk_next.tab10 : rtab .any (opsOf Try.f27 10) = newelref01_walk_next.T10 := by kernel_rfl
theorem newelref01_walk_next.bits10 : waitsOk newelref01_walk_next.T10.2 newelref01_walk_next.B10 = true := by kernel_rfl
def newelref01_walk_next.T12 : Bool × List (List Nat × List Nat) := (true, [([], []), ([0], [0]), ([1], [1]), ([2], [2]), ([], []), ([4], [4]), ([5], [5]), ([6], [6]), ([3, 7], [3, 7]), ([8, 8], [8])])
def newelref01_walk_next.B12 : List Nat := [0, 1, 3, 7, 0, 16, 48, 112, 255, 511]
theorem newelref01_walk_next.tab12 : rtab .any (opsOf Try.f27 12) = newelref01_walk_next.T12 := by kernel_rfl
theorem newelref01_walk_next.bits12 : waitsOk newelref01_walk_next.T12.2 newelref01_walk_next.B12 = true := by kernel_rfl
def newelref01_walk_next.T14 : Bool × List (List Nat × List Nat) := (true, [([], []), ([0], [0]), ([1], [1]), ([2], [2]), ([], []), ([4], [4]), ([5], [5]), ([6], [6]), ([3, 7], [3, 7]), ([8, 8, 0, 1, 2, 3, 4, 5, 6, 7, 8], [8])])
def newelref01_walk_next.B14 : List Nat := [0, 1, 3, 7, 0, 16, 48, 112, 255, 511]
theorem newelref01_walk_next.tab14 : rtab .any (opsOf Try.f27 14) = newelref01_walk_next.T14 := by kernel_rfl
theorem newelref01_walk_next.bits14 : waitsOk newelref01_walk_next.T14.2 newelref01_walk_next.B14 = true := by kernel_rfl
def newelref01_walk_next.T17 : Bool × List (List Nat × List Nat) := (true, [([], []), ([0], [0]), ([1], [1]), ([2], [2]), ([], []), ([4], [4]), ([5], [5]), ([6], [6]), ([], []), ([3, 7, 8], [3, 7, 8]), ([9], [9]), ([10], [10]), ([11], [11]), ([11], [11]), ([12, 10, 0, 1, 2, 3, 4, 5, 6, 7, 8, 9, 10, 11, 12], [12]), ([13, 14, 0, 1, 2, 3, 4, 5, 6, 7, 8, 9, 10, 11, 12, 13, 14], [13])])
def newelref01_walk_next.B17 : List Nat := [0, 1, 3, 7, 0, 16, 48, 112, 0, 511, 1023, 2047, 4095, 4095, 8191, 32767]
theorem newelref01_walk_next.tab17 : rtab .any (opsOf Try.f27 17) = newelref01_walk_next.T17 := by kernel_rfl
theorem newelref01_walk_next.bits17 : waitsOk newelref01_walk_next.T17.2 newelref01_walk_next.B17 = true := by kernel_rfl
theorem newelref01_walk_next.calls (k : Nat) (g : Nat) (s0_0 : ByteArray) (s0_1 : Int) (r1 : Int) (r2 : ByteArray) (r3 : ByteArray) (r4 : List (S39)) (r5 : Bool) (r6 : Bool) (r7 : ByteArray) (r8 : Int) (w0 w : World) (hI : IsS58 w0 w g s0_0 s0_1) (hB : Below w0.heap.size w0 w) (hG : Glob w0) (h : newelref01_walk_next.f k s0_0 s0_1 = some (r1, r2, r3, r4, r5, r6, r7, r8)) :
 Calls Try.prog 27 #[.pointer (some ⟨g, 0, none⟩)] w fun e w' => ∃ v3_ : Value, e = .returned (.tuple #[.agg #[.int .i64 r1, .string r2, .string r3, v3_, .bool r5], .bool r6]) ∧ Kd.R k39 39 w' w.heap.size (fun _ => True) v3_ r4 ∧ IsS58 w0 w' g r7 r8 ∧ Below w0.heap.size w0 w' ∧ KeepBut w w' g none := by
 have hu32 := Try.underlying32
 have HG := Aside0.mk hG
 clear hG
 have HI0 := Aside0.mk hI
 have HK := Aside0.mk (KeepBut.refl w g none)
 have HL := Aside0.mk hB.size
 clear hI
 have HW0 := Aside0.mk hB.size
 have HB := Aside0.mk hB
 clear hB
 have H : ((newelref01_begins.f s0_0 (⟨#[60, 33, 45, 45]⟩ : ByteArray) s0_1).bind fun t365 => (if t365 = true then ((newelref01_walk_comment.f k s0_0 s0_1).bind fun bt366 => (some (bt366.1, bt366.2.1, bt366.2.2.1, bt366.2.2.2.1, bt366.2.2.2.2.1, bt366.2.2.2.2.2.1, bt366.2.2.2.2.2.2.1, bt366.2.2.2.2.2.2.2))) else ((newelref01_begins.f s0_0 (⟨#[60, 33, 91, 67, 68, 65, 84, 65, 91]⟩ : ByteArray) s0_1).bind fun t376 => (if t376 = true then ((newelref01_walk_upto.f k s0_0 s0_1 (wrap64 (s0_1 + 9)) (⟨#[93, 93, 62]⟩ : ByteArray)).bind fun bt377 => (some (3, (⟨#[]⟩ : ByteArray), bt377.1, ([] : List (S39)), false, bt377.2.1, bt377.2.2.1, bt377.2.2.2))) else ((newelref01_begins.f s0_0 (⟨#[60, 63]⟩ : ByteArray) s0_1).bind fun t381 => (if t381 = true then ((newelref01_walk_upto.f k s0_0 s0_1 (wrap64 (s0_1 + 2)) (⟨#[63, 62]⟩ : ByteArray)).bind fun bt382 => (if bt382.2.1 = true then (some (5, (⟨#[]⟩ : ByteArray), bt382.1, ([] : List (S39)), false, (s0_1 == 0), bt382.2.2.1, bt382.2.2.2)) else (some (5, (⟨#[]⟩ : ByteArray), bt382.1, ([] : List (S39)), false, false, bt382.2.2.1, bt382.2.2.2)))) else ((newelref01_begins.f s0_0 (⟨#[60, 47]⟩ : ByteArray) s0_1).bind fun t386 => (if t386 = true then ((newelref01_walk_closing.f k s0_0 s0_1).bind fun bt387 => (some (bt387.1, bt387.2.1, bt387.2.2.1, bt387.2.2.2.1, bt387.2.2.2.2.1, bt387.2.2.2.2.2.1, bt387.2.2.2.2.2.2.1, bt387.2.2.2.2.2.2.2))) else ((newelref01_begins.f s0_0 (⟨#[60]⟩ : ByteArray) s0_1).bind fun t397 => (if t397 = true then ((newelref01_walk_open.f k s0_0 s0_1).bind fun bt398 => (some (bt398.1, bt398.2.1, bt398.2.2.1, bt398.2.2.2.1, bt398.2.2.2.2.1, bt398.2.2.2.2.2.1, bt398.2.2.2.2.2.2.1, bt398.2.2.2.2.2.2.2))) else ((newelref01_find.f k s0_0 (⟨#[60]⟩ : ByteArray) s0_1).bind fun t408 => (if t408 < 0 then (if 0 ≤ s0_1 then (if s0_1 ≤ (s0_0.size : Int) then (if (s0_0.size : Int) ≤ (s0_0.size : Int) then ((newelref01_Entities.f k (s0_0.extract (s0_1 : Int).toNat ((s0_0.size : Int) : Int).toNat)).bind fun bt409 => (some (3, (⟨#[]⟩ : ByteArray), bt409.1, ([] : List (S39)), false, (bt409.2 == 0), s0_0, (s0_0.size : Int)))) else (none)) else (none)) else (none)) else (if 0 ≤ s0_1 then (if s0_1 ≤ t408 then (if t408 ≤ (s0_0.size : Int) then ((newelref01_Entities.f k (s0_0.extract (s0_1 : Int).toNat (t408 : Int).toNat)).bind fun bt411 => (some (3, (⟨#[]⟩ : ByteArray), bt411.1, ([] : List (S39)), false, (bt411.2 == 0), s0_0, t408))) else (none)) else (none)) else (none)))))))))))))) = some (r1, r2, r3, r4, r5, r6, r7, r8) := h
 clear h
 replace H := bi H
 obtain ⟨t365, A20, H⟩ := H
 try dsimp only at H
 have A2 := Aside0.mk A20
 clear A20
 by_cases c3 : t365 = true
 ·subst c3
  replace H : ((newelref01_walk_comment.f k s0_0 s0_1).bind fun bt366 => (some (bt366.1, bt366.2.1, bt366.2.2.1, bt366.2.2.2.1, bt366.2.2.2.2.1, bt366.2.2.2.2.2.1, bt366.2.2.2.2.2.2.1, bt366.2.2.2.2.2.2.2))) = some (r1, r2, r3, r4, r5, r6, r7, r8) := by rw [if_pos rfl] at H; exact H
  replace H := bi H
  obtain ⟨⟨t366, t367, t368, t369, t372, t373, t374, t375⟩, A40, H⟩ := H
  try dsimp only at H
  have A4 := Aside0.mk A40
  clear A40
  simp only [Option.some.injEq, Prod.mk.injEq] at H
  obtain ⟨rfl, rfl, rfl, rfl, rfl, rfl, rfl, rfl⟩ := H
  go_enter Try.func27, Try.ntmps27
  try go_wp2_with (first | (refine be 2 #[.int .i64 0, .string (⟨#[]⟩ : ByteArray), .string (⟨#[]⟩ : ByteArray), .slice none 0 0, .bool false] 32 ?_; intro gb364 hg w5 hbox hb; replace HB := Aside0.mk (below_step (by repeat (first | (with_reducible first | exact HB.out | apply below_alloc | apply pw_below_drewN | apply below_drew1 | refine below_set ?_ (IsS58.ge HI0.out)) | exact HB.out)) hb); have BK364 := Aside0.mk (hbox); have GW364 := Aside0.mk ((by rw [hg]; exact (keep_size (w := w) (g := g) (row := none) (by repeat (first | (with_reducible first | exact HK.out | apply KeepBut.set_ | apply keep_drewN | apply keep_drew | apply keep_alloc) | exact HK.out))) : w.heap.size ≤ gb364)); have GE364 := Aside0.mk ((Nat.le_trans HW0.out (by rw [hg]; exact (keep_size (w := w) (g := g) (row := none) (by repeat (first | (with_reducible first | exact HK.out | apply KeepBut.set_ | apply keep_drewN | apply keep_drew | apply keep_alloc) | exact HK.out))) : w.heap.size ≤ gb364) : w0.heap.size ≤ gb364)); replace HK := Aside0.mk (KeepBut.trans (by repeat (first | (with_reducible first | exact HK.out | apply KeepBut.set_ | apply keep_drewN | apply keep_drew | apply keep_alloc) | exact HK.out)) (KeepBut.of_below hb g none) (.inl rfl)); have NB0_364 := Aside0.mk ((by rw [hg]; exact Nat.ne_of_lt (IsS58.lt (show IsS58 w0 _ g s0_0 s0_1 from by repeat (first | (with_reducible first | exact HI0.out | apply IsS58.alloc | apply IsS58.drewN | apply IsS58.drew | apply IsS58.set_0 | apply IsS58.set_1) | exact HI0.out))) : g ≠ gb364)); have NB364_0 := Aside0.mk ((by rw [hg]; exact Nat.ne_of_gt (IsS58.lt (show IsS58 w0 _ g s0_0 s0_1 from by repeat (first | (with_reducible first | exact HI0.out | apply IsS58.alloc | apply IsS58.drewN | apply IsS58.drew | apply IsS58.set_0 | apply IsS58.set_1) | exact HI0.out))) : gb364 ≠ g)); replace HI0 := Aside0.mk (IsS58.below (by repeat (first | (with_reducible first | exact HI0.out | apply IsS58.alloc | apply IsS58.drewN | apply IsS58.drew | apply IsS58.set_0 | apply IsS58.set_1) | exact HI0.out)) hb); clear hb hbox hg))
  replace BK364 := Aside0.mk (blk_drew BK364.out)
  replace HI0 := Aside0.mk (IsS58.drew HI0.out)
  replace HK := Aside0.mk (keep_drew HK.out)
  replace HB := Aside0.mk (below_drew1 HB.out)
  refine start_ (n := 10) (S := fun w' => w'.cell? ⟨g, 0, none⟩ = some (.string s0_0) ∧ w'.cell? ⟨g, 1, none⟩ = some (.int .i64 s0_1)) (ds := []) #[false, false, false, false, false, false, false, false, false, false] (by kernel_rfl) rfl rfl ⟨(cellS58_0 HI0.out.1), (cellS58_1 HI0.out.1)⟩ (fun hHeld => ?_); refine with_tabW newelref01_walk_next.tab1 newelref01_walk_next.bits1 (fun HT_ HW_ => ?_)
  generalize w5.drew = w6 at BK364 HI0 HK HB hHeld ⊢
  refine pz 0 (some 13) HT_ ?_
  refine pz 1 (some 14) HT_ ?_
  refine pz 2 (some 15) HT_ ?_
  refine pz 4 (some 17) HT_ ?_
  refine pz 5 (some 18) HT_ ?_
  refine pz 6 (some 19) HT_ ?_
  refine tm 3 (some 16) HT_ HW_ hHeld ?_
  refine tm 7 (some 20) HT_ HW_ hHeld ?_
  refine on 8 (some 21) HT_ (fun K hK => ?_)
  refine goes_ Try.func46 (by kernel_rfl) rfl #[.string s0_0, .string (⟨#[60, 33, 45, 45]⟩ : ByteArray), .int .i64 s0_1] (by rfl) rfl rfl mA ?_
  with_reducible refine (newelref01_begins.calls s0_0 (⟨#[60, 33, 45, 45]⟩ : ByteArray) s0_1 true _ ?side1 A2.out).mono ?_
  (case side1 => exact Glob.step HG.out (by repeat (first | (with_reducible first | exact HB.out | apply below_alloc | apply pw_below_drewN | apply below_drew1 | refine below_set ?_ (IsS58.ge HI0.out) | refine below_set ?_ GE364.out) | exact HB.out)))
  rintro e w' ⟨rfl, ⟨nd, rfl⟩⟩
  refine ⟨_, rfl, ?_⟩
  refine hK.out _ _ ⟨(cellS58_0 HI0.out.1), (cellS58_1 HI0.out.1)⟩ (fun hHeld => ?_)
  clear hK K
  refine nz (some 21) ?_
  refine pz 9 (some 12) HT_ ?_
  refine done_ (done_of HT_.out (by kernel_rfl)) ?_
  try go_wp2_with (first | (refine gl (some 23) Try.func47 #[.pointer (some ⟨g, 0, none⟩)] ?_; (with_reducible refine (newelref01_walk_comment.calls k g s0_0 s0_1 t366 t367 t368 t369 t372 t373 t374 t375 w0 _ ?side1 ?side2 ?side3 A4.out).mono ?_); (case side1 => repeat (first | (with_reducible first | exact HI0.out | apply IsS58.alloc | apply IsS58.drewN | apply IsS58.drew | apply IsS58.set_0 | apply IsS58.set_1 | refine IsS58.far ?_ NB0_364.out _) | exact HI0.out)); (case side2 => repeat (first | (with_reducible first | exact HB.out | apply below_alloc | apply pw_below_drewN | apply below_drew1 | refine below_set ?_ (IsS58.ge HI0.out) | refine below_set ?_ GE364.out) | exact HB.out)); (case side3 => exact HG.out); rintro e w7 ⟨v370, rfl, ho0, hi, hb, hk⟩; refine ⟨_, rfl, ?_⟩; replace BK364 := Aside0.mk (KeepBut.blk hk (g' := gb364) (o := .cells #[.int .i64 0, .string (⟨#[]⟩ : ByteArray), .string (⟨#[]⟩ : ByteArray), .slice none 0 0, .bool false] 32 (0, 0)) (bK BK364) NB364_0.out (by simp)); have HO371 := Aside0.mk (Kd.R_lower ho0 (keep_size (w := w) (g := g) (row := none) (by repeat (first | (with_reducible first | exact HK.out | apply KeepBut.set_ | apply keep_drewN | apply keep_drew | apply keep_alloc | refine keep_far ?_ GW364.out _) | exact HK.out)))); replace HK := Aside0.mk (KeepBut.trans (by repeat (first | (with_reducible first | exact HK.out | apply KeepBut.set_ | apply keep_drewN | apply keep_drew | apply keep_alloc | refine keep_far ?_ GW364.out _) | exact HK.out)) hk (.inl rfl)); replace HB := Aside0.mk (hb); replace HI0 := Aside0.mk (hi); (try clear hb); (try clear hk); (try clear hi); (try clear ho0); have hnb8 := NB364_0.out; have hnc8 := NB0_364.out; have hcz9_0 : w7.cell? ⟨gb364, 0, none⟩ = some (.int .i64 0) := (blk_cell BK364.out 0).trans rfl; have hcz9_1 : w7.cell? ⟨gb364, 1, none⟩ = some (.string (⟨#[]⟩ : ByteArray)) := (blk_cell BK364.out 1).trans rfl; have hcz9_2 : w7.cell? ⟨gb364, 2, none⟩ = some (.string (⟨#[]⟩ : ByteArray)) := (blk_cell BK364.out 2).trans rfl; have hcz9_3 : w7.cell? ⟨gb364, 3, none⟩ = some (.slice none 0 0) := (blk_cell BK364.out 3).trans rfl; have hcz9_4 : w7.cell? ⟨gb364, 4, none⟩ = some (.bool false) := (blk_cell BK364.out 4).trans rfl; have hfz9_0 := blk_frozen BK364.out 0; have hfz9_1 := blk_frozen BK364.out 1; have hfz9_2 := blk_frozen BK364.out 2; have hfz9_3 := blk_frozen BK364.out 3; have hfz9_4 := blk_frozen BK364.out 4; obtain ⟨Ao10, co10, eo10⟩ := Kd.R_slice HO371.out; subst eo10))
  refine bodyPost_ret (results_ct rfl _ _ gb364 32 #[.int .i64 t366, .string t367, .string t368, .slice Ao10 t369.length co10, .bool t372] (0, 0) _ rfl (bP BK364) Try.underlying32 rfl (by kernel_rfl)) rfl ?_
  exact ⟨_, by first | rfl | (simp [errW_none, errW_some] <;> rfl) | (simp [*, errW_none, errW_some] <;> rfl), by (with_reducible repeat (first | apply Kd.R_alloc | apply Kd.R_drewN | apply Kd.R_drew)); exact Kd.R_mono (Kd.R_far (p := ⟨gb364, 4, none⟩) (Kd.R_far (p := ⟨gb364, 3, none⟩) (Kd.R_far (p := ⟨gb364, 2, none⟩) (Kd.R_far (p := ⟨gb364, 1, none⟩) (Kd.R_far (p := ⟨gb364, 0, none⟩) (Kd.R_types HO371.out BK364.out (by decide)) (fun _ hk => hk.2) (.int .i64 t366)) (fun _ hk => hk.2) (.string t367)) (fun _ hk => hk.2) (.string t368)) (fun _ hk => hk.2) (.slice Ao10 t369.length co10)) (fun _ hk => hk.2) (.bool t372)) (fun _ hk => trivial), by repeat (first | (with_reducible first | exact HI0.out | apply IsS58.alloc | apply IsS58.drewN | apply IsS58.drew | apply IsS58.set_0 | apply IsS58.set_1 | refine IsS58.far ?_ NB0_364.out _) | exact HI0.out), by repeat (first | (with_reducible first | exact HB.out | apply below_alloc | apply pw_below_drewN | apply below_drew1 | refine below_set ?_ (IsS58.ge HI0.out) | refine below_set ?_ GE364.out) | exact HB.out), by repeat (first | (with_reducible first | exact HK.out | apply KeepBut.set_ | apply keep_drewN | apply keep_drew | apply keep_alloc | refine keep_far ?_ GW364.out _) | exact HK.out)⟩
 replace c3 := Bool.eq_false_iff.mpr c3
 subst c3
 replace H : ((newelref01_begins.f s0_0 (⟨#[60, 33, 91, 67, 68, 65, 84, 65, 91]⟩ : ByteArray) s0_1).bind fun t376 => (if t376 = true then ((newelref01_walk_upto.f k s0_0 s0_1 (wrap64 (s0_1 + 9)) (⟨#[93, 93, 62]⟩ : ByteArray)).bind fun bt377 => (some (3, (⟨#[]⟩ : ByteArray), bt377.1, ([] : List (S39)), false, bt377.2.1, bt377.2.2.1, bt377.2.2.2))) else ((newelref01_begins.f s0_0 (⟨#[60, 63]⟩ : ByteArray) s0_1).bind fun t381 => (if t381 = true then ((newelref01_walk_upto.f k s0_0 s0_1 (wrap64 (s0_1 + 2)) (⟨#[63, 62]⟩ : ByteArray)).bind fun bt382 => (if bt382.2.1 = true then (some (5, (⟨#[]⟩ : ByteArray), bt382.1, ([] : List (S39)), false, (s0_1 == 0), bt382.2.2.1, bt382.2.2.2)) else (some (5, (⟨#[]⟩ : ByteArray), bt382.1, ([] : List (S39)), false, false, bt382.2.2.1, bt382.2.2.2)))) else ((newelref01_begins.f s0_0 (⟨#[60, 47]⟩ : ByteArray) s0_1).bind fun t386 => (if t386 = true then ((newelref01_walk_closing.f k s0_0 s0_1).bind fun bt387 => (some (bt387.1, bt387.2.1, bt387.2.2.1, bt387.2.2.2.1, bt387.2.2.2.2.1, bt387.2.2.2.2.2.1, bt387.2.2.2.2.2.2.1, bt387.2.2.2.2.2.2.2))) else ((newelref01_begins.f s0_0 (⟨#[60]⟩ : ByteArray) s0_1).bind fun t397 => (if t397 = true then ((newelref01_walk_open.f k s0_0 s0_1).bind fun bt398 => (some (bt398.1, bt398.2.1, bt398.2.2.1, bt398.2.2.2.1, bt398.2.2.2.2.1, bt398.2.2.2.2.2.1, bt398.2.2.2.2.2.2.1, bt398.2.2.2.2.2.2.2))) else ((newelref01_find.f k s0_0 (⟨#[60]⟩ : ByteArray) s0_1).bind fun t408 => (if t408 < 0 then (if 0 ≤ s0_1 then (if s0_1 ≤ (s0_0.size : Int) then (if (s0_0.size : Int) ≤ (s0_0.size : Int) then ((newelref01_Entities.f k (s0_0.extract (s0_1 : Int).toNat ((s0_0.size : Int) : Int).toNat)).bind fun bt409 => (some (3, (⟨#[]⟩ : ByteArray), bt409.1, ([] : List (S39)), false, (bt409.2 == 0), s0_0, (s0_0.size : Int)))) else (none)) else (none)) else (none)) else (if 0 ≤ s0_1 then (if s0_1 ≤ t408 then (if t408 ≤ (s0_0.size : Int) then ((newelref01_Entities.f k (s0_0.extract (s0_1 : Int).toNat (t408 : Int).toNat)).bind fun bt411 => (some (3, (⟨#[]⟩ : ByteArray), bt411.1, ([] : List (S39)), false, (bt411.2 == 0), s0_0, t408))) else (none)) else (none)) else (none)))))))))))) = some (r1, r2, r3, r4, r5, r6, r7, r8) := by rw [if_neg nF] at H; exact H
 replace H := bi H
 obtain ⟨t376, A110, H⟩ := H
 try dsimp only at H
 have A11 := Aside0.mk A110
 clear A110
 by_cases c12 : t376 = true
 ·subst c12
  replace H : ((newelref01_walk_upto.f k s0_0 s0_1 (wrap64 (s0_1 + 9)) (⟨#[93, 93, 62]⟩ : ByteArray)).bind fun bt377 => (some (3, (⟨#[]⟩ : ByteArray), bt377.1, ([] : List (S39)), false, bt377.2.1, bt377.2.2.1, bt377.2.2.2))) = some (r1, r2, r3, r4, r5, r6, r7, r8) := by rw [if_pos rfl] at H; exact H
  replace H := bi H
  obtain ⟨⟨t377, t378, t379, t380⟩, A130, H⟩ := H
  try dsimp only at H
  have A13 := Aside0.mk A130
  clear A130
  simp only [Option.some.injEq, Prod.mk.injEq] at H
  obtain ⟨rfl, rfl, rfl, rfl, rfl, rfl, rfl, rfl⟩ := H
  go_enter Try.func27, Try.ntmps27
  try go_wp2_with (first | (refine be 2 #[.int .i64 0, .string (⟨#[]⟩ : ByteArray), .string (⟨#[]⟩ : ByteArray), .slice none 0 0, .bool false] 32 ?_; intro gb364 hg w14 hbox hb; replace HB := Aside0.mk (below_step (by repeat (first | (with_reducible first | exact HB.out | apply below_alloc | apply pw_below_drewN | apply below_drew1 | refine below_set ?_ (IsS58.ge HI0.out)) | exact HB.out)) hb); have BK364 := Aside0.mk (hbox); have GW364 := Aside0.mk ((by rw [hg]; exact (keep_size (w := w) (g := g) (row := none) (by repeat (first | (with_reducible first | exact HK.out | apply KeepBut.set_ | apply keep_drewN | apply keep_drew | apply keep_alloc) | exact HK.out))) : w.heap.size ≤ gb364)); have GE364 := Aside0.mk ((Nat.le_trans HW0.out (by rw [hg]; exact (keep_size (w := w) (g := g) (row := none) (by repeat (first | (with_reducible first | exact HK.out | apply KeepBut.set_ | apply keep_drewN | apply keep_drew | apply keep_alloc) | exact HK.out))) : w.heap.size ≤ gb364) : w0.heap.size ≤ gb364)); replace HK := Aside0.mk (KeepBut.trans (by repeat (first | (with_reducible first | exact HK.out | apply KeepBut.set_ | apply keep_drewN | apply keep_drew | apply keep_alloc) | exact HK.out)) (KeepBut.of_below hb g none) (.inl rfl)); have NB0_364 := Aside0.mk ((by rw [hg]; exact Nat.ne_of_lt (IsS58.lt (show IsS58 w0 _ g s0_0 s0_1 from by repeat (first | (with_reducible first | exact HI0.out | apply IsS58.alloc | apply IsS58.drewN | apply IsS58.drew | apply IsS58.set_0 | apply IsS58.set_1) | exact HI0.out))) : g ≠ gb364)); have NB364_0 := Aside0.mk ((by rw [hg]; exact Nat.ne_of_gt (IsS58.lt (show IsS58 w0 _ g s0_0 s0_1 from by repeat (first | (with_reducible first | exact HI0.out | apply IsS58.alloc | apply IsS58.drewN | apply IsS58.drew | apply IsS58.set_0 | apply IsS58.set_1) | exact HI0.out))) : gb364 ≠ g)); replace HI0 := Aside0.mk (IsS58.below (by repeat (first | (with_reducible first | exact HI0.out | apply IsS58.alloc | apply IsS58.drewN | apply IsS58.drew | apply IsS58.set_0 | apply IsS58.set_1) | exact HI0.out)) hb); clear hb hbox hg))
  replace BK364 := Aside0.mk (blk_drew BK364.out)
  replace HI0 := Aside0.mk (IsS58.drew HI0.out)
  replace HK := Aside0.mk (keep_drew HK.out)
  replace HB := Aside0.mk (below_drew1 HB.out)
  refine start_ (n := 10) (S := fun w' => w'.cell? ⟨g, 0, none⟩ = some (.string s0_0) ∧ w'.cell? ⟨g, 1, none⟩ = some (.int .i64 s0_1)) (ds := []) #[false, false, false, false, false, false, false, false, false, false] (by kernel_rfl) rfl rfl ⟨(cellS58_0 HI0.out.1), (cellS58_1 HI0.out.1)⟩ (fun hHeld => ?_); refine with_tabW newelref01_walk_next.tab1 newelref01_walk_next.bits1 (fun HT_ HW_ => ?_)
  generalize w14.drew = w15 at BK364 HI0 HK HB hHeld ⊢
  refine pz 0 (some 13) HT_ ?_
  refine pz 1 (some 14) HT_ ?_
  refine pz 2 (some 15) HT_ ?_
  refine pz 4 (some 17) HT_ ?_
  refine pz 5 (some 18) HT_ ?_
  refine pz 6 (some 19) HT_ ?_
  refine tm 3 (some 16) HT_ HW_ hHeld ?_
  refine tm 7 (some 20) HT_ HW_ hHeld ?_
  refine on 8 (some 21) HT_ (fun K hK => ?_)
  refine goes_ Try.func46 (by kernel_rfl) rfl #[.string s0_0, .string (⟨#[60, 33, 45, 45]⟩ : ByteArray), .int .i64 s0_1] (by rfl) rfl rfl mA ?_
  with_reducible refine (newelref01_begins.calls s0_0 (⟨#[60, 33, 45, 45]⟩ : ByteArray) s0_1 false _ ?side1 A2.out).mono ?_
  (case side1 => exact Glob.step HG.out (by repeat (first | (with_reducible first | exact HB.out | apply below_alloc | apply pw_below_drewN | apply below_drew1 | refine below_set ?_ (IsS58.ge HI0.out) | refine below_set ?_ GE364.out) | exact HB.out)))
  rintro e w' ⟨rfl, ⟨nd, rfl⟩⟩
  refine ⟨_, rfl, ?_⟩
  refine hK.out _ _ ⟨(cellS58_0 HI0.out.1), (cellS58_1 HI0.out.1)⟩ (fun hHeld => ?_)
  clear hK K
  refine nz (some 21) ?_
  refine pz 9 (some 12) HT_ ?_
  refine done_ (done_of HT_.out (by kernel_rfl)) ?_
  try go_wp2
  (try ((try simp only [World.drewN_drewN]); (first | generalize hq_ : World.drewN w15 _ = w15 | (rw [drewN_self w15]; generalize hq_ : World.drewN w15 _ = w15)); have n0_ : Aside0 (w15.heap[gb364]? = some (.cells #[.int .i64 0, .string (⟨#[]⟩ : ByteArray), .string (⟨#[]⟩ : ByteArray), .slice none 0 0, .bool false] 32 (0, 0))) := ⟨by rw [← hq_]; exact (bK BK364)⟩; have n1_ : Aside0 (IsS58 w0 w15 g s0_0 s0_1) := ⟨by rw [← hq_]; exact (by repeat (first | (with_reducible first | exact HI0.out | apply IsS58.alloc | apply IsS58.drewN | apply IsS58.drew | apply IsS58.set_0 | apply IsS58.set_1 | refine IsS58.far ?_ NB0_364.out _) | exact HI0.out))⟩; have n2_ : Aside0 (KeepBut w w15 g none) := ⟨by rw [← hq_]; exact (by repeat (first | (with_reducible first | exact HK.out | apply KeepBut.set_ | apply keep_drewN | apply keep_drew | apply keep_alloc | refine keep_far ?_ GW364.out _) | exact HK.out))⟩; have n3_ : Aside0 (Below w0.heap.size w0 w15) := ⟨by rw [← hq_]; exact (by repeat (first | (with_reducible first | exact HB.out | apply below_alloc | apply pw_below_drewN | apply below_drew1 | refine below_set ?_ (IsS58.ge HI0.out) | refine below_set ?_ GE364.out) | exact HB.out))⟩; clear BK364 HI0 HK HB hq_; have BK364 := n0_; have HI0 := n1_; have HK := n2_; have HB := n3_; clear n0_ n1_ n2_ n3_))
  replace BK364 := Aside0.mk (blk_drew BK364.out)
  replace HI0 := Aside0.mk (IsS58.drew HI0.out)
  replace HK := Aside0.mk (keep_drew HK.out)
  replace HB := Aside0.mk (below_drew1 HB.out)
  refine start_ (n := 10) (S := fun w' => w'.cell? ⟨g, 0, none⟩ = some (.string s0_0) ∧ w'.cell? ⟨g, 1, none⟩ = some (.int .i64 s0_1)) (ds := []) #[false, false, false, false, false, false, false, false, false, false] (by kernel_rfl) rfl rfl ⟨(cellS58_0 HI0.out.1), (cellS58_1 HI0.out.1)⟩ (fun hHeld => ?_); refine with_tabW newelref01_walk_next.tab3 newelref01_walk_next.bits3 (fun HT_ HW_ => ?_)
  generalize w15.drew = w16 at BK364 HI0 HK HB hHeld ⊢
  refine pz 0 (some 27) HT_ ?_
  refine pz 1 (some 28) HT_ ?_
  refine pz 2 (some 29) HT_ ?_
  refine pz 4 (some 31) HT_ ?_
  refine pz 5 (some 32) HT_ ?_
  refine pz 6 (some 33) HT_ ?_
  refine tm 3 (some 30) HT_ HW_ hHeld ?_
  refine tm 7 (some 34) HT_ HW_ hHeld ?_
  refine on 8 (some 35) HT_ (fun K hK => ?_)
  refine goes_ Try.func46 (by kernel_rfl) rfl #[.string s0_0, .string (⟨#[60, 33, 91, 67, 68, 65, 84, 65, 91]⟩ : ByteArray), .int .i64 s0_1] (by rfl) rfl rfl mA ?_
  with_reducible refine (newelref01_begins.calls s0_0 (⟨#[60, 33, 91, 67, 68, 65, 84, 65, 91]⟩ : ByteArray) s0_1 true _ ?side1 A11.out).mono ?_
  (case side1 => exact Glob.step HG.out (by repeat (first | (with_reducible first | exact HB.out | apply below_alloc | apply pw_below_drewN | apply below_drew1 | refine below_set ?_ (IsS58.ge HI0.out) | refine below_set ?_ GE364.out) | exact HB.out)))
  rintro e w' ⟨rfl, ⟨nd, rfl⟩⟩
  refine ⟨_, rfl, ?_⟩
  refine hK.out _ _ ⟨(cellS58_0 HI0.out.1), (cellS58_1 HI0.out.1)⟩ (fun hHeld => ?_)
  clear hK K
  refine nz (some 35) ?_
  refine pz 9 (some 26) HT_ ?_
  refine done_ (done_of HT_.out (by kernel_rfl)) ?_
  obtain ⟨HGz17, hgz17⟩ := HI0.out
  have hcz17_0 := cellS58_0 HGz17
  have hcz17_1 := cellS58_1 HGz17
  have hfz17_0 := blk_frozen HGz17 0
  have hfz17_1 := blk_frozen HGz17 1
  clear HGz17 hgz17
  try go_wp2_with (first | (refine gl (some 43) Try.func48 #[.pointer (some ⟨g, 0, none⟩), .int .i64 (wrap64 (s0_1 + 9)), .string (⟨#[93, 93, 62]⟩ : ByteArray)] ?_; (with_reducible refine (newelref01_walk_upto.calls k g s0_0 s0_1 (wrap64 (s0_1 + 9)) (⟨#[93, 93, 62]⟩ : ByteArray) t377 t378 t379 t380 w0 _ ?side1 ?side2 ?side3 A13.out).mono ?_); (case side1 => repeat (first | (with_reducible first | exact HI0.out | apply IsS58.alloc | apply IsS58.drewN | apply IsS58.drew | apply IsS58.set_0 | apply IsS58.set_1 | refine IsS58.far ?_ NB0_364.out _) | exact HI0.out)); (case side2 => repeat (first | (with_reducible first | exact HB.out | apply below_alloc | apply pw_below_drewN | apply below_drew1 | refine below_set ?_ (IsS58.ge HI0.out) | refine below_set ?_ GE364.out) | exact HB.out)); (case side3 => exact HG.out); rintro e w18 ⟨rfl, hi, hb, hk⟩; refine ⟨_, rfl, ?_⟩; replace BK364 := Aside0.mk (KeepBut.blk hk (g' := gb364) (o := .cells #[.int .i64 0, .string (⟨#[]⟩ : ByteArray), .string (⟨#[]⟩ : ByteArray), .slice none 0 0, .bool false] 32 (0, 0)) (bK BK364) NB364_0.out (by simp)); replace HK := Aside0.mk (KeepBut.trans (by repeat (first | (with_reducible first | exact HK.out | apply KeepBut.set_ | apply keep_drewN | apply keep_drew | apply keep_alloc | refine keep_far ?_ GW364.out _) | exact HK.out)) hk (.inl rfl)); replace HB := Aside0.mk (hb); replace HI0 := Aside0.mk (hi); (try clear hb); (try clear hk); (try clear hi); have hnb19 := NB364_0.out; have hnc19 := NB0_364.out; have hcz20_0 : w18.cell? ⟨gb364, 0, none⟩ = some (.int .i64 0) := (blk_cell BK364.out 0).trans rfl; have hcz20_1 : w18.cell? ⟨gb364, 1, none⟩ = some (.string (⟨#[]⟩ : ByteArray)) := (blk_cell BK364.out 1).trans rfl; have hcz20_2 : w18.cell? ⟨gb364, 2, none⟩ = some (.string (⟨#[]⟩ : ByteArray)) := (blk_cell BK364.out 2).trans rfl; have hcz20_3 : w18.cell? ⟨gb364, 3, none⟩ = some (.slice none 0 0) := (blk_cell BK364.out 3).trans rfl; have hcz20_4 : w18.cell? ⟨gb364, 4, none⟩ = some (.bool false) := (blk_cell BK364.out 4).trans rfl; have hfz20_0 := blk_frozen BK364.out 0; have hfz20_1 := blk_frozen BK364.out 1; have hfz20_2 := blk_frozen BK364.out 2; have hfz20_3 := blk_frozen BK364.out 3; have hfz20_4 := blk_frozen BK364.out 4))
  refine bodyPost_ret (results_ct rfl _ _ gb364 32 #[.int .i64 3, .string (⟨#[]⟩ : ByteArray), .string t377, .slice none 0 0, .bool false] (0, 0) _ rfl (bP BK364) Try.underlying32 rfl (by kernel_rfl)) rfl ?_
  exact ⟨_, by first | rfl | (simp [errW_none, errW_some] <;> rfl) | (simp [*, errW_none, errW_some] <;> rfl), by first | exact Kd.R_nil _ _ _ _ _ | exact Kd.N_nil _ _ _ _ _ | exact Kd.V_nil _ _ _ _ _ | exact Kd.Q_nil _ _ _ _ _ | exact Kd.S_nil _ _ _ _ _, by repeat (first | (with_reducible first | exact HI0.out | apply IsS58.alloc | apply IsS58.drewN | apply IsS58.drew | apply IsS58.set_0 | apply IsS58.set_1 | refine IsS58.far ?_ NB0_364.out _) | exact HI0.out), by repeat (first | (with_reducible first | exact HB.out | apply below_alloc | apply pw_below_drewN | apply below_drew1 | refine below_set ?_ (IsS58.ge HI0.out) | refine below_set ?_ GE364.out) | exact HB.out), by repeat (first | (with_reducible first | exact HK.out | apply KeepBut.set_ | apply keep_drewN | apply keep_drew | apply keep_alloc | refine keep_far ?_ GW364.out _) | exact HK.out)⟩
 replace c12 := Bool.eq_false_iff.mpr c12
 subst c12
 replace H : ((newelref01_begins.f s0_0 (⟨#[60, 63]⟩ : ByteArray) s0_1).bind fun t381 => (if t381 = true then ((newelref01_walk_upto.f k s0_0 s0_1 (wrap64 (s0_1 + 2)) (⟨#[63, 62]⟩ : ByteArray)).bind fun bt382 => (if bt382.2.1 = true then (some (5, (⟨#[]⟩ : ByteArray), bt382.1, ([] : List (S39)), false, (s0_1 == 0), bt382.2.2.1, bt382.2.2.2)) else (some (5, (⟨#[]⟩ : ByteArray), bt382.1, ([] : List (S39)), false, false, bt382.2.2.1, bt382.2.2.2)))) else ((newelref01_begins.f s0_0 (⟨#[60, 47]⟩ : ByteArray) s0_1).bind fun t386 => (if t386 = true then ((newelref01_walk_closing.f k s0_0 s0_1).bind fun bt387 => (some (bt387.1, bt387.2.1, bt387.2.2.1, bt387.2.2.2.1, bt387.2.2.2.2.1, bt387.2.2.2.2.2.1, bt387.2.2.2.2.2.2.1, bt387.2.2.2.2.2.2.2))) else ((newelref01_begins.f s0_0 (⟨#[60]⟩ : ByteArray) s0_1).bind fun t397 => (if t397 = true then ((newelref01_walk_open.f k s0_0 s0_1).bind fun bt398 => (some (bt398.1, bt398.2.1, bt398.2.2.1, bt398.2.2.2.1, bt398.2.2.2.2.1, bt398.2.2.2.2.2.1, bt398.2.2.2.2.2.2.1, bt398.2.2.2.2.2.2.2))) else ((newelref01_find.f k s0_0 (⟨#[60]⟩ : ByteArray) s0_1).bind fun t408 => (if t408 < 0 then (if 0 ≤ s0_1 then (if s0_1 ≤ (s0_0.size : Int) then (if (s0_0.size : Int) ≤ (s0_0.size : Int) then ((newelref01_Entities.f k (s0_0.extract (s0_1 : Int).toNat ((s0_0.size : Int) : Int).toNat)).bind fun bt409 => (some (3, (⟨#[]⟩ : ByteArray), bt409.1, ([] : List (S39)), false, (bt409.2 == 0), s0_0, (s0_0.size : Int)))) else (none)) else (none)) else (none)) else (if 0 ≤ s0_1 then (if s0_1 ≤ t408 then (if t408 ≤ (s0_0.size : Int) then ((newelref01_Entities.f k (s0_0.extract (s0_1 : Int).toNat (t408 : Int).toNat)).bind fun bt411 => (some (3, (⟨#[]⟩ : ByteArray), bt411.1, ([] : List (S39)), false, (bt411.2 == 0), s0_0, t408))) else (none)) else (none)) else (none)))))))))) = some (r1, r2, r3, r4, r5, r6, r7, r8) := by rw [if_neg nF] at H; exact H
 replace H := bi H
 obtain ⟨t381, A210, H⟩ := H
 try dsimp only at H
 have A21 := Aside0.mk A210
 clear A210
 by_cases c22 : t381 = true
 ·subst c22
  replace H : ((newelref01_walk_upto.f k s0_0 s0_1 (wrap64 (s0_1 + 2)) (⟨#[63, 62]⟩ : ByteArray)).bind fun bt382 => (if bt382.2.1 = true then (some (5, (⟨#[]⟩ : ByteArray), bt382.1, ([] : List (S39)), false, (s0_1 == 0), bt382.2.2.1, bt382.2.2.2)) else (some (5, (⟨#[]⟩ : ByteArray), bt382.1, ([] : List (S39)), false, false, bt382.2.2.1, bt382.2.2.2)))) = some (r1, r2, r3, r4, r5, r6, r7, r8) := by rw [if_pos rfl] at H; exact H
  replace H := bi H
  obtain ⟨⟨t382, t383, t384, t385⟩, A230, H⟩ := H
  try dsimp only at H
  have A23 := Aside0.mk A230
  clear A230
  by_cases c24 : t383 = true
  ·subst c24
   replace H : (some (5, (⟨#[]⟩ : ByteArray), t382, ([] : List (S39)), false, (s0_1 == 0), t384, t385)) = some (r1, r2, r3, r4, r5, r6, r7, r8) := by rw [if_pos rfl] at H; exact H
   simp only [Option.some.injEq, Prod.mk.injEq] at H
   obtain ⟨rfl, rfl, rfl, rfl, rfl, rfl, rfl, rfl⟩ := H
   go_enter Try.func27, Try.ntmps27
   try go_wp2_with (first | (refine be 2 #[.int .i64 0, .string (⟨#[]⟩ : ByteArray), .string (⟨#[]⟩ : ByteArray), .slice none 0 0, .bool false] 32 ?_; intro gb364 hg w25 hbox hb; replace HB := Aside0.mk (below_step (by repeat (first | (with_reducible first | exact HB.out | apply below_alloc | apply pw_below_drewN | apply below_drew1 | refine below_set ?_ (IsS58.ge HI0.out)) | exact HB.out)) hb); have BK364 := Aside0.mk (hbox); have GW364 := Aside0.mk ((by rw [hg]; exact (keep_size (w := w) (g := g) (row := none) (by repeat (first | (with_reducible first | exact HK.out | apply KeepBut.set_ | apply keep_drewN | apply keep_drew | apply keep_alloc) | exact HK.out))) : w.heap.size ≤ gb364)); have GE364 := Aside0.mk ((Nat.le_trans HW0.out (by rw [hg]; exact (keep_size (w := w) (g := g) (row := none) (by repeat (first | (with_reducible first | exact HK.out | apply KeepBut.set_ | apply keep_drewN | apply keep_drew | apply keep_alloc) | exact HK.out))) : w.heap.size ≤ gb364) : w0.heap.size ≤ gb364)); replace HK := Aside0.mk (KeepBut.trans (by repeat (first | (with_reducible first | exact HK.out | apply KeepBut.set_ | apply keep_drewN | apply keep_drew | apply keep_alloc) | exact HK.out)) (KeepBut.of_below hb g none) (.inl rfl)); have NB0_364 := Aside0.mk ((by rw [hg]; exact Nat.ne_of_lt (IsS58.lt (show IsS58 w0 _ g s0_0 s0_1 from by repeat (first | (with_reducible first | exact HI0.out | apply IsS58.alloc | apply IsS58.drewN | apply IsS58.drew | apply IsS58.set_0 | apply IsS58.set_1) | exact HI0.out))) : g ≠ gb364)); have NB364_0 := Aside0.mk ((by rw [hg]; exact Nat.ne_of_gt (IsS58.lt (show IsS58 w0 _ g s0_0 s0_1 from by repeat (first | (with_reducible first | exact HI0.out | apply IsS58.alloc | apply IsS58.drewN | apply IsS58.drew | apply IsS58.set_0 | apply IsS58.set_1) | exact HI0.out))) : gb364 ≠ g)); replace HI0 := Aside0.mk (IsS58.below (by repeat (first | (with_reducible first | exact HI0.out | apply IsS58.alloc | apply IsS58.drewN | apply IsS58.drew | apply IsS58.set_0 | apply IsS58.set_1) | exact HI0.out)) hb); clear hb hbox hg))
   replace BK364 := Aside0.mk (blk_drew BK364.out)
   replace HI0 := Aside0.mk (IsS58.drew HI0.out)
   replace HK := Aside0.mk (keep_drew HK.out)
   replace HB := Aside0.mk (below_drew1 HB.out)
   refine start_ (n := 10) (S := fun w' => w'.cell? ⟨g, 0, none⟩ = some (.string s0_0) ∧ w'.cell? ⟨g, 1, none⟩ = some (.int .i64 s0_1)) (ds := []) #[false, false, false, false, false, false, false, false, false, false] (by kernel_rfl) rfl rfl ⟨(cellS58_0 HI0.out.1), (cellS58_1 HI0.out.1)⟩ (fun hHeld => ?_); refine with_tabW newelref01_walk_next.tab1 newelref01_walk_next.bits1 (fun HT_ HW_ => ?_)
   generalize w25.drew = w26 at BK364 HI0 HK HB hHeld ⊢
   refine pz 0 (some 13) HT_ ?_
   refine pz 1 (some 14) HT_ ?_
   refine pz 2 (some 15) HT_ ?_
   refine pz 4 (some 17) HT_ ?_
   refine pz 5 (some 18) HT_ ?_
   refine pz 6 (some 19) HT_ ?_
   refine tm 3 (some 16) HT_ HW_ hHeld ?_
   refine tm 7 (some 20) HT_ HW_ hHeld ?_
   refine on 8 (some 21) HT_ (fun K hK => ?_)
   refine goes_ Try.func46 (by kernel_rfl) rfl #[.string s0_0, .string (⟨#[60, 33, 45, 45]⟩ : ByteArray), .int .i64 s0_1] (by rfl) rfl rfl mA ?_
   with_reducible refine (newelref01_begins.calls s0_0 (⟨#[60, 33, 45, 45]⟩ : ByteArray) s0_1 false _ ?side1 A2.out).mono ?_
   (case side1 => exact Glob.step HG.out (by repeat (first | (with_reducible first | exact HB.out | apply below_alloc | apply pw_below_drewN | apply below_drew1 | refine below_set ?_ (IsS58.ge HI0.out) | refine below_set ?_ GE364.out) | exact HB.out)))
   rintro e w' ⟨rfl, ⟨nd, rfl⟩⟩
   refine ⟨_, rfl, ?_⟩
   refine hK.out _ _ ⟨(cellS58_0 HI0.out.1), (cellS58_1 HI0.out.1)⟩ (fun hHeld => ?_)
   clear hK K
   refine nz (some 21) ?_
   refine pz 9 (some 12) HT_ ?_
   refine done_ (done_of HT_.out (by kernel_rfl)) ?_
   try go_wp2
   (try ((try simp only [World.drewN_drewN]); (first | generalize hq_ : World.drewN w26 _ = w26 | (rw [drewN_self w26]; generalize hq_ : World.drewN w26 _ = w26)); have n0_ : Aside0 (w26.heap[gb364]? = some (.cells #[.int .i64 0, .string (⟨#[]⟩ : ByteArray), .string (⟨#[]⟩ : ByteArray), .slice none 0 0, .bool false] 32 (0, 0))) := ⟨by rw [← hq_]; exact (bK BK364)⟩; have n1_ : Aside0 (IsS58 w0 w26 g s0_0 s0_1) := ⟨by rw [← hq_]; exact (by repeat (first | (with_reducible first | exact HI0.out | apply IsS58.alloc | apply IsS58.drewN | apply IsS58.drew | apply IsS58.set_0 | apply IsS58.set_1 | refine IsS58.far ?_ NB0_364.out _) | exact HI0.out))⟩; have n2_ : Aside0 (KeepBut w w26 g none) := ⟨by rw [← hq_]; exact (by repeat (first | (with_reducible first | exact HK.out | apply KeepBut.set_ | apply keep_drewN | apply keep_drew | apply keep_alloc | refine keep_far ?_ GW364.out _) | exact HK.out))⟩; have n3_ : Aside0 (Below w0.heap.size w0 w26) := ⟨by rw [← hq_]; exact (by repeat (first | (with_reducible first | exact HB.out | apply below_alloc | apply pw_below_drewN | apply below_drew1 | refine below_set ?_ (IsS58.ge HI0.out) | refine below_set ?_ GE364.out) | exact HB.out))⟩; clear BK364 HI0 HK HB hq_; have BK364 := n0_; have HI0 := n1_; have HK := n2_; have HB := n3_; clear n0_ n1_ n2_ n3_))
   replace BK364 := Aside0.mk (blk_drew BK364.out)
   replace HI0 := Aside0.mk (IsS58.drew HI0.out)
   replace HK := Aside0.mk (keep_drew HK.out)
   replace HB := Aside0.mk (below_drew1 HB.out)
   refine start_ (n := 10) (S := fun w' => w'.cell? ⟨g, 0, none⟩ = some (.string s0_0) ∧ w'.cell? ⟨g, 1, none⟩ = some (.int .i64 s0_1)) (ds := []) #[false, false, false, false, false, false, false, false, false, false] (by kernel_rfl) rfl rfl ⟨(cellS58_0 HI0.out.1), (cellS58_1 HI0.out.1)⟩ (fun hHeld => ?_); refine with_tabW newelref01_walk_next.tab3 newelref01_walk_next.bits3 (fun HT_ HW_ => ?_)
   generalize w26.drew = w27 at BK364 HI0 HK HB hHeld ⊢
   refine pz 0 (some 27) HT_ ?_
   refine pz 1 (some 28) HT_ ?_
   refine pz 2 (some 29) HT_ ?_
   refine pz 4 (some 31) HT_ ?_
   refine pz 5 (some 32) HT_ ?_
   refine pz 6 (some 33) HT_ ?_
   refine tm 3 (some 30) HT_ HW_ hHeld ?_
   refine tm 7 (some 34) HT_ HW_ hHeld ?_
   refine on 8 (some 35) HT_ (fun K hK => ?_)
   refine goes_ Try.func46 (by kernel_rfl) rfl #[.string s0_0, .string (⟨#[60, 33, 91, 67, 68, 65, 84, 65, 91]⟩ : ByteArray), .int .i64 s0_1] (by rfl) rfl rfl mA ?_
   with_reducible refine (newelref01_begins.calls s0_0 (⟨#[60, 33, 91, 67, 68, 65, 84, 65, 91]⟩ : ByteArray) s0_1 false _ ?side1 A11.out).mono ?_
   (case side1 => exact Glob.step HG.out (by repeat (first | (with_reducible first | exact HB.out | apply below_alloc | apply pw_below_drewN | apply below_drew1 | refine below_set ?_ (IsS58.ge HI0.out) | refine below_set ?_ GE364.out) | exact HB.out)))
   rintro e w' ⟨rfl, ⟨nd, rfl⟩⟩
   refine ⟨_, rfl, ?_⟩
   refine hK.out _ _ ⟨(cellS58_0 HI0.out.1), (cellS58_1 HI0.out.1)⟩ (fun hHeld => ?_)
   clear hK K
   refine nz (some 35) ?_
   refine pz 9 (some 26) HT_ ?_
   refine done_ (done_of HT_.out (by kernel_rfl)) ?_
   try go_wp2
   (try ((try simp only [World.drewN_drewN]); (first | generalize hq_ : World.drewN w27 _ = w27 | (rw [drewN_self w27]; generalize hq_ : World.drewN w27 _ = w27)); have n0_ : Aside0 (w27.heap[gb364]? = some (.cells #[.int .i64 0, .string (⟨#[]⟩ : ByteArray), .string (⟨#[]⟩ : ByteArray), .slice none 0 0, .bool false] 32 (0, 0))) := ⟨by rw [← hq_]; exact (bK BK364)⟩; have n1_ : Aside0 (IsS58 w0 w27 g s0_0 s0_1) := ⟨by rw [← hq_]; exact (by repeat (first | (with_reducible first | exact HI0.out | apply IsS58.alloc | apply IsS58.drewN | apply IsS58.drew | apply IsS58.set_0 | apply IsS58.set_1 | refine IsS58.far ?_ NB0_364.out _) | exact HI0.out))⟩; have n2_ : Aside0 (KeepBut w w27 g none) := ⟨by rw [← hq_]; exact (by repeat (first | (with_reducible first | exact HK.out | apply KeepBut.set_ | apply keep_drewN | apply keep_drew | apply keep_alloc | refine keep_far ?_ GW364.out _) | exact HK.out))⟩; have n3_ : Aside0 (Below w0.heap.size w0 w27) := ⟨by rw [← hq_]; exact (by repeat (first | (with_reducible first | exact HB.out | apply below_alloc | apply pw_below_drewN | apply below_drew1 | refine below_set ?_ (IsS58.ge HI0.out) | refine below_set ?_ GE364.out) | exact HB.out))⟩; clear BK364 HI0 HK HB hq_; have BK364 := n0_; have HI0 := n1_; have HK := n2_; have HB := n3_; clear n0_ n1_ n2_ n3_))
   replace BK364 := Aside0.mk (blk_drew BK364.out)
   replace HI0 := Aside0.mk (IsS58.drew HI0.out)
   replace HK := Aside0.mk (keep_drew HK.out)
   replace HB := Aside0.mk (below_drew1 HB.out)
   refine start_ (n := 10) (S := fun w' => w'.cell? ⟨g, 0, none⟩ = some (.string s0_0) ∧ w'.cell? ⟨g, 1, none⟩ = some (.int .i64 s0_1)) (ds := []) #[false, false, false, false, false, false, false, false, false, false] (by kernel_rfl) rfl rfl ⟨(cellS58_0 HI0.out.1), (cellS58_1 HI0.out.1)⟩ (fun hHeld => ?_); refine with_tabW newelref01_walk_next.tab6 newelref01_walk_next.bits6 (fun HT_ HW_ => ?_)
   generalize w27.drew = w28 at BK364 HI0 HK HB hHeld ⊢
   refine pz 0 (some 50) HT_ ?_
   refine pz 1 (some 51) HT_ ?_
   refine pz 2 (some 52) HT_ ?_
   refine pz 4 (some 54) HT_ ?_
   refine pz 5 (some 55) HT_ ?_
   refine pz 6 (some 56) HT_ ?_
   refine tm 3 (some 53) HT_ HW_ hHeld ?_
   refine tm 7 (some 57) HT_ HW_ hHeld ?_
   refine on 8 (some 58) HT_ (fun K hK => ?_)
   refine goes_ Try.func46 (by kernel_rfl) rfl #[.string s0_0, .string (⟨#[60, 63]⟩ : ByteArray), .int .i64 s0_1] (by rfl) rfl rfl mA ?_
   with_reducible refine (newelref01_begins.calls s0_0 (⟨#[60, 63]⟩ : ByteArray) s0_1 true _ ?side1 A21.out).mono ?_
   (case side1 => exact Glob.step HG.out (by repeat (first | (with_reducible first | exact HB.out | apply below_alloc | apply pw_below_drewN | apply below_drew1 | refine below_set ?_ (IsS58.ge HI0.out) | refine below_set ?_ GE364.out) | exact HB.out)))
   rintro e w' ⟨rfl, ⟨nd, rfl⟩⟩
   refine ⟨_, rfl, ?_⟩
   refine hK.out _ _ ⟨(cellS58_0 HI0.out.1), (cellS58_1 HI0.out.1)⟩ (fun hHeld => ?_)
   clear hK K
   refine nz (some 58) ?_
   refine pz 9 (some 49) HT_ ?_
   refine done_ (done_of HT_.out (by kernel_rfl)) ?_
   obtain ⟨HGz29, hgz29⟩ := HI0.out
   have hcz29_0 := cellS58_0 HGz29
   have hcz29_1 := cellS58_1 HGz29
   have hfz29_0 := blk_frozen HGz29 0
   have hfz29_1 := blk_frozen HGz29 1
   clear HGz29 hgz29
   try go_wp2_with (first | (refine gl (some 71) Try.func48 #[.pointer (some ⟨g, 0, none⟩), .int .i64 (wrap64 (s0_1 + 2)), .string (⟨#[63, 62]⟩ : ByteArray)] ?_; (with_reducible refine (newelref01_walk_upto.calls k g s0_0 s0_1 (wrap64 (s0_1 + 2)) (⟨#[63, 62]⟩ : ByteArray) t382 true t384 t385 w0 _ ?side1 ?side2 ?side3 A23.out).mono ?_); (case side1 => repeat (first | (with_reducible first | exact HI0.out | apply IsS58.alloc | apply IsS58.drewN | apply IsS58.drew | apply IsS58.set_0 | apply IsS58.set_1 | refine IsS58.far ?_ NB0_364.out _) | exact HI0.out)); (case side2 => repeat (first | (with_reducible first | exact HB.out | apply below_alloc | apply pw_below_drewN | apply below_drew1 | refine below_set ?_ (IsS58.ge HI0.out) | refine below_set ?_ GE364.out) | exact HB.out)); (case side3 => exact HG.out); rintro e w30 ⟨rfl, hi, hb, hk⟩; refine ⟨_, rfl, ?_⟩; replace BK364 := Aside0.mk (KeepBut.blk hk (g' := gb364) (o := .cells #[.int .i64 0, .string (⟨#[]⟩ : ByteArray), .string (⟨#[]⟩ : ByteArray), .slice none 0 0, .bool false] 32 (0, 0)) (bK BK364) NB364_0.out (by simp)); replace HK := Aside0.mk (KeepBut.trans (by repeat (first | (with_reducible first | exact HK.out | apply KeepBut.set_ | apply keep_drewN | apply keep_drew | apply keep_alloc | refine keep_far ?_ GW364.out _) | exact HK.out)) hk (.inl rfl)); replace HB := Aside0.mk (hb); replace HI0 := Aside0.mk (hi); (try clear hb); (try clear hk); (try clear hi); have hnb31 := NB364_0.out; have hnc31 := NB0_364.out; have hcz32_0 : w30.cell? ⟨gb364, 0, none⟩ = some (.int .i64 0) := (blk_cell BK364.out 0).trans rfl; have hcz32_1 : w30.cell? ⟨gb364, 1, none⟩ = some (.string (⟨#[]⟩ : ByteArray)) := (blk_cell BK364.out 1).trans rfl; have hcz32_2 : w30.cell? ⟨gb364, 2, none⟩ = some (.string (⟨#[]⟩ : ByteArray)) := (blk_cell BK364.out 2).trans rfl; have hcz32_3 : w30.cell? ⟨gb364, 3, none⟩ = some (.slice none 0 0) := (blk_cell BK364.out 3).trans rfl; have hcz32_4 : w30.cell? ⟨gb364, 4, none⟩ = some (.bool false) := (blk_cell BK364.out 4).trans rfl; have hfz32_0 := blk_frozen BK364.out 0; have hfz32_1 := blk_frozen BK364.out 1; have hfz32_2 := blk_frozen BK364.out 2; have hfz32_3 := blk_frozen BK364.out 3; have hfz32_4 := blk_frozen BK364.out 4))
   refine bodyPost_ret (results_ct rfl _ _ gb364 32 #[.int .i64 5, .string (⟨#[]⟩ : ByteArray), .string t382, .slice none 0 0, .bool false] (0, 0) _ rfl (bP BK364) Try.underlying32 rfl (by kernel_rfl)) rfl ?_
   exact ⟨_, by first | rfl | (simp [errW_none, errW_some] <;> rfl) | (simp [*, errW_none, errW_some] <;> rfl), by first | exact Kd.R_nil _ _ _ _ _ | exact Kd.N_nil _ _ _ _ _ | exact Kd.V_nil _ _ _ _ _ | exact Kd.Q_nil _ _ _ _ _ | exact Kd.S_nil _ _ _ _ _, by repeat (first | (with_reducible first | exact HI0.out | apply IsS58.alloc | apply IsS58.drewN | apply IsS58.drew | apply IsS58.set_0 | apply IsS58.set_1 | refine IsS58.far ?_ NB0_364.out _) | exact HI0.out), by repeat (first | (with_reducible first | exact HB.out | apply below_alloc | apply pw_below_drewN | apply below_drew1 | refine below_set ?_ (IsS58.ge HI0.out) | refine below_set ?_ GE364.out) | exact HB.out), by repeat (first | (with_reducible first | exact HK.out | apply KeepBut.set_ | apply keep_drewN | apply keep_drew | apply keep_alloc | refine keep_far ?_ GW364.out _) | exact HK.out)⟩
  replace c24 := Bool.eq_false_iff.mpr c24
  subst c24
  replace H : (some (5, (⟨#[]⟩ : ByteArray), t382, ([] : List (S39)), false, false, t384, t385)) = some (r1, r2, r3, r4, r5, r6, r7, r8) := by rw [if_neg nF] at H; exact H
  simp only [Option.some.injEq, Prod.mk.injEq] at H
  obtain ⟨rfl, rfl, rfl, rfl, rfl, rfl, rfl, rfl⟩ := H
  go_enter Try.func27, Try.ntmps27
  try go_wp2_with (first | (refine be 2 #[.int .i64 0, .string (⟨#[]⟩ : ByteArray), .string (⟨#[]⟩ : ByteArray), .slice none 0 0, .bool false] 32 ?_; intro gb364 hg w33 hbox hb; replace HB := Aside0.mk (below_step (by repeat (first | (with_reducible first | exact HB.out | apply below_alloc | apply pw_below_drewN | apply below_drew1 | refine below_set ?_ (IsS58.ge HI0.out)) | exact HB.out)) hb); have BK364 := Aside0.mk (hbox); have GW364 := Aside0.mk ((by rw [hg]; exact (keep_size (w := w) (g := g) (row := none) (by repeat (first | (with_reducible first | exact HK.out | apply KeepBut.set_ | apply keep_drewN | apply keep_drew | apply keep_alloc) | exact HK.out))) : w.heap.size ≤ gb364)); have GE364 := Aside0.mk ((Nat.le_trans HW0.out (by rw [hg]; exact (keep_size (w := w) (g := g) (row := none) (by repeat (first | (with_reducible first | exact HK.out | apply KeepBut.set_ | apply keep_drewN | apply keep_drew | apply keep_alloc) | exact HK.out))) : w.heap.size ≤ gb364) : w0.heap.size ≤ gb364)); replace HK := Aside0.mk (KeepBut.trans (by repeat (first | (with_reducible first | exact HK.out | apply KeepBut.set_ | apply keep_drewN | apply keep_drew | apply keep_alloc) | exact HK.out)) (KeepBut.of_below hb g none) (.inl rfl)); have NB0_364 := Aside0.mk ((by rw [hg]; exact Nat.ne_of_lt (IsS58.lt (show IsS58 w0 _ g s0_0 s0_1 from by repeat (first | (with_reducible first | exact HI0.out | apply IsS58.alloc | apply IsS58.drewN | apply IsS58.drew | apply IsS58.set_0 | apply IsS58.set_1) | exact HI0.out))) : g ≠ gb364)); have NB364_0 := Aside0.mk ((by rw [hg]; exact Nat.ne_of_gt (IsS58.lt (show IsS58 w0 _ g s0_0 s0_1 from by repeat (first | (with_reducible first | exact HI0.out | apply IsS58.alloc | apply IsS58.drewN | apply IsS58.drew | apply IsS58.set_0 | apply IsS58.set_1) | exact HI0.out))) : gb364 ≠ g)); replace HI0 := Aside0.mk (IsS58.below (by repeat (first | (with_reducible first | exact HI0.out | apply IsS58.alloc | apply IsS58.drewN | apply IsS58.drew | apply IsS58.set_0 | apply IsS58.set_1) | exact HI0.out)) hb); clear hb hbox hg))
  replace BK364 := Aside0.mk (blk_drew BK364.out)
  replace HI0 := Aside0.mk (IsS58.drew HI0.out)
  replace HK := Aside0.mk (keep_drew HK.out)
  replace HB := Aside0.mk (below_drew1 HB.out)
  refine start_ (n := 10) (S := fun w' => w'.cell? ⟨g, 0, none⟩ = some (.string s0_0) ∧ w'.cell? ⟨g, 1, none⟩ = some (.int .i64 s0_1)) (ds := []) #[false, false, false, false, false, false, false, false, false, false] (by kernel_rfl) rfl rfl ⟨(cellS58_0 HI0.out.1), (cellS58_1 HI0.out.1)⟩ (fun hHeld => ?_); refine with_tabW newelref01_walk_next.tab1 newelref01_walk_next.bits1 (fun HT_ HW_ => ?_)
  generalize w33.drew = w34 at BK364 HI0 HK HB hHeld ⊢
  refine pz 0 (some 13) HT_ ?_
  refine pz 1 (some 14) HT_ ?_
  refine pz 2 (some 15) HT_ ?_
  refine pz 4 (some 17) HT_ ?_
  refine pz 5 (some 18) HT_ ?_
  refine pz 6 (some 19) HT_ ?_
  refine tm 3 (some 16) HT_ HW_ hHeld ?_
  refine tm 7 (some 20) HT_ HW_ hHeld ?_
  refine on 8 (some 21) HT_ (fun K hK => ?_)
  refine goes_ Try.func46 (by kernel_rfl) rfl #[.string s0_0, .string (⟨#[60, 33, 45, 45]⟩ : ByteArray), .int .i64 s0_1] (by rfl) rfl rfl mA ?_
  with_reducible refine (newelref01_begins.calls s0_0 (⟨#[60, 33, 45, 45]⟩ : ByteArray) s0_1 false _ ?side1 A2.out).mono ?_
  (case side1 => exact Glob.step HG.out (by repeat (first | (with_reducible first | exact HB.out | apply below_alloc | apply pw_below_drewN | apply below_drew1 | refine below_set ?_ (IsS58.ge HI0.out) | refine below_set ?_ GE364.out) | exact HB.out)))
  rintro e w' ⟨rfl, ⟨nd, rfl⟩⟩
  refine ⟨_, rfl, ?_⟩
  refine hK.out _ _ ⟨(cellS58_0 HI0.out.1), (cellS58_1 HI0.out.1)⟩ (fun hHeld => ?_)
  clear hK K
  refine nz (some 21) ?_
  refine pz 9 (some 12) HT_ ?_
  refine done_ (done_of HT_.out (by kernel_rfl)) ?_
  try go_wp2
  (try ((try simp only [World.drewN_drewN]); (first | generalize hq_ : World.drewN w34 _ = w34 | (rw [drewN_self w34]; generalize hq_ : World.drewN w34 _ = w34)); have n0_ : Aside0 (w34.heap[gb364]? = some (.cells #[.int .i64 0, .string (⟨#[]⟩ : ByteArray), .string (⟨#[]⟩ : ByteArray), .slice none 0 0, .bool false] 32 (0, 0))) := ⟨by rw [← hq_]; exact (bK BK364)⟩; have n1_ : Aside0 (IsS58 w0 w34 g s0_0 s0_1) := ⟨by rw [← hq_]; exact (by repeat (first | (with_reducible first | exact HI0.out | apply IsS58.alloc | apply IsS58.drewN | apply IsS58.drew | apply IsS58.set_0 | apply IsS58.set_1 | refine IsS58.far ?_ NB0_364.out _) | exact HI0.out))⟩; have n2_ : Aside0 (KeepBut w w34 g none) := ⟨by rw [← hq_]; exact (by repeat (first | (with_reducible first | exact HK.out | apply KeepBut.set_ | apply keep_drewN | apply keep_drew | apply keep_alloc | refine keep_far ?_ GW364.out _) | exact HK.out))⟩; have n3_ : Aside0 (Below w0.heap.size w0 w34) := ⟨by rw [← hq_]; exact (by repeat (first | (with_reducible first | exact HB.out | apply below_alloc | apply pw_below_drewN | apply below_drew1 | refine below_set ?_ (IsS58.ge HI0.out) | refine below_set ?_ GE364.out) | exact HB.out))⟩; clear BK364 HI0 HK HB hq_; have BK364 := n0_; have HI0 := n1_; have HK := n2_; have HB := n3_; clear n0_ n1_ n2_ n3_))
  replace BK364 := Aside0.mk (blk_drew BK364.out)
  replace HI0 := Aside0.mk (IsS58.drew HI0.out)
  replace HK := Aside0.mk (keep_drew HK.out)
  replace HB := Aside0.mk (below_drew1 HB.out)
  refine start_ (n := 10) (S := fun w' => w'.cell? ⟨g, 0, none⟩ = some (.string s0_0) ∧ w'.cell? ⟨g, 1, none⟩ = some (.int .i64 s0_1)) (ds := []) #[false, false, false, false, false, false, false, false, false, false] (by kernel_rfl) rfl rfl ⟨(cellS58_0 HI0.out.1), (cellS58_1 HI0.out.1)⟩ (fun hHeld => ?_); refine with_tabW newelref01_walk_next.tab3 newelref01_walk_next.bits3 (fun HT_ HW_ => ?_)
  generalize w34.drew = w35 at BK364 HI0 HK HB hHeld ⊢
  refine pz 0 (some 27) HT_ ?_
  refine pz 1 (some 28) HT_ ?_
  refine pz 2 (some 29) HT_ ?_
  refine pz 4 (some 31) HT_ ?_
  refine pz 5 (some 32) HT_ ?_
  refine pz 6 (some 33) HT_ ?_
  refine tm 3 (some 30) HT_ HW_ hHeld ?_
  refine tm 7 (some 34) HT_ HW_ hHeld ?_
  refine on 8 (some 35) HT_ (fun K hK => ?_)
  refine goes_ Try.func46 (by kernel_rfl) rfl #[.string s0_0, .string (⟨#[60, 33, 91, 67, 68, 65, 84, 65, 91]⟩ : ByteArray), .int .i64 s0_1] (by rfl) rfl rfl mA ?_
  with_reducible refine (newelref01_begins.calls s0_0 (⟨#[60, 33, 91, 67, 68, 65, 84, 65, 91]⟩ : ByteArray) s0_1 false _ ?side1 A11.out).mono ?_
  (case side1 => exact Glob.step HG.out (by repeat (first | (with_reducible first | exact HB.out | apply below_alloc | apply pw_below_drewN | apply below_drew1 | refine below_set ?_ (IsS58.ge HI0.out) | refine below_set ?_ GE364.out) | exact HB.out)))
  rintro e w' ⟨rfl, ⟨nd, rfl⟩⟩
  refine ⟨_, rfl, ?_⟩
  refine hK.out _ _ ⟨(cellS58_0 HI0.out.1), (cellS58_1 HI0.out.1)⟩ (fun hHeld => ?_)
  clear hK K
  refine nz (some 35) ?_
  refine pz 9 (some 26) HT_ ?_
  refine done_ (done_of HT_.out (by kernel_rfl)) ?_
  try go_wp2
  (try ((try simp only [World.drewN_drewN]); (first | generalize hq_ : World.drewN w35 _ = w35 | (rw [drewN_self w35]; generalize hq_ : World.drewN w35 _ = w35)); have n0_ : Aside0 (w35.heap[gb364]? = some (.cells #[.int .i64 0, .string (⟨#[]⟩ : ByteArray), .string (⟨#[]⟩ : ByteArray), .slice none 0 0, .bool false] 32 (0, 0))) := ⟨by rw [← hq_]; exact (bK BK364)⟩; have n1_ : Aside0 (IsS58 w0 w35 g s0_0 s0_1) := ⟨by rw [← hq_]; exact (by repeat (first | (with_reducible first | exact HI0.out | apply IsS58.alloc | apply IsS58.drewN | apply IsS58.drew | apply IsS58.set_0 | apply IsS58.set_1 | refine IsS58.far ?_ NB0_364.out _) | exact HI0.out))⟩; have n2_ : Aside0 (KeepBut w w35 g none) := ⟨by rw [← hq_]; exact (by repeat (first | (with_reducible first | exact HK.out | apply KeepBut.set_ | apply keep_drewN | apply keep_drew | apply keep_alloc | refine keep_far ?_ GW364.out _) | exact HK.out))⟩; have n3_ : Aside0 (Below w0.heap.size w0 w35) := ⟨by rw [← hq_]; exact (by repeat (first | (with_reducible first | exact HB.out | apply below_alloc | apply pw_below_drewN | apply below_drew1 | refine below_set ?_ (IsS58.ge HI0.out) | refine below_set ?_ GE364.out) | exact HB.out))⟩; clear BK364 HI0 HK HB hq_; have BK364 := n0_; have HI0 := n1_; have HK := n2_; have HB := n3_; clear n0_ n1_ n2_ n3_))
  replace BK364 := Aside0.mk (blk_drew BK364.out)
  replace HI0 := Aside0.mk (IsS58.drew HI0.out)
  replace HK := Aside0.mk (keep_drew HK.out)
  replace HB := Aside0.mk (below_drew1 HB.out)
  refine start_ (n := 10) (S := fun w' => w'.cell? ⟨g, 0, none⟩ = some (.string s0_0) ∧ w'.cell? ⟨g, 1, none⟩ = some (.int .i64 s0_1)) (ds := []) #[false, false, false, false, false, false, false, false, false, false] (by kernel_rfl) rfl rfl ⟨(cellS58_0 HI0.out.1), (cellS58_1 HI0.out.1)⟩ (fun hHeld => ?_); refine with_tabW newelref01_walk_next.tab6 newelref01_walk_next.bits6 (fun HT_ HW_ => ?_)
  generalize w35.drew = w36 at BK364 HI0 HK HB hHeld ⊢
  refine pz 0 (some 50) HT_ ?_
  refine pz 1 (some 51) HT_ ?_
  refine pz 2 (some 52) HT_ ?_
  refine pz 4 (some 54) HT_ ?_
  refine pz 5 (some 55) HT_ ?_
  refine pz 6 (some 56) HT_ ?_
  refine tm 3 (some 53) HT_ HW_ hHeld ?_
  refine tm 7 (some 57) HT_ HW_ hHeld ?_
  refine on 8 (some 58) HT_ (fun K hK => ?_)
  refine goes_ Try.func46 (by kernel_rfl) rfl #[.string s0_0, .string (⟨#[60, 63]⟩ : ByteArray), .int .i64 s0_1] (by rfl) rfl rfl mA ?_
  with_reducible refine (newelref01_begins.calls s0_0 (⟨#[60, 63]⟩ : ByteArray) s0_1 true _ ?side1 A21.out).mono ?_
  (case side1 => exact Glob.step HG.out (by repeat (first | (with_reducible first | exact HB.out | apply below_alloc | apply pw_below_drewN | apply below_drew1 | refine below_set ?_ (IsS58.ge HI0.out) | refine below_set ?_ GE364.out) | exact HB.out)))
  rintro e w' ⟨rfl, ⟨nd, rfl⟩⟩
  refine ⟨_, rfl, ?_⟩
  refine hK.out _ _ ⟨(cellS58_0 HI0.out.1), (cellS58_1 HI0.out.1)⟩ (fun hHeld => ?_)
  clear hK K
  refine nz (some 58) ?_
  refine pz 9 (some 49) HT_ ?_
  refine done_ (done_of HT_.out (by kernel_rfl)) ?_
  obtain ⟨HGz37, hgz37⟩ := HI0.out
  have hcz37_0 := cellS58_0 HGz37
  have hcz37_1 := cellS58_1 HGz37
  have hfz37_0 := blk_frozen HGz37 0
  have hfz37_1 := blk_frozen HGz37 1
  clear HGz37 hgz37
  try go_wp2_with (first | (refine gl (some 71) Try.func48 #[.pointer (some ⟨g, 0, none⟩), .int .i64 (wrap64 (s0_1 + 2)), .string (⟨#[63, 62]⟩ : ByteArray)] ?_; (with_reducible refine (newelref01_walk_upto.calls k g s0_0 s0_1 (wrap64 (s0_1 + 2)) (⟨#[63, 62]⟩ : ByteArray) t382 false t384 t385 w0 _ ?side1 ?side2 ?side3 A23.out).mono ?_); (case side1 => repeat (first | (with_reducible first | exact HI0.out | apply IsS58.alloc | apply IsS58.drewN | apply IsS58.drew | apply IsS58.set_0 | apply IsS58.set_1 | refine IsS58.far ?_ NB0_364.out _) | exact HI0.out)); (case side2 => repeat (first | (with_reducible first | exact HB.out | apply below_alloc | apply pw_below_drewN | apply below_drew1 | refine below_set ?_ (IsS58.ge HI0.out) | refine below_set ?_ GE364.out) | exact HB.out)); (case side3 => exact HG.out); rintro e w38 ⟨rfl, hi, hb, hk⟩; refine ⟨_, rfl, ?_⟩; replace BK364 := Aside0.mk (KeepBut.blk hk (g' := gb364) (o := .cells #[.int .i64 0, .string (⟨#[]⟩ : ByteArray), .string (⟨#[]⟩ : ByteArray), .slice none 0 0, .bool false] 32 (0, 0)) (bK BK364) NB364_0.out (by simp)); replace HK := Aside0.mk (KeepBut.trans (by repeat (first | (with_reducible first | exact HK.out | apply KeepBut.set_ | apply keep_drewN | apply keep_drew | apply keep_alloc | refine keep_far ?_ GW364.out _) | exact HK.out)) hk (.inl rfl)); replace HB := Aside0.mk (hb); replace HI0 := Aside0.mk (hi); (try clear hb); (try clear hk); (try clear hi); have hnb39 := NB364_0.out; have hnc39 := NB0_364.out; have hcz40_0 : w38.cell? ⟨gb364, 0, none⟩ = some (.int .i64 0) := (blk_cell BK364.out 0).trans rfl; have hcz40_1 : w38.cell? ⟨gb364, 1, none⟩ = some (.string (⟨#[]⟩ : ByteArray)) := (blk_cell BK364.out 1).trans rfl; have hcz40_2 : w38.cell? ⟨gb364, 2, none⟩ = some (.string (⟨#[]⟩ : ByteArray)) := (blk_cell BK364.out 2).trans rfl; have hcz40_3 : w38.cell? ⟨gb364, 3, none⟩ = some (.slice none 0 0) := (blk_cell BK364.out 3).trans rfl; have hcz40_4 : w38.cell? ⟨gb364, 4, none⟩ = some (.bool false) := (blk_cell BK364.out 4).trans rfl; have hfz40_0 := blk_frozen BK364.out 0; have hfz40_1 := blk_frozen BK364.out 1; have hfz40_2 := blk_frozen BK364.out 2; have hfz40_3 := blk_frozen BK364.out 3; have hfz40_4 := blk_frozen BK364.out 4))
  refine bodyPost_ret (results_ct rfl _ _ gb364 32 #[.int .i64 5, .string (⟨#[]⟩ : ByteArray), .string t382, .slice none 0 0, .bool false] (0, 0) _ rfl (bP BK364) Try.underlying32 rfl (by kernel_rfl)) rfl ?_
  exact ⟨_, by first | rfl | (simp [errW_none, errW_some] <;> rfl) | (simp [*, errW_none, errW_some] <;> rfl), by first | exact Kd.R_nil _ _ _ _ _ | exact Kd.N_nil _ _ _ _ _ | exact Kd.V_nil _ _ _ _ _ | exact Kd.Q_nil _ _ _ _ _ | exact Kd.S_nil _ _ _ _ _, by repeat (first | (with_reducible first | exact HI0.out | apply IsS58.alloc | apply IsS58.drewN | apply IsS58.drew | apply IsS58.set_0 | apply IsS58.set_1 | refine IsS58.far ?_ NB0_364.out _) | exact HI0.out), by repeat (first | (with_reducible first | exact HB.out | apply below_alloc | apply pw_below_drewN | apply below_drew1 | refine below_set ?_ (IsS58.ge HI0.out) | refine below_set ?_ GE364.out) | exact HB.out), by repeat (first | (with_reducible first | exact HK.out | apply KeepBut.set_ | apply keep_drewN | apply keep_drew | apply keep_alloc | refine keep_far ?_ GW364.out _) | exact HK.out)⟩
 replace c22 := Bool.eq_false_iff.mpr c22
 subst c22
 replace H : ((newelref01_begins.f s0_0 (⟨#[60, 47]⟩ : ByteArray) s0_1).bind fun t386 => (if t386 = true then ((newelref01_walk_closing.f k s0_0 s0_1).bind fun bt387 => (some (bt387.1, bt387.2.1, bt387.2.2.1, bt387.2.2.2.1, bt387.2.2.2.2.1, bt387.2.2.2.2.2.1, bt387.2.2.2.2.2.2.1, bt387.2.2.2.2.2.2.2))) else ((newelref01_begins.f s0_0 (⟨#[60]⟩ : ByteArray) s0_1).bind fun t397 => (if t397 = true then ((newelref01_walk_open.f k s0_0 s0_1).bind fun bt398 => (some (bt398.1, bt398.2.1, bt398.2.2.1, bt398.2.2.2.1, bt398.2.2.2.2.1, bt398.2.2.2.2.2.1, bt398.2.2.2.2.2.2.1, bt398.2.2.2.2.2.2.2))) else ((newelref01_find.f k s0_0 (⟨#[60]⟩ : ByteArray) s0_1).bind fun t408 => (if t408 < 0 then (if 0 ≤ s0_1 then (if s0_1 ≤ (s0_0.size : Int) then (if (s0_0.size : Int) ≤ (s0_0.size : Int) then ((newelref01_Entities.f k (s0_0.extract (s0_1 : Int).toNat ((s0_0.size : Int) : Int).toNat)).bind fun bt409 => (some (3, (⟨#[]⟩ : ByteArray), bt409.1, ([] : List (S39)), false, (bt409.2 == 0), s0_0, (s0_0.size : Int)))) else (none)) else (none)) else (none)) else (if 0 ≤ s0_1 then (if s0_1 ≤ t408 then (if t408 ≤ (s0_0.size : Int) then ((newelref01_Entities.f k (s0_0.extract (s0_1 : Int).toNat (t408 : Int).toNat)).bind fun bt411 => (some (3, (⟨#[]⟩ : ByteArray), bt411.1, ([] : List (S39)), false, (bt411.2 == 0), s0_0, t408))) else (none)) else (none)) else (none)))))))) = some (r1, r2, r3, r4, r5, r6, r7, r8) := by rw [if_neg nF] at H; exact H
 replace H := bi H
 obtain ⟨t386, A410, H⟩ := H
 try dsimp only at H
 have A41 := Aside0.mk A410
 clear A410
 by_cases c42 : t386 = true
 ·subst c42
  replace H : ((newelref01_walk_closing.f k s0_0 s0_1).bind fun bt387 => (some (bt387.1, bt387.2.1, bt387.2.2.1, bt387.2.2.2.1, bt387.2.2.2.2.1, bt387.2.2.2.2.2.1, bt387.2.2.2.2.2.2.1, bt387.2.2.2.2.2.2.2))) = some (r1, r2, r3, r4, r5, r6, r7, r8) := by rw [if_pos rfl] at H; exact H
  replace H := bi H
  obtain ⟨⟨t387, t388, t389, t390, t393, t394, t395, t396⟩, A430, H⟩ := H
  try dsimp only at H
  have A43 := Aside0.mk A430
  clear A430
  simp only [Option.some.injEq, Prod.mk.injEq] at H
  obtain ⟨rfl, rfl, rfl, rfl, rfl, rfl, rfl, rfl⟩ := H
  go_enter Try.func27, Try.ntmps27
  try go_wp2_with (first | (refine be 2 #[.int .i64 0, .string (⟨#[]⟩ : ByteArray), .string (⟨#[]⟩ : ByteArray), .slice none 0 0, .bool false] 32 ?_; intro gb364 hg w44 hbox hb; replace HB := Aside0.mk (below_step (by repeat (first | (with_reducible first | exact HB.out | apply below_alloc | apply pw_below_drewN | apply below_drew1 | refine below_set ?_ (IsS58.ge HI0.out)) | exact HB.out)) hb); have BK364 := Aside0.mk (hbox); have GW364 := Aside0.mk ((by rw [hg]; exact (keep_size (w := w) (g := g) (row := none) (by repeat (first | (with_reducible first | exact HK.out | apply KeepBut.set_ | apply keep_drewN | apply keep_drew | apply keep_alloc) | exact HK.out))) : w.heap.size ≤ gb364)); have GE364 := Aside0.mk ((Nat.le_trans HW0.out (by rw [hg]; exact (keep_size (w := w) (g := g) (row := none) (by repeat (first | (with_reducible first | exact HK.out | apply KeepBut.set_ | apply keep_drewN | apply keep_drew | apply keep_alloc) | exact HK.out))) : w.heap.size ≤ gb364) : w0.heap.size ≤ gb364)); replace HK := Aside0.mk (KeepBut.trans (by repeat (first | (with_reducible first | exact HK.out | apply KeepBut.set_ | apply keep_drewN | apply keep_drew | apply keep_alloc) | exact HK.out)) (KeepBut.of_below hb g none) (.inl rfl)); have NB0_364 := Aside0.mk ((by rw [hg]; exact Nat.ne_of_lt (IsS58.lt (show IsS58 w0 _ g s0_0 s0_1 from by repeat (first | (with_reducible first | exact HI0.out | apply IsS58.alloc | apply IsS58.drewN | apply IsS58.drew | apply IsS58.set_0 | apply IsS58.set_1) | exact HI0.out))) : g ≠ gb364)); have NB364_0 := Aside0.mk ((by rw [hg]; exact Nat.ne_of_gt (IsS58.lt (show IsS58 w0 _ g s0_0 s0_1 from by repeat (first | (with_reducible first | exact HI0.out | apply IsS58.alloc | apply IsS58.drewN | apply IsS58.drew | apply IsS58.set_0 | apply IsS58.set_1) | exact HI0.out))) : gb364 ≠ g)); replace HI0 := Aside0.mk (IsS58.below (by repeat (first | (with_reducible first | exact HI0.out | apply IsS58.alloc | apply IsS58.drewN | apply IsS58.drew | apply IsS58.set_0 | apply IsS58.set_1) | exact HI0.out)) hb); clear hb hbox hg))
  replace BK364 := Aside0.mk (blk_drew BK364.out)
  replace HI0 := Aside0.mk (IsS58.drew HI0.out)
  replace HK := Aside0.mk (keep_drew HK.out)
  replace HB := Aside0.mk (below_drew1 HB.out)
  refine start_ (n := 10) (S := fun w' => w'.cell? ⟨g, 0, none⟩ = some (.string s0_0) ∧ w'.cell? ⟨g, 1, none⟩ = some (.int .i64 s0_1)) (ds := []) #[false, false, false, false, false, false, false, false, false, false] (by kernel_rfl) rfl rfl ⟨(cellS58_0 HI0.out.1), (cellS58_1 HI0.out.1)⟩ (fun hHeld => ?_); refine with_tabW newelref01_walk_next.tab1 newelref01_walk_next.bits1 (fun HT_ HW_ => ?_)
  generalize w44.drew = w45 at BK364 HI0 HK HB hHeld ⊢
  refine pz 0 (some 13) HT_ ?_
  refine pz 1 (some 14) HT_ ?_
  refine pz 2 (some 15) HT_ ?_
  refine pz 4 (some 17) HT_ ?_
  refine pz 5 (some 18) HT_ ?_
  refine pz 6 (some 19) HT_ ?_
  refine tm 3 (some 16) HT_ HW_ hHeld ?_
  refine tm 7 (some 20) HT_ HW_ hHeld ?_
  refine on 8 (some 21) HT_ (fun K hK => ?_)
  refine goes_ Try.func46 (by kernel_rfl) rfl #[.string s0_0, .string (⟨#[60, 33, 45, 45]⟩ : ByteArray), .int .i64 s0_1] (by rfl) rfl rfl mA ?_
  with_reducible refine (newelref01_begins.calls s0_0 (⟨#[60, 33, 45, 45]⟩ : ByteArray) s0_1 false _ ?side1 A2.out).mono ?_
  (case side1 => exact Glob.step HG.out (by repeat (first | (with_reducible first | exact HB.out | apply below_alloc | apply pw_below_drewN | apply below_drew1 | refine below_set ?_ (IsS58.ge HI0.out) | refine below_set ?_ GE364.out) | exact HB.out)))
  rintro e w' ⟨rfl, ⟨nd, rfl⟩⟩
  refine ⟨_, rfl, ?_⟩
  refine hK.out _ _ ⟨(cellS58_0 HI0.out.1), (cellS58_1 HI0.out.1)⟩ (fun hHeld => ?_)
  clear hK K
  refine nz (some 21) ?_
  refine pz 9 (some 12) HT_ ?_
  refine done_ (done_of HT_.out (by kernel_rfl)) ?_
  try go_wp2
  (try ((try simp only [World.drewN_drewN]); (first | generalize hq_ : World.drewN w45 _ = w45 | (rw [drewN_self w45]; generalize hq_ : World.drewN w45 _ = w45)); have n0_ : Aside0 (w45.heap[gb364]? = some (.cells #[.int .i64 0, .string (⟨#[]⟩ : ByteArray), .string (⟨#[]⟩ : ByteArray), .slice none 0 0, .bool false] 32 (0, 0))) := ⟨by rw [← hq_]; exact (bK BK364)⟩; have n1_ : Aside0 (IsS58 w0 w45 g s0_0 s0_1) := ⟨by rw [← hq_]; exact (by repeat (first | (with_reducible first | exact HI0.out | apply IsS58.alloc | apply IsS58.drewN | apply IsS58.drew | apply IsS58.set_0 | apply IsS58.set_1 | refine IsS58.far ?_ NB0_364.out _) | exact HI0.out))⟩; have n2_ : Aside0 (KeepBut w w45 g none) := ⟨by rw [← hq_]; exact (by repeat (first | (with_reducible first | exact HK.out | apply KeepBut.set_ | apply keep_drewN | apply keep_drew | apply keep_alloc | refine keep_far ?_ GW364.out _) | exact HK.out))⟩; have n3_ : Aside0 (Below w0.heap.size w0 w45) := ⟨by rw [← hq_]; exact (by repeat (first | (with_reducible first | exact HB.out | apply below_alloc | apply pw_below_drewN | apply below_drew1 | refine below_set ?_ (IsS58.ge HI0.out) | refine below_set ?_ GE364.out) | exact HB.out))⟩; clear BK364 HI0 HK HB hq_; have BK364 := n0_; have HI0 := n1_; have HK := n2_; have HB := n3_; clear n0_ n1_ n2_ n3_))
  replace BK364 := Aside0.mk (blk_drew BK364.out)
  replace HI0 := Aside0.mk (IsS58.drew HI0.out)
  replace HK := Aside0.mk (keep_drew HK.out)
  replace HB := Aside0.mk (below_drew1 HB.out)
  refine start_ (n := 10) (S := fun w' => w'.cell? ⟨g, 0, none⟩ = some (.string s0_0) ∧ w'.cell? ⟨g, 1, none⟩ = some (.int .i64 s0_1)) (ds := []) #[false, false, false, false, false, false, false, false, false, false] (by kernel_rfl) rfl rfl ⟨(cellS58_0 HI0.out.1), (cellS58_1 HI0.out.1)⟩ (fun hHeld => ?_); refine with_tabW newelref01_walk_next.tab3 newelref01_walk_next.bits3 (fun HT_ HW_ => ?_)
  generalize w45.drew = w46 at BK364 HI0 HK HB hHeld ⊢
  refine pz 0 (some 27) HT_ ?_
  refine pz 1 (some 28) HT_ ?_
  refine pz 2 (some 29) HT_ ?_
  refine pz 4 (some 31) HT_ ?_
  refine pz 5 (some 32) HT_ ?_
  refine pz 6 (some 33) HT_ ?_
  refine tm 3 (some 30) HT_ HW_ hHeld ?_
  refine tm 7 (some 34) HT_ HW_ hHeld ?_
  refine on 8 (some 35) HT_ (fun K hK => ?_)
  refine goes_ Try.func46 (by kernel_rfl) rfl #[.string s0_0, .string (⟨#[60, 33, 91, 67, 68, 65, 84, 65, 91]⟩ : ByteArray), .int .i64 s0_1] (by rfl) rfl rfl mA ?_
  with_reducible refine (newelref01_begins.calls s0_0 (⟨#[60, 33, 91, 67, 68, 65, 84, 65, 91]⟩ : ByteArray) s0_1 false _ ?side1 A11.out).mono ?_
  (case side1 => exact Glob.step HG.out (by repeat (first | (with_reducible first | exact HB.out | apply below_alloc | apply pw_below_drewN | apply below_drew1 | refine below_set ?_ (IsS58.ge HI0.out) | refine below_set ?_ GE364.out) | exact HB.out)))
  rintro e w' ⟨rfl, ⟨nd, rfl⟩⟩
  refine ⟨_, rfl, ?_⟩
  refine hK.out _ _ ⟨(cellS58_0 HI0.out.1), (cellS58_1 HI0.out.1)⟩ (fun hHeld => ?_)
  clear hK K
  refine nz (some 35) ?_
  refine pz 9 (some 26) HT_ ?_
  refine done_ (done_of HT_.out (by kernel_rfl)) ?_
  try go_wp2
  (try ((try simp only [World.drewN_drewN]); (first | generalize hq_ : World.drewN w46 _ = w46 | (rw [drewN_self w46]; generalize hq_ : World.drewN w46 _ = w46)); have n0_ : Aside0 (w46.heap[gb364]? = some (.cells #[.int .i64 0, .string (⟨#[]⟩ : ByteArray), .string (⟨#[]⟩ : ByteArray), .slice none 0 0, .bool false] 32 (0, 0))) := ⟨by rw [← hq_]; exact (bK BK364)⟩; have n1_ : Aside0 (IsS58 w0 w46 g s0_0 s0_1) := ⟨by rw [← hq_]; exact (by repeat (first | (with_reducible first | exact HI0.out | apply IsS58.alloc | apply IsS58.drewN | apply IsS58.drew | apply IsS58.set_0 | apply IsS58.set_1 | refine IsS58.far ?_ NB0_364.out _) | exact HI0.out))⟩; have n2_ : Aside0 (KeepBut w w46 g none) := ⟨by rw [← hq_]; exact (by repeat (first | (with_reducible first | exact HK.out | apply KeepBut.set_ | apply keep_drewN | apply keep_drew | apply keep_alloc | refine keep_far ?_ GW364.out _) | exact HK.out))⟩; have n3_ : Aside0 (Below w0.heap.size w0 w46) := ⟨by rw [← hq_]; exact (by repeat (first | (with_reducible first | exact HB.out | apply below_alloc | apply pw_below_drewN | apply below_drew1 | refine below_set ?_ (IsS58.ge HI0.out) | refine below_set ?_ GE364.out) | exact HB.out))⟩; clear BK364 HI0 HK HB hq_; have BK364 := n0_; have HI0 := n1_; have HK := n2_; have HB := n3_; clear n0_ n1_ n2_ n3_))
  replace BK364 := Aside0.mk (blk_drew BK364.out)
  replace HI0 := Aside0.mk (IsS58.drew HI0.out)
  replace HK := Aside0.mk (keep_drew HK.out)
  replace HB := Aside0.mk (below_drew1 HB.out)
  refine start_ (n := 10) (S := fun w' => w'.cell? ⟨g, 0, none⟩ = some (.string s0_0) ∧ w'.cell? ⟨g, 1, none⟩ = some (.int .i64 s0_1)) (ds := []) #[false, false, false, false, false, false, false, false, false, false] (by kernel_rfl) rfl rfl ⟨(cellS58_0 HI0.out.1), (cellS58_1 HI0.out.1)⟩ (fun hHeld => ?_); refine with_tabW newelref01_walk_next.tab6 newelref01_walk_next.bits6 (fun HT_ HW_ => ?_)
  generalize w46.drew = w47 at BK364 HI0 HK HB hHeld ⊢
  refine pz 0 (some 50) HT_ ?_
  refine pz 1 (some 51) HT_ ?_
  refine pz 2 (some 52) HT_ ?_
  refine pz 4 (some 54) HT_ ?_
  refine pz 5 (some 55) HT_ ?_
  refine pz 6 (some 56) HT_ ?_
  refine tm 3 (some 53) HT_ HW_ hHeld ?_
  refine tm 7 (some 57) HT_ HW_ hHeld ?_
  refine on 8 (some 58) HT_ (fun K hK => ?_)
  refine goes_ Try.func46 (by kernel_rfl) rfl #[.string s0_0, .string (⟨#[60, 63]⟩ : ByteArray), .int .i64 s0_1] (by rfl) rfl rfl mA ?_
  with_reducible refine (newelref01_begins.calls s0_0 (⟨#[60, 63]⟩ : ByteArray) s0_1 false _ ?side1 A21.out).mono ?_
  (case side1 => exact Glob.step HG.out (by repeat (first | (with_reducible first | exact HB.out | apply below_alloc | apply pw_below_drewN | apply below_drew1 | refine below_set ?_ (IsS58.ge HI0.out) | refine below_set ?_ GE364.out) | exact HB.out)))
  rintro e w' ⟨rfl, ⟨nd, rfl⟩⟩
  refine ⟨_, rfl, ?_⟩
  refine hK.out _ _ ⟨(cellS58_0 HI0.out.1), (cellS58_1 HI0.out.1)⟩ (fun hHeld => ?_)
  clear hK K
  refine nz (some 58) ?_
  refine pz 9 (some 49) HT_ ?_
  refine done_ (done_of HT_.out (by kernel_rfl)) ?_
  try go_wp2
  (try ((try simp only [World.drewN_drewN]); (first | generalize hq_ : World.drewN w47 _ = w47 | (rw [drewN_self w47]; generalize hq_ : World.drewN w47 _ = w47)); have n0_ : Aside0 (w47.heap[gb364]? = some (.cells #[.int .i64 0, .string (⟨#[]⟩ : ByteArray), .string (⟨#[]⟩ : ByteArray), .slice none 0 0, .bool false] 32 (0, 0))) := ⟨by rw [← hq_]; exact (bK BK364)⟩; have n1_ : Aside0 (IsS58 w0 w47 g s0_0 s0_1) := ⟨by rw [← hq_]; exact (by repeat (first | (with_reducible first | exact HI0.out | apply IsS58.alloc | apply IsS58.drewN | apply IsS58.drew | apply IsS58.set_0 | apply IsS58.set_1 | refine IsS58.far ?_ NB0_364.out _) | exact HI0.out))⟩; have n2_ : Aside0 (KeepBut w w47 g none) := ⟨by rw [← hq_]; exact (by repeat (first | (with_reducible first | exact HK.out | apply KeepBut.set_ | apply keep_drewN | apply keep_drew | apply keep_alloc | refine keep_far ?_ GW364.out _) | exact HK.out))⟩; have n3_ : Aside0 (Below w0.heap.size w0 w47) := ⟨by rw [← hq_]; exact (by repeat (first | (with_reducible first | exact HB.out | apply below_alloc | apply pw_below_drewN | apply below_drew1 | refine below_set ?_ (IsS58.ge HI0.out) | refine below_set ?_ GE364.out) | exact HB.out))⟩; clear BK364 HI0 HK HB hq_; have BK364 := n0_; have HI0 := n1_; have HK := n2_; have HB := n3_; clear n0_ n1_ n2_ n3_))
  replace BK364 := Aside0.mk (blk_drew BK364.out)
  replace HI0 := Aside0.mk (IsS58.drew HI0.out)
  replace HK := Aside0.mk (keep_drew HK.out)
  replace HB := Aside0.mk (below_drew1 HB.out)
  refine start_ (n := 10) (S := fun w' => w'.cell? ⟨g, 0, none⟩ = some (.string s0_0) ∧ w'.cell? ⟨g, 1, none⟩ = some (.int .i64 s0_1)) (ds := []) #[false, false, false, false, false, false, false, false, false, false] (by kernel_rfl) rfl rfl ⟨(cellS58_0 HI0.out.1), (cellS58_1 HI0.out.1)⟩ (fun hHeld => ?_); refine with_tabW newelref01_walk_next.tab10 newelref01_walk_next.bits10 (fun HT_ HW_ => ?_)
  generalize w47.drew = w48 at BK364 HI0 HK HB hHeld ⊢
  refine pz 0 (some 81) HT_ ?_
  refine pz 1 (some 82) HT_ ?_
  refine pz 2 (some 83) HT_ ?_
  refine pz 4 (some 85) HT_ ?_
  refine pz 5 (some 86) HT_ ?_
  refine pz 6 (some 87) HT_ ?_
  refine tm 3 (some 84) HT_ HW_ hHeld ?_
  refine tm 7 (some 88) HT_ HW_ hHeld ?_
  refine on 8 (some 89) HT_ (fun K hK => ?_)
  refine goes_ Try.func46 (by kernel_rfl) rfl #[.string s0_0, .string (⟨#[60, 47]⟩ : ByteArray), .int .i64 s0_1] (by rfl) rfl rfl mA ?_
  with_reducible refine (newelref01_begins.calls s0_0 (⟨#[60, 47]⟩ : ByteArray) s0_1 true _ ?side1 A41.out).mono ?_
  (case side1 => exact Glob.step HG.out (by repeat (first | (with_reducible first | exact HB.out | apply below_alloc | apply pw_below_drewN | apply below_drew1 | refine below_set ?_ (IsS58.ge HI0.out) | refine below_set ?_ GE364.out) | exact HB.out)))
  rintro e w' ⟨rfl, ⟨nd, rfl⟩⟩
  refine ⟨_, rfl, ?_⟩
  refine hK.out _ _ ⟨(cellS58_0 HI0.out.1), (cellS58_1 HI0.out.1)⟩ (fun hHeld => ?_)
  clear hK K
  refine nz (some 89) ?_
  refine pz 9 (some 80) HT_ ?_
  refine done_ (done_of HT_.out (by kernel_rfl)) ?_
  try go_wp2_with (first | (refine gl (some 91) Try.func49 #[.pointer (some ⟨g, 0, none⟩)] ?_; (with_reducible refine (newelref01_walk_closing.calls k g s0_0 s0_1 t387 t388 t389 t390 t393 t394 t395 t396 w0 _ ?side1 ?side2 ?side3 A43.out).mono ?_); (case side1 => repeat (first | (with_reducible first | exact HI0.out | apply IsS58.alloc | apply IsS58.drewN | apply IsS58.drew | apply IsS58.set_0 | apply IsS58.set_1 | refine IsS58.far ?_ NB0_364.out _) | exact HI0.out)); (case side2 => repeat (first | (with_reducible first | exact HB.out | apply below_alloc | apply pw_below_drewN | apply below_drew1 | refine below_set ?_ (IsS58.ge HI0.out) | refine below_set ?_ GE364.out) | exact HB.out)); (case side3 => exact HG.out); rintro e w49 ⟨v391, rfl, ho0, hi, hb, hk⟩; refine ⟨_, rfl, ?_⟩; replace BK364 := Aside0.mk (KeepBut.blk hk (g' := gb364) (o := .cells #[.int .i64 0, .string (⟨#[]⟩ : ByteArray), .string (⟨#[]⟩ : ByteArray), .slice none 0 0, .bool false] 32 (0, 0)) (bK BK364) NB364_0.out (by simp)); have HO392 := Aside0.mk (Kd.R_lower ho0 (keep_size (w := w) (g := g) (row := none) (by repeat (first | (with_reducible first | exact HK.out | apply KeepBut.set_ | apply keep_drewN | apply keep_drew | apply keep_alloc | refine keep_far ?_ GW364.out _) | exact HK.out)))); replace HK := Aside0.mk (KeepBut.trans (by repeat (first | (with_reducible first | exact HK.out | apply KeepBut.set_ | apply keep_drewN | apply keep_drew | apply keep_alloc | refine keep_far ?_ GW364.out _) | exact HK.out)) hk (.inl rfl)); replace HB := Aside0.mk (hb); replace HI0 := Aside0.mk (hi); (try clear hb); (try clear hk); (try clear hi); (try clear ho0); have hnb50 := NB364_0.out; have hnc50 := NB0_364.out; have hcz51_0 : w49.cell? ⟨gb364, 0, none⟩ = some (.int .i64 0) := (blk_cell BK364.out 0).trans rfl; have hcz51_1 : w49.cell? ⟨gb364, 1, none⟩ = some (.string (⟨#[]⟩ : ByteArray)) := (blk_cell BK364.out 1).trans rfl; have hcz51_2 : w49.cell? ⟨gb364, 2, none⟩ = some (.string (⟨#[]⟩ : ByteArray)) := (blk_cell BK364.out 2).trans rfl; have hcz51_3 : w49.cell? ⟨gb364, 3, none⟩ = some (.slice none 0 0) := (blk_cell BK364.out 3).trans rfl; have hcz51_4 : w49.cell? ⟨gb364, 4, none⟩ = some (.bool false) := (blk_cell BK364.out 4).trans rfl; have hfz51_0 := blk_frozen BK364.out 0; have hfz51_1 := blk_frozen BK364.out 1; have hfz51_2 := blk_frozen BK364.out 2; have hfz51_3 := blk_frozen BK364.out 3; have hfz51_4 := blk_frozen BK364.out 4; obtain ⟨Ao52, co52, eo52⟩ := Kd.R_slice HO392.out; subst eo52))
  refine bodyPost_ret (results_ct rfl _ _ gb364 32 #[.int .i64 t387, .string t388, .string t389, .slice Ao52 t390.length co52, .bool t393] (0, 0) _ rfl (bP BK364) Try.underlying32 rfl (by kernel_rfl)) rfl ?_
  exact ⟨_, by first | rfl | (simp [errW_none, errW_some] <;> rfl) | (simp [*, errW_none, errW_some] <;> rfl), by (with_reducible repeat (first | apply Kd.R_alloc | apply Kd.R_drewN | apply Kd.R_drew)); exact Kd.R_mono (Kd.R_far (p := ⟨gb364, 4, none⟩) (Kd.R_far (p := ⟨gb364, 3, none⟩) (Kd.R_far (p := ⟨gb364, 2, none⟩) (Kd.R_far (p := ⟨gb364, 1, none⟩) (Kd.R_far (p := ⟨gb364, 0, none⟩) (Kd.R_types HO392.out BK364.out (by decide)) (fun _ hk => hk.2) (.int .i64 t387)) (fun _ hk => hk.2) (.string t388)) (fun _ hk => hk.2) (.string t389)) (fun _ hk => hk.2) (.slice Ao52 t390.length co52)) (fun _ hk => hk.2) (.bool t393)) (fun _ hk => trivial), by repeat (first | (with_reducible first | exact HI0.out | apply IsS58.alloc | apply IsS58.drewN | apply IsS58.drew | apply IsS58.set_0 | apply IsS58.set_1 | refine IsS58.far ?_ NB0_364.out _) | exact HI0.out), by repeat (first | (with_reducible first | exact HB.out | apply below_alloc | apply pw_below_drewN | apply below_drew1 | refine below_set ?_ (IsS58.ge HI0.out) | refine below_set ?_ GE364.out) | exact HB.out), by repeat (first | (with_reducible first | exact HK.out | apply KeepBut.set_ | apply keep_drewN | apply keep_drew | apply keep_alloc | refine keep_far ?_ GW364.out _) | exact HK.out)⟩
 replace c42 := Bool.eq_false_iff.mpr c42
 subst c42
 replace H : ((newelref01_begins.f s0_0 (⟨#[60]⟩ : ByteArray) s0_1).bind fun t397 => (if t397 = true then ((newelref01_walk_open.f k s0_0 s0_1).bind fun bt398 => (some (bt398.1, bt398.2.1, bt398.2.2.1, bt398.2.2.2.1, bt398.2.2.2.2.1, bt398.2.2.2.2.2.1, bt398.2.2.2.2.2.2.1, bt398.2.2.2.2.2.2.2))) else ((newelref01_find.f k s0_0 (⟨#[60]⟩ : ByteArray) s0_1).bind fun t408 => (if t408 < 0 then (if 0 ≤ s0_1 then (if s0_1 ≤ (s0_0.size : Int) then (if (s0_0.size : Int) ≤ (s0_0.size : Int) then ((newelref01_Entities.f k (s0_0.extract (s0_1 : Int).toNat ((s0_0.size : Int) : Int).toNat)).bind fun bt409 => (some (3, (⟨#[]⟩ : ByteArray), bt409.1, ([] : List (S39)), false, (bt409.2 == 0), s0_0, (s0_0.size : Int)))) else (none)) else (none)) else (none)) else (if 0 ≤ s0_1 then (if s0_1 ≤ t408 then (if t408 ≤ (s0_0.size : Int) then ((newelref01_Entities.f k (s0_0.extract (s0_1 : Int).toNat (t408 : Int).toNat)).bind fun bt411 => (some (3, (⟨#[]⟩ : ByteArray), bt411.1, ([] : List (S39)), false, (bt411.2 == 0), s0_0, t408))) else (none)) else (none)) else (none)))))) = some (r1, r2, r3, r4, r5, r6, r7, r8) := by rw [if_neg nF] at H; exact H
 replace H := bi H
 obtain ⟨t397, A530, H⟩ := H
 try dsimp only at H
 have A53 := Aside0.mk A530
 clear A530
 by_cases c54 : t397 = true
 ·subst c54
  replace H : ((newelref01_walk_open.f k s0_0 s0_1).bind fun bt398 => (some (bt398.1, bt398.2.1, bt398.2.2.1, bt398.2.2.2.1, bt398.2.2.2.2.1, bt398.2.2.2.2.2.1, bt398.2.2.2.2.2.2.1, bt398.2.2.2.2.2.2.2))) = some (r1, r2, r3, r4, r5, r6, r7, r8) := by rw [if_pos rfl] at H; exact H
  replace H := bi H
  obtain ⟨⟨t398, t399, t400, t401, t404, t405, t406, t407⟩, A550, H⟩ := H
  try dsimp only at H
  have A55 := Aside0.mk A550
  clear A550
  simp only [Option.some.injEq, Prod.mk.injEq] at H
  obtain ⟨rfl, rfl, rfl, rfl, rfl, rfl, rfl, rfl⟩ := H
  go_enter Try.func27, Try.ntmps27
  try go_wp2_with (first | (refine be 2 #[.int .i64 0, .string (⟨#[]⟩ : ByteArray), .string (⟨#[]⟩ : ByteArray), .slice none 0 0, .bool false] 32 ?_; intro gb364 hg w56 hbox hb; replace HB := Aside0.mk (below_step (by repeat (first | (with_reducible first | exact HB.out | apply below_alloc | apply pw_below_drewN | apply below_drew1 | refine below_set ?_ (IsS58.ge HI0.out)) | exact HB.out)) hb); have BK364 := Aside0.mk (hbox); have GW364 := Aside0.mk ((by rw [hg]; exact (keep_size (w := w) (g := g) (row := none) (by repeat (first | (with_reducible first | exact HK.out | apply KeepBut.set_ | apply keep_drewN | apply keep_drew | apply keep_alloc) | exact HK.out))) : w.heap.size ≤ gb364)); have GE364 := Aside0.mk ((Nat.le_trans HW0.out (by rw [hg]; exact (keep_size (w := w) (g := g) (row := none) (by repeat (first | (with_reducible first | exact HK.out | apply KeepBut.set_ | apply keep_drewN | apply keep_drew | apply keep_alloc) | exact HK.out))) : w.heap.size ≤ gb364) : w0.heap.size ≤ gb364)); replace HK := Aside0.mk (KeepBut.trans (by repeat (first | (with_reducible first | exact HK.out | apply KeepBut.set_ | apply keep_drewN | apply keep_drew | apply keep_alloc) | exact HK.out)) (KeepBut.of_below hb g none) (.inl rfl)); have NB0_364 := Aside0.mk ((by rw [hg]; exact Nat.ne_of_lt (IsS58.lt (show IsS58 w0 _ g s0_0 s0_1 from by repeat (first | (with_reducible first | exact HI0.out | apply IsS58.alloc | apply IsS58.drewN | apply IsS58.drew | apply IsS58.set_0 | apply IsS58.set_1) | exact HI0.out))) : g ≠ gb364)); have NB364_0 := Aside0.mk ((by rw [hg]; exact Nat.ne_of_gt (IsS58.lt (show IsS58 w0 _ g s0_0 s0_1 from by repeat (first | (with_reducible first | exact HI0.out | apply IsS58.alloc | apply IsS58.drewN | apply IsS58.drew | apply IsS58.set_0 | apply IsS58.set_1) | exact HI0.out))) : gb364 ≠ g)); replace HI0 := Aside0.mk (IsS58.below (by repeat (first | (with_reducible first | exact HI0.out | apply IsS58.alloc | apply IsS58.drewN | apply IsS58.drew | apply IsS58.set_0 | apply IsS58.set_1) | exact HI0.out)) hb); clear hb hbox hg))
  replace BK364 := Aside0.mk (blk_drew BK364.out)
  replace HI0 := Aside0.mk (IsS58.drew HI0.out)
  replace HK := Aside0.mk (keep_drew HK.out)
  replace HB := Aside0.mk (below_drew1 HB.out)
  refine start_ (n := 10) (S := fun w' => w'.cell? ⟨g, 0, none⟩ = some (.string s0_0) ∧ w'.cell? ⟨g, 1, none⟩ = some (.int .i64 s0_1)) (ds := []) #[false, false, false, false, false, false, false, false, false, false] (by kernel_rfl) rfl rfl ⟨(cellS58_0 HI0.out.1), (cellS58_1 HI0.out.1)⟩ (fun hHeld => ?_); refine with_tabW newelref01_walk_next.tab1 newelref01_walk_next.bits1 (fun HT_ HW_ => ?_)
  generalize w56.drew = w57 at BK364 HI0 HK HB hHeld ⊢
  refine pz 0 (some 13) HT_ ?_
  refine pz 1 (some 14) HT_ ?_
  refine pz 2 (some 15) HT_ ?_
  refine pz 4 (some 17) HT_ ?_
  refine pz 5 (some 18) HT_ ?_
  refine pz 6 (some 19) HT_ ?_
  refine tm 3 (some 16) HT_ HW_ hHeld ?_
  refine tm 7 (some 20) HT_ HW_ hHeld ?_
  refine on 8 (some 21) HT_ (fun K hK => ?_)
  refine goes_ Try.func46 (by kernel_rfl) rfl #[.string s0_0, .string (⟨#[60, 33, 45, 45]⟩ : ByteArray), .int .i64 s0_1] (by rfl) rfl rfl mA ?_
  with_reducible refine (newelref01_begins.calls s0_0 (⟨#[60, 33, 45, 45]⟩ : ByteArray) s0_1 false _ ?side1 A2.out).mono ?_
  (case side1 => exact Glob.step HG.out (by repeat (first | (with_reducible first | exact HB.out | apply below_alloc | apply pw_below_drewN | apply below_drew1 | refine below_set ?_ (IsS58.ge HI0.out) | refine below_set ?_ GE364.out) | exact HB.out)))
  rintro e w' ⟨rfl, ⟨nd, rfl⟩⟩
  refine ⟨_, rfl, ?_⟩
  refine hK.out _ _ ⟨(cellS58_0 HI0.out.1), (cellS58_1 HI0.out.1)⟩ (fun hHeld => ?_)
  clear hK K
  refine nz (some 21) ?_
  refine pz 9 (some 12) HT_ ?_
  refine done_ (done_of HT_.out (by kernel_rfl)) ?_
  try go_wp2
  (try ((try simp only [World.drewN_drewN]); (first | generalize hq_ : World.drewN w57 _ = w57 | (rw [drewN_self w57]; generalize hq_ : World.drewN w57 _ = w57)); have n0_ : Aside0 (w57.heap[gb364]? = some (.cells #[.int .i64 0, .string (⟨#[]⟩ : ByteArray), .string (⟨#[]⟩ : ByteArray), .slice none 0 0, .bool false] 32 (0, 0))) := ⟨by rw [← hq_]; exact (bK BK364)⟩; have n1_ : Aside0 (IsS58 w0 w57 g s0_0 s0_1) := ⟨by rw [← hq_]; exact (by repeat (first | (with_reducible first | exact HI0.out | apply IsS58.alloc | apply IsS58.drewN | apply IsS58.drew | apply IsS58.set_0 | apply IsS58.set_1 | refine IsS58.far ?_ NB0_364.out _) | exact HI0.out))⟩; have n2_ : Aside0 (KeepBut w w57 g none) := ⟨by rw [← hq_]; exact (by repeat (first | (with_reducible first | exact HK.out | apply KeepBut.set_ | apply keep_drewN | apply keep_drew | apply keep_alloc | refine keep_far ?_ GW364.out _) | exact HK.out))⟩; have n3_ : Aside0 (Below w0.heap.size w0 w57) := ⟨by rw [← hq_]; exact (by repeat (first | (with_reducible first | exact HB.out | apply below_alloc | apply pw_below_drewN | apply below_drew1 | refine below_set ?_ (IsS58.ge HI0.out) | refine below_set ?_ GE364.out) | exact HB.out))⟩; clear BK364 HI0 HK HB hq_; have BK364 := n0_; have HI0 := n1_; have HK := n2_; have HB := n3_; clear n0_ n1_ n2_ n3_))
  replace BK364 := Aside0.mk (blk_drew BK364.out)
  replace HI0 := Aside0.mk (IsS58.drew HI0.out)
  replace HK := Aside0.mk (keep_drew HK.out)
  replace HB := Aside0.mk (below_drew1 HB.out)
  refine start_ (n := 10) (S := fun w' => w'.cell? ⟨g, 0, none⟩ = some (.string s0_0) ∧ w'.cell? ⟨g, 1, none⟩ = some (.int .i64 s0_1)) (ds := []) #[false, false, false, false, false, false, false, false, false, false] (by kernel_rfl) rfl rfl ⟨(cellS58_0 HI0.out.1), (cellS58_1 HI0.out.1)⟩ (fun hHeld => ?_); refine with_tabW newelref01_walk_next.tab3 newelref01_walk_next.bits3 (fun HT_ HW_ => ?_)
  generalize w57.drew = w58 at BK364 HI0 HK HB hHeld ⊢
  refine pz 0 (some 27) HT_ ?_
  refine pz 1 (some 28) HT_ ?_
  refine pz 2 (some 29) HT_ ?_
  refine pz 4 (some 31) HT_ ?_
  refine pz 5 (some 32) HT_ ?_
  refine pz 6 (some 33) HT_ ?_
  refine tm 3 (some 30) HT_ HW_ hHeld ?_
  refine tm 7 (some 34) HT_ HW_ hHeld ?_
  refine on 8 (some 35) HT_ (fun K hK => ?_)
  refine goes_ Try.func46 (by kernel_rfl) rfl #[.string s0_0, .string (⟨#[60, 33, 91, 67, 68, 65, 84, 65, 91]⟩ : ByteArray), .int .i64 s0_1] (by rfl) rfl rfl mA ?_
  with_reducible refine (newelref01_begins.calls s0_0 (⟨#[60, 33, 91, 67, 68, 65, 84, 65, 91]⟩ : ByteArray) s0_1 false _ ?side1 A11.out).mono ?_
  (case side1 => exact Glob.step HG.out (by repeat (first | (with_reducible first | exact HB.out | apply below_alloc | apply pw_below_drewN | apply below_drew1 | refine below_set ?_ (IsS58.ge HI0.out) | refine below_set ?_ GE364.out) | exact HB.out)))
  rintro e w' ⟨rfl, ⟨nd, rfl⟩⟩
  refine ⟨_, rfl, ?_⟩
  refine hK.out _ _ ⟨(cellS58_0 HI0.out.1), (cellS58_1 HI0.out.1)⟩ (fun hHeld => ?_)
  clear hK K
  refine nz (some 35) ?_
  refine pz 9 (some 26) HT_ ?_
  refine done_ (done_of HT_.out (by kernel_rfl)) ?_
  try go_wp2
  (try ((try simp only [World.drewN_drewN]); (first | generalize hq_ : World.drewN w58 _ = w58 | (rw [drewN_self w58]; generalize hq_ : World.drewN w58 _ = w58)); have n0_ : Aside0 (w58.heap[gb364]? = some (.cells #[.int .i64 0, .string (⟨#[]⟩ : ByteArray), .string (⟨#[]⟩ : ByteArray), .slice none 0 0, .bool false] 32 (0, 0))) := ⟨by rw [← hq_]; exact (bK BK364)⟩; have n1_ : Aside0 (IsS58 w0 w58 g s0_0 s0_1) := ⟨by rw [← hq_]; exact (by repeat (first | (with_reducible first | exact HI0.out | apply IsS58.alloc | apply IsS58.drewN | apply IsS58.drew | apply IsS58.set_0 | apply IsS58.set_1 | refine IsS58.far ?_ NB0_364.out _) | exact HI0.out))⟩; have n2_ : Aside0 (KeepBut w w58 g none) := ⟨by rw [← hq_]; exact (by repeat (first | (with_reducible first | exact HK.out | apply KeepBut.set_ | apply keep_drewN | apply keep_drew | apply keep_alloc | refine keep_far ?_ GW364.out _) | exact HK.out))⟩; have n3_ : Aside0 (Below w0.heap.size w0 w58) := ⟨by rw [← hq_]; exact (by repeat (first | (with_reducible first | exact HB.out | apply below_alloc | apply pw_below_drewN | apply below_drew1 | refine below_set ?_ (IsS58.ge HI0.out) | refine below_set ?_ GE364.out) | exact HB.out))⟩; clear BK364 HI0 HK HB hq_; have BK364 := n0_; have HI0 := n1_; have HK := n2_; have HB := n3_; clear n0_ n1_ n2_ n3_))
  replace BK364 := Aside0.mk (blk_drew BK364.out)
  replace HI0 := Aside0.mk (IsS58.drew HI0.out)
  replace HK := Aside0.mk (keep_drew HK.out)
  replace HB := Aside0.mk (below_drew1 HB.out)
  refine start_ (n := 10) (S := fun w' => w'.cell? ⟨g, 0, none⟩ = some (.string s0_0) ∧ w'.cell? ⟨g, 1, none⟩ = some (.int .i64 s0_1)) (ds := []) #[false, false, false, false, false, false, false, false, false, false] (by kernel_rfl) rfl rfl ⟨(cellS58_0 HI0.out.1), (cellS58_1 HI0.out.1)⟩ (fun hHeld => ?_); refine with_tabW newelref01_walk_next.tab6 newelref01_walk_next.bits6 (fun HT_ HW_ => ?_)
  generalize w58.drew = w59 at BK364 HI0 HK HB hHeld ⊢
  refine pz 0 (some 50) HT_ ?_
  refine pz 1 (some 51) HT_ ?_
  refine pz 2 (some 52) HT_ ?_
  refine pz 4 (some 54) HT_ ?_
  refine pz 5 (some 55) HT_ ?_
  refine pz 6 (some 56) HT_ ?_
  refine tm 3 (some 53) HT_ HW_ hHeld ?_
  refine tm 7 (some 57) HT_ HW_ hHeld ?_
  refine on 8 (some 58) HT_ (fun K hK => ?_)
  refine goes_ Try.func46 (by kernel_rfl) rfl #[.string s0_0, .string (⟨#[60, 63]⟩ : ByteArray), .int .i64 s0_1] (by rfl) rfl rfl mA ?_
  with_reducible refine (newelref01_begins.calls s0_0 (⟨#[60, 63]⟩ : ByteArray) s0_1 false _ ?side1 A21.out).mono ?_
  (case side1 => exact Glob.step HG.out (by repeat (first | (with_reducible first | exact HB.out | apply below_alloc | apply pw_below_drewN | apply below_drew1 | refine below_set ?_ (IsS58.ge HI0.out) | refine below_set ?_ GE364.out) | exact HB.out)))
  rintro e w' ⟨rfl, ⟨nd, rfl⟩⟩
  refine ⟨_, rfl, ?_⟩
  refine hK.out _ _ ⟨(cellS58_0 HI0.out.1), (cellS58_1 HI0.out.1)⟩ (fun hHeld => ?_)
  clear hK K
  refine nz (some 58) ?_
  refine pz 9 (some 49) HT_ ?_
  refine done_ (done_of HT_.out (by kernel_rfl)) ?_
  try go_wp2
  (try ((try simp only [World.drewN_drewN]); (first | generalize hq_ : World.drewN w59 _ = w59 | (rw [drewN_self w59]; generalize hq_ : World.drewN w59 _ = w59)); have n0_ : Aside0 (w59.heap[gb364]? = some (.cells #[.int .i64 0, .string (⟨#[]⟩ : ByteArray), .string (⟨#[]⟩ : ByteArray), .slice none 0 0, .bool false] 32 (0, 0))) := ⟨by rw [← hq_]; exact (bK BK364)⟩; have n1_ : Aside0 (IsS58 w0 w59 g s0_0 s0_1) := ⟨by rw [← hq_]; exact (by repeat (first | (with_reducible first | exact HI0.out | apply IsS58.alloc | apply IsS58.drewN | apply IsS58.drew | apply IsS58.set_0 | apply IsS58.set_1 | refine IsS58.far ?_ NB0_364.out _) | exact HI0.out))⟩; have n2_ : Aside0 (KeepBut w w59 g none) := ⟨by rw [← hq_]; exact (by repeat (first | (with_reducible first | exact HK.out | apply KeepBut.set_ | apply keep_drewN | apply keep_drew | apply keep_alloc | refine keep_far ?_ GW364.out _) | exact HK.out))⟩; have n3_ : Aside0 (Below w0.heap.size w0 w59) := ⟨by rw [← hq_]; exact (by repeat (first | (with_reducible first | exact HB.out | apply below_alloc | apply pw_below_drewN | apply below_drew1 | refine below_set ?_ (IsS58.ge HI0.out) | refine below_set ?_ GE364.out) | exact HB.out))⟩; clear BK364 HI0 HK HB hq_; have BK364 := n0_; have HI0 := n1_; have HK := n2_; have HB := n3_; clear n0_ n1_ n2_ n3_))
  replace BK364 := Aside0.mk (blk_drew BK364.out)
  replace HI0 := Aside0.mk (IsS58.drew HI0.out)
  replace HK := Aside0.mk (keep_drew HK.out)
  replace HB := Aside0.mk (below_drew1 HB.out)
  refine start_ (n := 10) (S := fun w' => w'.cell? ⟨g, 0, none⟩ = some (.string s0_0) ∧ w'.cell? ⟨g, 1, none⟩ = some (.int .i64 s0_1)) (ds := []) #[false, false, false, false, false, false, false, false, false, false] (by kernel_rfl) rfl rfl ⟨(cellS58_0 HI0.out.1), (cellS58_1 HI0.out.1)⟩ (fun hHeld => ?_); refine with_tabW newelref01_walk_next.tab10 newelref01_walk_next.bits10 (fun HT_ HW_ => ?_)
  generalize w59.drew = w60 at BK364 HI0 HK HB hHeld ⊢
  refine pz 0 (some 81) HT_ ?_
  refine pz 1 (some 82) HT_ ?_
  refine pz 2 (some 83) HT_ ?_
  refine pz 4 (some 85) HT_ ?_
  refine pz 5 (some 86) HT_ ?_
  refine pz 6 (some 87) HT_ ?_
  refine tm 3 (some 84) HT_ HW_ hHeld ?_
  refine tm 7 (some 88) HT_ HW_ hHeld ?_
  refine on 8 (some 89) HT_ (fun K hK => ?_)
  refine goes_ Try.func46 (by kernel_rfl) rfl #[.string s0_0, .string (⟨#[60, 47]⟩ : ByteArray), .int .i64 s0_1] (by rfl) rfl rfl mA ?_
  with_reducible refine (newelref01_begins.calls s0_0 (⟨#[60, 47]⟩ : ByteArray) s0_1 false _ ?side1 A41.out).mono ?_
  (case side1 => exact Glob.step HG.out (by repeat (first | (with_reducible first | exact HB.out | apply below_alloc | apply pw_below_drewN | apply below_drew1 | refine below_set ?_ (IsS58.ge HI0.out) | refine below_set ?_ GE364.out) | exact HB.out)))
  rintro e w' ⟨rfl, ⟨nd, rfl⟩⟩
  refine ⟨_, rfl, ?_⟩
  refine hK.out _ _ ⟨(cellS58_0 HI0.out.1), (cellS58_1 HI0.out.1)⟩ (fun hHeld => ?_)
  clear hK K
  refine nz (some 89) ?_
  refine pz 9 (some 80) HT_ ?_
  refine done_ (done_of HT_.out (by kernel_rfl)) ?_
  try go_wp2
  (try ((try simp only [World.drewN_drewN]); (first | generalize hq_ : World.drewN w60 _ = w60 | (rw [drewN_self w60]; generalize hq_ : World.drewN w60 _ = w60)); have n0_ : Aside0 (w60.heap[gb364]? = some (.cells #[.int .i64 0, .string (⟨#[]⟩ : ByteArray), .string (⟨#[]⟩ : ByteArray), .slice none 0 0, .bool false] 32 (0, 0))) := ⟨by rw [← hq_]; exact (bK BK364)⟩; have n1_ : Aside0 (IsS58 w0 w60 g s0_0 s0_1) := ⟨by rw [← hq_]; exact (by repeat (first | (with_reducible first | exact HI0.out | apply IsS58.alloc | apply IsS58.drewN | apply IsS58.drew | apply IsS58.set_0 | apply IsS58.set_1 | refine IsS58.far ?_ NB0_364.out _) | exact HI0.out))⟩; have n2_ : Aside0 (KeepBut w w60 g none) := ⟨by rw [← hq_]; exact (by repeat (first | (with_reducible first | exact HK.out | apply KeepBut.set_ | apply keep_drewN | apply keep_drew | apply keep_alloc | refine keep_far ?_ GW364.out _) | exact HK.out))⟩; have n3_ : Aside0 (Below w0.heap.size w0 w60) := ⟨by rw [← hq_]; exact (by repeat (first | (with_reducible first | exact HB.out | apply below_alloc | apply pw_below_drewN | apply below_drew1 | refine below_set ?_ (IsS58.ge HI0.out) | refine below_set ?_ GE364.out) | exact HB.out))⟩; clear BK364 HI0 HK HB hq_; have BK364 := n0_; have HI0 := n1_; have HK := n2_; have HB := n3_; clear n0_ n1_ n2_ n3_))
  replace BK364 := Aside0.mk (blk_drew BK364.out)
  replace HI0 := Aside0.mk (IsS58.drew HI0.out)
  replace HK := Aside0.mk (keep_drew HK.out)
  replace HB := Aside0.mk (below_drew1 HB.out)
  refine start_ (n := 10) (S := fun w' => w'.cell? ⟨g, 0, none⟩ = some (.string s0_0) ∧ w'.cell? ⟨g, 1, none⟩ = some (.int .i64 s0_1)) (ds := []) #[false, false, false, false, false, false, false, false, false, false] (by kernel_rfl) rfl rfl ⟨(cellS58_0 HI0.out.1), (cellS58_1 HI0.out.1)⟩ (fun hHeld => ?_); refine with_tabW newelref01_walk_next.tab12 newelref01_walk_next.bits12 (fun HT_ HW_ => ?_)
  generalize w60.drew = w61 at BK364 HI0 HK HB hHeld ⊢
  refine pz 0 (some 95) HT_ ?_
  refine pz 1 (some 96) HT_ ?_
  refine pz 2 (some 97) HT_ ?_
  refine pz 4 (some 99) HT_ ?_
  refine pz 5 (some 100) HT_ ?_
  refine pz 6 (some 101) HT_ ?_
  refine tm 3 (some 98) HT_ HW_ hHeld ?_
  refine tm 7 (some 102) HT_ HW_ hHeld ?_
  refine on 8 (some 103) HT_ (fun K hK => ?_)
  refine goes_ Try.func46 (by kernel_rfl) rfl #[.string s0_0, .string (⟨#[60]⟩ : ByteArray), .int .i64 s0_1] (by rfl) rfl rfl mA ?_
  with_reducible refine (newelref01_begins.calls s0_0 (⟨#[60]⟩ : ByteArray) s0_1 true _ ?side1 A53.out).mono ?_
  (case side1 => exact Glob.step HG.out (by repeat (first | (with_reducible first | exact HB.out | apply below_alloc | apply pw_below_drewN | apply below_drew1 | refine below_set ?_ (IsS58.ge HI0.out) | refine below_set ?_ GE364.out) | exact HB.out)))
  rintro e w' ⟨rfl, ⟨nd, rfl⟩⟩
  refine ⟨_, rfl, ?_⟩
  refine hK.out _ _ ⟨(cellS58_0 HI0.out.1), (cellS58_1 HI0.out.1)⟩ (fun hHeld => ?_)
  clear hK K
  refine nz (some 103) ?_
  refine pz 9 (some 94) HT_ ?_
  refine done_ (done_of HT_.out (by kernel_rfl)) ?_
  try go_wp2_with (first | (refine gl (some 105) Try.func50 #[.pointer (some ⟨g, 0, none⟩)] ?_; (with_reducible refine (newelref01_walk_open.calls k g s0_0 s0_1 t398 t399 t400 t401 t404 t405 t406 t407 w0 _ ?side1 ?side2 ?side3 A55.out).mono ?_); (case side1 => repeat (first | (with_reducible first | exact HI0.out | apply IsS58.alloc | apply IsS58.drewN | apply IsS58.drew | apply IsS58.set_0 | apply IsS58.set_1 | refine IsS58.far ?_ NB0_364.out _) | exact HI0.out)); (case side2 => repeat (first | (with_reducible first | exact HB.out | apply below_alloc | apply pw_below_drewN | apply below_drew1 | refine below_set ?_ (IsS58.ge HI0.out) | refine below_set ?_ GE364.out) | exact HB.out)); (case side3 => exact HG.out); rintro e w62 ⟨v402, rfl, ho0, hi, hb, hk⟩; refine ⟨_, rfl, ?_⟩; replace BK364 := Aside0.mk (KeepBut.blk hk (g' := gb364) (o := .cells #[.int .i64 0, .string (⟨#[]⟩ : ByteArray), .string (⟨#[]⟩ : ByteArray), .slice none 0 0, .bool false] 32 (0, 0)) (bK BK364) NB364_0.out (by simp)); have HO403 := Aside0.mk (Kd.R_lower ho0 (keep_size (w := w) (g := g) (row := none) (by repeat (first | (with_reducible first | exact HK.out | apply KeepBut.set_ | apply keep_drewN | apply keep_drew | apply keep_alloc | refine keep_far ?_ GW364.out _) | exact HK.out)))); replace HK := Aside0.mk (KeepBut.trans (by repeat (first | (with_reducible first | exact HK.out | apply KeepBut.set_ | apply keep_drewN | apply keep_drew | apply keep_alloc | refine keep_far ?_ GW364.out _) | exact HK.out)) hk (.inl rfl)); replace HB := Aside0.mk (hb); replace HI0 := Aside0.mk (hi); (try clear hb); (try clear hk); (try clear hi); (try clear ho0); have hnb63 := NB364_0.out; have hnc63 := NB0_364.out; have hcz64_0 : w62.cell? ⟨gb364, 0, none⟩ = some (.int .i64 0) := (blk_cell BK364.out 0).trans rfl; have hcz64_1 : w62.cell? ⟨gb364, 1, none⟩ = some (.string (⟨#[]⟩ : ByteArray)) := (blk_cell BK364.out 1).trans rfl; have hcz64_2 : w62.cell? ⟨gb364, 2, none⟩ = some (.string (⟨#[]⟩ : ByteArray)) := (blk_cell BK364.out 2).trans rfl; have hcz64_3 : w62.cell? ⟨gb364, 3, none⟩ = some (.slice none 0 0) := (blk_cell BK364.out 3).trans rfl; have hcz64_4 : w62.cell? ⟨gb364, 4, none⟩ = some (.bool false) := (blk_cell BK364.out 4).trans rfl; have hfz64_0 := blk_frozen BK364.out 0; have hfz64_1 := blk_frozen BK364.out 1; have hfz64_2 := blk_frozen BK364.out 2; have hfz64_3 := blk_frozen BK364.out 3; have hfz64_4 := blk_frozen BK364.out 4; obtain ⟨Ao65, co65, eo65⟩ := Kd.R_slice HO403.out; subst eo65))
  refine bodyPost_ret (results_ct rfl _ _ gb364 32 #[.int .i64 t398, .string t399, .string t400, .slice Ao65 t401.length co65, .bool t404] (0, 0) _ rfl (bP BK364) Try.underlying32 rfl (by kernel_rfl)) rfl ?_
  exact ⟨_, by first | rfl | (simp [errW_none, errW_some] <;> rfl) | (simp [*, errW_none, errW_some] <;> rfl), by (with_reducible repeat (first | apply Kd.R_alloc | apply Kd.R_drewN | apply Kd.R_drew)); exact Kd.R_mono (Kd.R_far (p := ⟨gb364, 4, none⟩) (Kd.R_far (p := ⟨gb364, 3, none⟩) (Kd.R_far (p := ⟨gb364, 2, none⟩) (Kd.R_far (p := ⟨gb364, 1, none⟩) (Kd.R_far (p := ⟨gb364, 0, none⟩) (Kd.R_types HO403.out BK364.out (by decide)) (fun _ hk => hk.2) (.int .i64 t398)) (fun _ hk => hk.2) (.string t399)) (fun _ hk => hk.2) (.string t400)) (fun _ hk => hk.2) (.slice Ao65 t401.length co65)) (fun _ hk => hk.2) (.bool t404)) (fun _ hk => trivial), by repeat (first | (with_reducible first | exact HI0.out | apply IsS58.alloc | apply IsS58.drewN | apply IsS58.drew | apply IsS58.set_0 | apply IsS58.set_1 | refine IsS58.far ?_ NB0_364.out _) | exact HI0.out), by repeat (first | (with_reducible first | exact HB.out | apply below_alloc | apply pw_below_drewN | apply below_drew1 | refine below_set ?_ (IsS58.ge HI0.out) | refine below_set ?_ GE364.out) | exact HB.out), by repeat (first | (with_reducible first | exact HK.out | apply KeepBut.set_ | apply keep_drewN | apply keep_drew | apply keep_alloc | refine keep_far ?_ GW364.out _) | exact HK.out)⟩
 replace c54 := Bool.eq_false_iff.mpr c54
 subst c54
 replace H : ((newelref01_find.f k s0_0 (⟨#[60]⟩ : ByteArray) s0_1).bind fun t408 => (if t408 < 0 then (if 0 ≤ s0_1 then (if s0_1 ≤ (s0_0.size : Int) then (if (s0_0.size : Int) ≤ (s0_0.size : Int) then ((newelref01_Entities.f k (s0_0.extract (s0_1 : Int).toNat ((s0_0.size : Int) : Int).toNat)).bind fun bt409 => (some (3, (⟨#[]⟩ : ByteArray), bt409.1, ([] : List (S39)), false, (bt409.2 == 0), s0_0, (s0_0.size : Int)))) else (none)) else (none)) else (none)) else (if 0 ≤ s0_1 then (if s0_1 ≤ t408 then (if t408 ≤ (s0_0.size : Int) then ((newelref01_Entities.f k (s0_0.extract (s0_1 : Int).toNat (t408 : Int).toNat)).bind fun bt411 => (some (3, (⟨#[]⟩ : ByteArray), bt411.1, ([] : List (S39)), false, (bt411.2 == 0), s0_0, t408))) else (none)) else (none)) else (none)))) = some (r1, r2, r3, r4, r5, r6, r7, r8) := by rw [if_neg nF] at H; exact H
 replace H := bi H
 obtain ⟨t408, A660, H⟩ := H
 try dsimp only at H
 have A66 := Aside0.mk A660
 clear A660
 by_cases c67 : t408 < 0
 rotate_left
 ·rw [if_neg c67] at H
  have c67b0 := dF c67
  clear c67
  obtain ⟨c85, H⟩ := gp H
  have c85b0 := eq_true c85
  have c85b1 := dT c85
  clear c85
  obtain ⟨c86, H⟩ := gp H
  have c86b0 := eq_true c86
  have c86b1 := dT c86
  clear c86
  obtain ⟨c87, H⟩ := gp H
  have c87b0 := eq_true c87
  have c87b1 := dT c87
  clear c87
  replace H := bi H
  obtain ⟨⟨t411, t412⟩, A880, H⟩ := H
  try dsimp only at H
  have A88 := Aside0.mk A880
  clear A880
  simp only [Option.some.injEq, Prod.mk.injEq] at H
  obtain ⟨rfl, rfl, rfl, rfl, rfl, rfl, rfl, rfl⟩ := H
  go_enter Try.func27, Try.ntmps27
  try go_wp2_with (first | (refine be 2 #[.int .i64 0, .string (⟨#[]⟩ : ByteArray), .string (⟨#[]⟩ : ByteArray), .slice none 0 0, .bool false] 32 ?_; intro gb364 hg w89 hbox hb; replace HB := Aside0.mk (below_step (by repeat (first | (with_reducible first | exact HB.out | apply below_alloc | apply pw_below_drewN | apply below_drew1 | refine below_set ?_ (IsS58.ge HI0.out)) | exact HB.out)) hb); have BK364 := Aside0.mk (hbox); have GW364 := Aside0.mk ((by rw [hg]; exact (keep_size (w := w) (g := g) (row := none) (by repeat (first | (with_reducible first | exact HK.out | apply KeepBut.set_ | apply keep_drewN | apply keep_drew | apply keep_alloc) | exact HK.out))) : w.heap.size ≤ gb364)); have GE364 := Aside0.mk ((Nat.le_trans HW0.out (by rw [hg]; exact (keep_size (w := w) (g := g) (row := none) (by repeat (first | (with_reducible first | exact HK.out | apply KeepBut.set_ | apply keep_drewN | apply keep_drew | apply keep_alloc) | exact HK.out))) : w.heap.size ≤ gb364) : w0.heap.size ≤ gb364)); replace HK := Aside0.mk (KeepBut.trans (by repeat (first | (with_reducible first | exact HK.out | apply KeepBut.set_ | apply keep_drewN | apply keep_drew | apply keep_alloc) | exact HK.out)) (KeepBut.of_below hb g none) (.inl rfl)); have NB0_364 := Aside0.mk ((by rw [hg]; exact Nat.ne_of_lt (IsS58.lt (show IsS58 w0 _ g s0_0 s0_1 from by repeat (first | (with_reducible first | exact HI0.out | apply IsS58.alloc | apply IsS58.drewN | apply IsS58.drew | apply IsS58.set_0 | apply IsS58.set_1) | exact HI0.out))) : g ≠ gb364)); have NB364_0 := Aside0.mk ((by rw [hg]; exact Nat.ne_of_gt (IsS58.lt (show IsS58 w0 _ g s0_0 s0_1 from by repeat (first | (with_reducible first | exact HI0.out | apply IsS58.alloc | apply IsS58.drewN | apply IsS58.drew | apply IsS58.set_0 | apply IsS58.set_1) | exact HI0.out))) : gb364 ≠ g)); replace HI0 := Aside0.mk (IsS58.below (by repeat (first | (with_reducible first | exact HI0.out | apply IsS58.alloc | apply IsS58.drewN | apply IsS58.drew | apply IsS58.set_0 | apply IsS58.set_1) | exact HI0.out)) hb); clear hb hbox hg))
  replace BK364 := Aside0.mk (blk_drew BK364.out)
  replace HI0 := Aside0.mk (IsS58.drew HI0.out)
  replace HK := Aside0.mk (keep_drew HK.out)
  replace HB := Aside0.mk (below_drew1 HB.out)
  refine start_ (n := 10) (S := fun w' => w'.cell? ⟨g, 0, none⟩ = some (.string s0_0) ∧ w'.cell? ⟨g, 1, none⟩ = some (.int .i64 s0_1)) (ds := []) #[false, false, false, false, false, false, false, false, false, false] (by kernel_rfl) rfl rfl ⟨(cellS58_0 HI0.out.1), (cellS58_1 HI0.out.1)⟩ (fun hHeld => ?_); refine with_tabW newelref01_walk_next.tab1 newelref01_walk_next.bits1 (fun HT_ HW_ => ?_)
  generalize w89.drew = w90 at BK364 HI0 HK HB hHeld ⊢
  refine pz 0 (some 13) HT_ ?_
  refine pz 1 (some 14) HT_ ?_
  refine pz 2 (some 15) HT_ ?_
  refine pz 4 (some 17) HT_ ?_
  refine pz 5 (some 18) HT_ ?_
  refine pz 6 (some 19) HT_ ?_
  refine tm 3 (some 16) HT_ HW_ hHeld ?_
  refine tm 7 (some 20) HT_ HW_ hHeld ?_
  refine on 8 (some 21) HT_ (fun K hK => ?_)
  refine goes_ Try.func46 (by kernel_rfl) rfl #[.string s0_0, .string (⟨#[60, 33, 45, 45]⟩ : ByteArray), .int .i64 s0_1] (by rfl) rfl rfl mA ?_
  with_reducible refine (newelref01_begins.calls s0_0 (⟨#[60, 33, 45, 45]⟩ : ByteArray) s0_1 false _ ?side1 A2.out).mono ?_
  (case side1 => exact Glob.step HG.out (by repeat (first | (with_reducible first | exact HB.out | apply below_alloc | apply pw_below_drewN | apply below_drew1 | refine below_set ?_ (IsS58.ge HI0.out) | refine below_set ?_ GE364.out) | exact HB.out)))
  rintro e w' ⟨rfl, ⟨nd, rfl⟩⟩
  refine ⟨_, rfl, ?_⟩
  refine hK.out _ _ ⟨(cellS58_0 HI0.out.1), (cellS58_1 HI0.out.1)⟩ (fun hHeld => ?_)
  clear hK K
  refine nz (some 21) ?_
  refine pz 9 (some 12) HT_ ?_
  refine done_ (done_of HT_.out (by kernel_rfl)) ?_
  try go_wp2
  (try ((try simp only [World.drewN_drewN]); (first | generalize hq_ : World.drewN w90 _ = w90 | (rw [drewN_self w90]; generalize hq_ : World.drewN w90 _ = w90)); have n0_ : Aside0 (w90.heap[gb364]? = some (.cells #[.int .i64 0, .string (⟨#[]⟩ : ByteArray), .string (⟨#[]⟩ : ByteArray), .slice none 0 0, .bool false] 32 (0, 0))) := ⟨by rw [← hq_]; exact (bK BK364)⟩; have n1_ : Aside0 (IsS58 w0 w90 g s0_0 s0_1) := ⟨by rw [← hq_]; exact (by repeat (first | (with_reducible first | exact HI0.out | apply IsS58.alloc | apply IsS58.drewN | apply IsS58.drew | apply IsS58.set_0 | apply IsS58.set_1 | refine IsS58.far ?_ NB0_364.out _) | exact HI0.out))⟩; have n2_ : Aside0 (KeepBut w w90 g none) := ⟨by rw [← hq_]; exact (by repeat (first | (with_reducible first | exact HK.out | apply KeepBut.set_ | apply keep_drewN | apply keep_drew | apply keep_alloc | refine keep_far ?_ GW364.out _) | exact HK.out))⟩; have n3_ : Aside0 (Below w0.heap.size w0 w90) := ⟨by rw [← hq_]; exact (by repeat (first | (with_reducible first | exact HB.out | apply below_alloc | apply pw_below_drewN | apply below_drew1 | refine below_set ?_ (IsS58.ge HI0.out) | refine below_set ?_ GE364.out) | exact HB.out))⟩; clear BK364 HI0 HK HB hq_; have BK364 := n0_; have HI0 := n1_; have HK := n2_; have HB := n3_; clear n0_ n1_ n2_ n3_))
  replace BK364 := Aside0.mk (blk_drew BK364.out)
  replace HI0 := Aside0.mk (IsS58.drew HI0.out)
  replace HK := Aside0.mk (keep_drew HK.out)
  replace HB := Aside0.mk (below_drew1 HB.out)
  refine start_ (n := 10) (S := fun w' => w'.cell? ⟨g, 0, none⟩ = some (.string s0_0) ∧ w'.cell? ⟨g, 1, none⟩ = some (.int .i64 s0_1)) (ds := []) #[false, false, false, false, false, false, false, false, false, false] (by kernel_rfl) rfl rfl ⟨(cellS58_0 HI0.out.1), (cellS58_1 HI0.out.1)⟩ (fun hHeld => ?_); refine with_tabW newelref01_walk_next.tab3 newelref01_walk_next.bits3 (fun HT_ HW_ => ?_)
  generalize w90.drew = w91 at BK364 HI0 HK HB hHeld ⊢
  refine pz 0 (some 27) HT_ ?_
  refine pz 1 (some 28) HT_ ?_
  refine pz 2 (some 29) HT_ ?_
  refine pz 4 (some 31) HT_ ?_
  refine pz 5 (some 32) HT_ ?_
  refine pz 6 (some 33) HT_ ?_
  refine tm 3 (some 30) HT_ HW_ hHeld ?_
  refine tm 7 (some 34) HT_ HW_ hHeld ?_
  refine on 8 (some 35) HT_ (fun K hK => ?_)
  refine goes_ Try.func46 (by kernel_rfl) rfl #[.string s0_0, .string (⟨#[60, 33, 91, 67, 68, 65, 84, 65, 91]⟩ : ByteArray), .int .i64 s0_1] (by rfl) rfl rfl mA ?_
  with_reducible refine (newelref01_begins.calls s0_0 (⟨#[60, 33, 91, 67, 68, 65, 84, 65, 91]⟩ : ByteArray) s0_1 false _ ?side1 A11.out).mono ?_
  (case side1 => exact Glob.step HG.out (by repeat (first | (with_reducible first | exact HB.out | apply below_alloc | apply pw_below_drewN | apply below_drew1 | refine below_set ?_ (IsS58.ge HI0.out) | refine below_set ?_ GE364.out) | exact HB.out)))
  rintro e w' ⟨rfl, ⟨nd, rfl⟩⟩
  refine ⟨_, rfl, ?_⟩
  refine hK.out _ _ ⟨(cellS58_0 HI0.out.1), (cellS58_1 HI0.out.1)⟩ (fun hHeld => ?_)
  clear hK K
  refine nz (some 35) ?_
  refine pz 9 (some 26) HT_ ?_
  refine done_ (done_of HT_.out (by kernel_rfl)) ?_
  try go_wp2
  (try ((try simp only [World.drewN_drewN]); (first | generalize hq_ : World.drewN w91 _ = w91 | (rw [drewN_self w91]; generalize hq_ : World.drewN w91 _ = w91)); have n0_ : Aside0 (w91.heap[gb364]? = some (.cells #[.int .i64 0, .string (⟨#[]⟩ : ByteArray), .string (⟨#[]⟩ : ByteArray), .slice none 0 0, .bool false] 32 (0, 0))) := ⟨by rw [← hq_]; exact (bK BK364)⟩; have n1_ : Aside0 (IsS58 w0 w91 g s0_0 s0_1) := ⟨by rw [← hq_]; exact (by repeat (first | (with_reducible first | exact HI0.out | apply IsS58.alloc | apply IsS58.drewN | apply IsS58.drew | apply IsS58.set_0 | apply IsS58.set_1 | refine IsS58.far ?_ NB0_364.out _) | exact HI0.out))⟩; have n2_ : Aside0 (KeepBut w w91 g none) := ⟨by rw [← hq_]; exact (by repeat (first | (with_reducible first | exact HK.out | apply KeepBut.set_ | apply keep_drewN | apply keep_drew | apply keep_alloc | refine keep_far ?_ GW364.out _) | exact HK.out))⟩; have n3_ : Aside0 (Below w0.heap.size w0 w91) := ⟨by rw [← hq_]; exact (by repeat (first | (with_reducible first | exact HB.out | apply below_alloc | apply pw_below_drewN | apply below_drew1 | refine below_set ?_ (IsS58.ge HI0.out) | refine below_set ?_ GE364.out) | exact HB.out))⟩; clear BK364 HI0 HK HB hq_; have BK364 := n0_; have HI0 := n1_; have HK := n2_; have HB := n3_; clear n0_ n1_ n2_ n3_))
  replace BK364 := Aside0.mk (blk_drew BK364.out)
  replace HI0 := Aside0.mk (IsS58.drew HI0.out)
  replace HK := Aside0.mk (keep_drew HK.out)
  replace HB := Aside0.mk (below_drew1 HB.out)
  refine start_ (n := 10) (S := fun w' => w'.cell? ⟨g, 0, none⟩ = some (.string s0_0) ∧ w'.cell? ⟨g, 1, none⟩ = some (.int .i64 s0_1)) (ds := []) #[false, false, false, false, false, false, false, false, false, false] (by kernel_rfl) rfl rfl ⟨(cellS58_0 HI0.out.1), (cellS58_1 HI0.out.1)⟩ (fun hHeld => ?_); refine with_tabW newelref01_walk_next.tab6 newelref01_walk_next.bits6 (fun HT_ HW_ => ?_)
  generalize w91.drew = w92 at BK364 HI0 HK HB hHeld ⊢
  refine pz 0 (some 50) HT_ ?_
  refine pz 1 (some 51) HT_ ?_
  refine pz 2 (some 52) HT_ ?_
  refine pz 4 (some 54) HT_ ?_
  refine pz 5 (some 55) HT_ ?_
  refine pz 6 (some 56) HT_ ?_
  refine tm 3 (some 53) HT_ HW_ hHeld ?_
  refine tm 7 (some 57) HT_ HW_ hHeld ?_
  refine on 8 (some 58) HT_ (fun K hK => ?_)
  refine goes_ Try.func46 (by kernel_rfl) rfl #[.string s0_0, .string (⟨#[60, 63]⟩ : ByteArray), .int .i64 s0_1] (by rfl) rfl rfl mA ?_
  with_reducible refine (newelref01_begins.calls s0_0 (⟨#[60, 63]⟩ : ByteArray) s0_1 false _ ?side1 A21.out).mono ?_
  (case side1 => exact Glob.step HG.out (by repeat (first | (with_reducible first | exact HB.out | apply below_alloc | apply pw_below_drewN | apply below_drew1 | refine below_set ?_ (IsS58.ge HI0.out) | refine below_set ?_ GE364.out) | exact HB.out)))
  rintro e w' ⟨rfl, ⟨nd, rfl⟩⟩
  refine ⟨_, rfl, ?_⟩
  refine hK.out _ _ ⟨(cellS58_0 HI0.out.1), (cellS58_1 HI0.out.1)⟩ (fun hHeld => ?_)
  clear hK K
  refine nz (some 58) ?_
  refine pz 9 (some 49) HT_ ?_
  refine done_ (done_of HT_.out (by kernel_rfl)) ?_
  try go_wp2
  (try ((try simp only [World.drewN_drewN]); (first | generalize hq_ : World.drewN w92 _ = w92 | (rw [drewN_self w92]; generalize hq_ : World.drewN w92 _ = w92)); have n0_ : Aside0 (w92.heap[gb364]? = some (.cells #[.int .i64 0, .string (⟨#[]⟩ : ByteArray), .string (⟨#[]⟩ : ByteArray), .slice none 0 0, .bool false] 32 (0, 0))) := ⟨by rw [← hq_]; exact (bK BK364)⟩; have n1_ : Aside0 (IsS58 w0 w92 g s0_0 s0_1) := ⟨by rw [← hq_]; exact (by repeat (first | (with_reducible first | exact HI0.out | apply IsS58.alloc | apply IsS58.drewN | apply IsS58.drew | apply IsS58.set_0 | apply IsS58.set_1 | refine IsS58.far ?_ NB0_364.out _) | exact HI0.out))⟩; have n2_ : Aside0 (KeepBut w w92 g none) := ⟨by rw [← hq_]; exact (by repeat (first | (with_reducible first | exact HK.out | apply KeepBut.set_ | apply keep_drewN | apply keep_drew | apply keep_alloc | refine keep_far ?_ GW364.out _) | exact HK.out))⟩; have n3_ : Aside0 (Below w0.heap.size w0 w92) := ⟨by rw [← hq_]; exact (by repeat (first | (with_reducible first | exact HB.out | apply below_alloc | apply pw_below_drewN | apply below_drew1 | refine below_set ?_ (IsS58.ge HI0.out) | refine below_set ?_ GE364.out) | exact HB.out))⟩; clear BK364 HI0 HK HB hq_; have BK364 := n0_; have HI0 := n1_; have HK := n2_; have HB := n3_; clear n0_ n1_ n2_ n3_))
  replace BK364 := Aside0.mk (blk_drew BK364.out)
  replace HI0 := Aside0.mk (IsS58.drew HI0.out)
  replace HK := Aside0.mk (keep_drew HK.out)
  replace HB := Aside0.mk (below_drew1 HB.out)
  refine start_ (n := 10) (S := fun w' => w'.cell? ⟨g, 0, none⟩ = some (.string s0_0) ∧ w'.cell? ⟨g, 1, none⟩ = some (.int .i64 s0_1)) (ds := []) #[false, false, false, false, false, false, false, false, false, false] (by kernel_rfl) rfl rfl ⟨(cellS58_0 HI0.out.1), (cellS58_1 HI0.out.1)⟩ (fun hHeld => ?_); refine with_tabW newelref01_walk_next.tab10 newelref01_walk_next.bits10 (fun HT_ HW_ => ?_)
  generalize w92.drew = w93 at BK364 HI0 HK HB hHeld ⊢
  refine pz 0 (some 81) HT_ ?_
  refine pz 1 (some 82) HT_ ?_
  refine pz 2 (some 83) HT_ ?_
  refine pz 4 (some 85) HT_ ?_
  refine pz 5 (some 86) HT_ ?_
  refine pz 6 (some 87) HT_ ?_
  refine tm 3 (some 84) HT_ HW_ hHeld ?_
  refine tm 7 (some 88) HT_ HW_ hHeld ?_
  refine on 8 (some 89) HT_ (fun K hK => ?_)
  refine goes_ Try.func46 (by kernel_rfl) rfl #[.string s0_0, .string (⟨#[60, 47]⟩ : ByteArray), .int .i64 s0_1] (by rfl) rfl rfl mA ?_
  with_reducible refine (newelref01_begins.calls s0_0 (⟨#[60, 47]⟩ : ByteArray) s0_1 false _ ?side1 A41.out).mono ?_
  (case side1 => exact Glob.step HG.out (by repeat (first | (with_reducible first | exact HB.out | apply below_alloc | apply pw_below_drewN | apply below_drew1 | refine below_set ?_ (IsS58.ge HI0.out) | refine below_set ?_ GE364.out) | exact HB.out)))
  rintro e w' ⟨rfl, ⟨nd, rfl⟩⟩
  refine ⟨_, rfl, ?_⟩
  refine hK.out _ _ ⟨(cellS58_0 HI0.out.1), (cellS58_1 HI0.out.1)⟩ (fun hHeld => ?_)
  clear hK K
  refine nz (some 89) ?_
  refine pz 9 (some 80) HT_ ?_
  refine done_ (done_of HT_.out (by kernel_rfl)) ?_
  try go_wp2
  (try ((try simp only [World.drewN_drewN]); (first | generalize hq_ : World.drewN w93 _ = w93 | (rw [drewN_self w93]; generalize hq_ : World.drewN w93 _ = w93)); have n0_ : Aside0 (w93.heap[gb364]? = some (.cells #[.int .i64 0, .string (⟨#[]⟩ : ByteArray), .string (⟨#[]⟩ : ByteArray), .slice none 0 0, .bool false] 32 (0, 0))) := ⟨by rw [← hq_]; exact (bK BK364)⟩; have n1_ : Aside0 (IsS58 w0 w93 g s0_0 s0_1) := ⟨by rw [← hq_]; exact (by repeat (first | (with_reducible first | exact HI0.out | apply IsS58.alloc | apply IsS58.drewN | apply IsS58.drew | apply IsS58.set_0 | apply IsS58.set_1 | refine IsS58.far ?_ NB0_364.out _) | exact HI0.out))⟩; have n2_ : Aside0 (KeepBut w w93 g none) := ⟨by rw [← hq_]; exact (by repeat (first | (with_reducible first | exact HK.out | apply KeepBut.set_ | apply keep_drewN | apply keep_drew | apply keep_alloc | refine keep_far ?_ GW364.out _) | exact HK.out))⟩; have n3_ : Aside0 (Below w0.heap.size w0 w93) := ⟨by rw [← hq_]; exact (by repeat (first | (with_reducible first | exact HB.out | apply below_alloc | apply pw_below_drewN | apply below_drew1 | refine below_set ?_ (IsS58.ge HI0.out) | refine below_set ?_ GE364.out) | exact HB.out))⟩; clear BK364 HI0 HK HB hq_; have BK364 := n0_; have HI0 := n1_; have HK := n2_; have HB := n3_; clear n0_ n1_ n2_ n3_))
  replace BK364 := Aside0.mk (blk_drew BK364.out)
  replace HI0 := Aside0.mk (IsS58.drew HI0.out)
  replace HK := Aside0.mk (keep_drew HK.out)
  replace HB := Aside0.mk (below_drew1 HB.out)
  refine start_ (n := 10) (S := fun w' => w'.cell? ⟨g, 0, none⟩ = some (.string s0_0) ∧ w'.cell? ⟨g, 1, none⟩ = some (.int .i64 s0_1)) (ds := []) #[false, false, false, false, false, false, false, false, false, false] (by kernel_rfl) rfl rfl ⟨(cellS58_0 HI0.out.1), (cellS58_1 HI0.out.1)⟩ (fun hHeld => ?_); refine with_tabW newelref01_walk_next.tab12 newelref01_walk_next.bits12 (fun HT_ HW_ => ?_)
  generalize w93.drew = w94 at BK364 HI0 HK HB hHeld ⊢
  refine pz 0 (some 95) HT_ ?_
  refine pz 1 (some 96) HT_ ?_
  refine pz 2 (some 97) HT_ ?_
  refine pz 4 (some 99) HT_ ?_
  refine pz 5 (some 100) HT_ ?_
  refine pz 6 (some 101) HT_ ?_
  refine tm 3 (some 98) HT_ HW_ hHeld ?_
  refine tm 7 (some 102) HT_ HW_ hHeld ?_
  refine on 8 (some 103) HT_ (fun K hK => ?_)
  refine goes_ Try.func46 (by kernel_rfl) rfl #[.string s0_0, .string (⟨#[60]⟩ : ByteArray), .int .i64 s0_1] (by rfl) rfl rfl mA ?_
  with_reducible refine (newelref01_begins.calls s0_0 (⟨#[60]⟩ : ByteArray) s0_1 false _ ?side1 A53.out).mono ?_
  (case side1 => exact Glob.step HG.out (by repeat (first | (with_reducible first | exact HB.out | apply below_alloc | apply pw_below_drewN | apply below_drew1 | refine below_set ?_ (IsS58.ge HI0.out) | refine below_set ?_ GE364.out) | exact HB.out)))
  rintro e w' ⟨rfl, ⟨nd, rfl⟩⟩
  refine ⟨_, rfl, ?_⟩
  refine hK.out _ _ ⟨(cellS58_0 HI0.out.1), (cellS58_1 HI0.out.1)⟩ (fun hHeld => ?_)
  clear hK K
  refine nz (some 103) ?_
  refine pz 9 (some 94) HT_ ?_
  refine done_ (done_of HT_.out (by kernel_rfl)) ?_
  try go_wp2
  (try ((try simp only [World.drewN_drewN]); (first | generalize hq_ : World.drewN w94 _ = w94 | (rw [drewN_self w94]; generalize hq_ : World.drewN w94 _ = w94)); have n0_ : Aside0 (w94.heap[gb364]? = some (.cells #[.int .i64 0, .string (⟨#[]⟩ : ByteArray), .string (⟨#[]⟩ : ByteArray), .slice none 0 0, .bool false] 32 (0, 0))) := ⟨by rw [← hq_]; exact (bK BK364)⟩; have n1_ : Aside0 (IsS58 w0 w94 g s0_0 s0_1) := ⟨by rw [← hq_]; exact (by repeat (first | (with_reducible first | exact HI0.out | apply IsS58.alloc | apply IsS58.drewN | apply IsS58.drew | apply IsS58.set_0 | apply IsS58.set_1 | refine IsS58.far ?_ NB0_364.out _) | exact HI0.out))⟩; have n2_ : Aside0 (KeepBut w w94 g none) := ⟨by rw [← hq_]; exact (by repeat (first | (with_reducible first | exact HK.out | apply KeepBut.set_ | apply keep_drewN | apply keep_drew | apply keep_alloc | refine keep_far ?_ GW364.out _) | exact HK.out))⟩; have n3_ : Aside0 (Below w0.heap.size w0 w94) := ⟨by rw [← hq_]; exact (by repeat (first | (with_reducible first | exact HB.out | apply below_alloc | apply pw_below_drewN | apply below_drew1 | refine below_set ?_ (IsS58.ge HI0.out) | refine below_set ?_ GE364.out) | exact HB.out))⟩; clear BK364 HI0 HK HB hq_; have BK364 := n0_; have HI0 := n1_; have HK := n2_; have HB := n3_; clear n0_ n1_ n2_ n3_))
  replace BK364 := Aside0.mk (blk_drew BK364.out)
  replace HI0 := Aside0.mk (IsS58.drew HI0.out)
  replace HK := Aside0.mk (keep_drew HK.out)
  replace HB := Aside0.mk (below_drew1 HB.out)
  refine start_ (n := 10) (S := fun w' => w'.cell? ⟨g, 0, none⟩ = some (.string s0_0) ∧ w'.cell? ⟨g, 1, none⟩ = some (.int .i64 s0_1)) (ds := []) #[false, false, false, false, false, false, false, false, false, false] (by kernel_rfl) rfl rfl ⟨(cellS58_0 HI0.out.1), (cellS58_1 HI0.out.1)⟩ (fun hHeld => ?_); refine with_tabW newelref01_walk_next.tab14 newelref01_walk_next.bits14 (fun HT_ HW_ => ?_)
  generalize w94.drew = w95 at BK364 HI0 HK HB hHeld ⊢
  refine pz 0 (some 108) HT_ ?_
  refine pz 1 (some 109) HT_ ?_
  refine pz 2 (some 110) HT_ ?_
  refine pz 4 (some 112) HT_ ?_
  refine pz 5 (some 113) HT_ ?_
  refine pz 6 (some 114) HT_ ?_
  refine tm 3 (some 111) HT_ HW_ hHeld ?_
  refine tm 7 (some 115) HT_ HW_ hHeld ?_
  refine on 8 (some 116) HT_ (fun K hK => ?_)
  refine goes_ Try.func32 (by kernel_rfl) rfl #[.string s0_0, .string (⟨#[60]⟩ : ByteArray), .int .i64 s0_1] (by rfl) rfl rfl mA ?_
  with_reducible refine (newelref01_find.calls k s0_0 (⟨#[60]⟩ : ByteArray) s0_1 t408 _ ?side1 A66.out).mono ?_
  (case side1 => exact Glob.step HG.out (by repeat (first | (with_reducible first | exact HB.out | apply below_alloc | apply pw_below_drewN | apply below_drew1 | refine below_set ?_ (IsS58.ge HI0.out) | refine below_set ?_ GE364.out) | exact HB.out)))
  rintro e w' ⟨rfl, ⟨nd, rfl⟩⟩
  refine ⟨_, rfl, ?_⟩
  refine hK.out _ _ ⟨(cellS58_0 HI0.out.1), (cellS58_1 HI0.out.1)⟩ (fun hHeld => ?_)
  clear hK K
  refine nz (some 116) ?_
  refine pz 9 (some 9) HT_ ?_
  refine done_ (done_of HT_.out (by kernel_rfl)) ?_
  try go_wp2
  (try ((try simp only [World.drewN_drewN]); (first | generalize hq_ : World.drewN w95 _ = w95 | (rw [drewN_self w95]; generalize hq_ : World.drewN w95 _ = w95)); have n0_ : Aside0 (w95.heap[gb364]? = some (.cells #[.int .i64 0, .string (⟨#[]⟩ : ByteArray), .string (⟨#[]⟩ : ByteArray), .slice none 0 0, .bool false] 32 (0, 0))) := ⟨by rw [← hq_]; exact (bK BK364)⟩; have n1_ : Aside0 (IsS58 w0 w95 g s0_0 s0_1) := ⟨by rw [← hq_]; exact (by repeat (first | (with_reducible first | exact HI0.out | apply IsS58.alloc | apply IsS58.drewN | apply IsS58.drew | apply IsS58.set_0 | apply IsS58.set_1 | refine IsS58.far ?_ NB0_364.out _) | exact HI0.out))⟩; have n2_ : Aside0 (KeepBut w w95 g none) := ⟨by rw [← hq_]; exact (by repeat (first | (with_reducible first | exact HK.out | apply KeepBut.set_ | apply keep_drewN | apply keep_drew | apply keep_alloc | refine keep_far ?_ GW364.out _) | exact HK.out))⟩; have n3_ : Aside0 (Below w0.heap.size w0 w95) := ⟨by rw [← hq_]; exact (by repeat (first | (with_reducible first | exact HB.out | apply below_alloc | apply pw_below_drewN | apply below_drew1 | refine below_set ?_ (IsS58.ge HI0.out) | refine below_set ?_ GE364.out) | exact HB.out))⟩; clear BK364 HI0 HK HB hq_; have BK364 := n0_; have HI0 := n1_; have HK := n2_; have HB := n3_; clear n0_ n1_ n2_ n3_))
  replace BK364 := Aside0.mk (blk_drew BK364.out)
  replace HI0 := Aside0.mk (IsS58.drew HI0.out)
  replace HK := Aside0.mk (keep_drew HK.out)
  replace HB := Aside0.mk (below_drew1 HB.out)
  refine start_ (n := 16) (S := fun w' => w'.cell? ⟨g, 0, none⟩ = some (.string s0_0) ∧ w'.cell? ⟨g, 1, none⟩ = some (.int .i64 s0_1)) (ds := []) #[false, false, false, false, false, false, false, false, false, false, false, false, false, false, false, false] (by kernel_rfl) rfl rfl ⟨(cellS58_0 HI0.out.1), (cellS58_1 HI0.out.1)⟩ (fun hHeld => ?_); refine with_tabW newelref01_walk_next.tab17 newelref01_walk_next.bits17 (fun HT_ HW_ => ?_)
  generalize w95.drew = w96 at BK364 HI0 HK HB hHeld ⊢
  refine pz 0 (some 125) HT_ ?_
  refine pz 1 (some 126) HT_ ?_
  refine pz 2 (some 127) HT_ ?_
  refine pz 4 (some 129) HT_ ?_
  refine pz 5 (some 130) HT_ ?_
  refine pz 6 (some 131) HT_ ?_
  refine pz 8 (some 133) HT_ ?_
  refine tm 3 (some 128) HT_ HW_ hHeld ?_
  refine tm 7 (some 132) HT_ HW_ hHeld ?_
  refine pz 9 (some 134) HT_ ?_
  refine on 10 (some 135) HT_ (fun K hK => ?_)
  refine goes_ Try.func15 (by kernel_rfl) rfl #[.string (s0_0.extract (s0_1 : Int).toNat (t408 : Int).toNat)] (by rfl) rfl rfl mA ?_
  with_reducible refine (newelref01_Entities.calls k (s0_0.extract (s0_1 : Int).toNat (t408 : Int).toNat) t411 t412 _ ?side1 A88.out).mono ?_
  (case side1 => exact Glob.step HG.out (by repeat (first | (with_reducible first | exact HB.out | apply below_alloc | apply pw_below_drewN | apply below_drew1 | refine below_set ?_ (IsS58.ge HI0.out) | refine below_set ?_ GE364.out) | exact HB.out)))
  rintro e w97 ⟨rfl, hb⟩
  refine ⟨_, rfl, ?_⟩
  replace BK364 := kB BK364 hb
  replace HK := Aside0.mk (KeepBut.trans (by repeat (first | (with_reducible first | exact HK.out | apply KeepBut.set_ | apply keep_drewN | apply keep_drew | apply keep_alloc | refine keep_far ?_ GW364.out _) | exact HK.out)) (KeepBut.of_below hb g none) (.inl rfl))
  replace HB := Aside0.mk (below_step (by repeat (first | (with_reducible first | exact HB.out | apply below_alloc | apply pw_below_drewN | apply below_drew1 | refine below_set ?_ (IsS58.ge HI0.out) | refine below_set ?_ GE364.out) | exact HB.out)) hb)
  replace HI0 := Aside0.mk (IsS58.below (by repeat (first | (with_reducible first | exact HI0.out | apply IsS58.alloc | apply IsS58.drewN | apply IsS58.drew | apply IsS58.set_0 | apply IsS58.set_1 | refine IsS58.far ?_ NB0_364.out _) | exact HI0.out)) hb)
  (try clear hb)
  refine hK.out _ _ ⟨(cellS58_0 HI0.out.1), (cellS58_1 HI0.out.1)⟩ (fun hHeld => ?_)
  clear hK K
  refine nz (some 135) ?_
  refine pz 11 (some 124) HT_ ?_
  refine pz 12 (some 136) HT_ ?_
  refine pz 13 (some 137) HT_ ?_
  refine pz 14 (some 10) HT_ ?_
  refine pz 15 (some 11) HT_ ?_
  refine done_ (done_of HT_.out (by kernel_rfl)) ?_
  obtain ⟨HGz98, hgz98⟩ := HI0.out
  have hcz98_0 := cellS58_0 HGz98
  have hcz98_1 := cellS58_1 HGz98
  have hfz98_0 := blk_frozen HGz98 0
  have hfz98_1 := blk_frozen HGz98 1
  clear HGz98 hgz98
  have hnb99 := NB364_0.out
  have hnc99 := NB0_364.out
  have hcz100_0 : w97.cell? ⟨gb364, 0, none⟩ = some (.int .i64 0) := (blk_cell BK364.out 0).trans rfl
  have hcz100_1 : w97.cell? ⟨gb364, 1, none⟩ = some (.string (⟨#[]⟩ : ByteArray)) := (blk_cell BK364.out 1).trans rfl
  have hcz100_2 : w97.cell? ⟨gb364, 2, none⟩ = some (.string (⟨#[]⟩ : ByteArray)) := (blk_cell BK364.out 2).trans rfl
  have hcz100_3 : w97.cell? ⟨gb364, 3, none⟩ = some (.slice none 0 0) := (blk_cell BK364.out 3).trans rfl
  have hcz100_4 : w97.cell? ⟨gb364, 4, none⟩ = some (.bool false) := (blk_cell BK364.out 4).trans rfl
  have hfz100_0 := blk_frozen BK364.out 0
  have hfz100_1 := blk_frozen BK364.out 1
  have hfz100_2 := blk_frozen BK364.out 2
  have hfz100_3 := blk_frozen BK364.out 3
  have hfz100_4 := blk_frozen BK364.out 4
  try go_wp2
  refine bodyPost_ret (results_ct rfl _ _ gb364 32 #[.int .i64 3, .string (⟨#[]⟩ : ByteArray), .string t411, .slice none 0 0, .bool false] (0, 0) _ rfl (by (with_reducible repeat (first | refine blk_drewN ?_ _ | refine blk_drew ?_ | refine blk_alloc ?_ _)); refine blk_put (cs := #[.int .i64 3, .string (⟨#[]⟩ : ByteArray), .string t411, .slice none 0 0, .bool false]) ?_ 4 _ rfl; (with_reducible repeat (first | refine blk_drewN ?_ _ | refine blk_drew ?_ | refine blk_alloc ?_ _)); refine blk_put (cs := #[.int .i64 3, .string (⟨#[]⟩ : ByteArray), .string t411, .slice none 0 0, .bool false]) ?_ 3 _ rfl; (with_reducible repeat (first | refine blk_drewN ?_ _ | refine blk_drew ?_ | refine blk_alloc ?_ _)); refine blk_put (cs := #[.int .i64 3, .string (⟨#[]⟩ : ByteArray), .string (⟨#[]⟩ : ByteArray), .slice none 0 0, .bool false]) ?_ 2 _ rfl; (with_reducible repeat (first | refine blk_drewN ?_ _ | refine blk_drew ?_ | refine blk_alloc ?_ _)); refine blk_put (cs := #[.int .i64 3, .string (⟨#[]⟩ : ByteArray), .string (⟨#[]⟩ : ByteArray), .slice none 0 0, .bool false]) ?_ 1 _ rfl; (with_reducible repeat (first | refine blk_drewN ?_ _ | refine blk_drew ?_ | refine blk_alloc ?_ _)); refine blk_put (cs := #[.int .i64 0, .string (⟨#[]⟩ : ByteArray), .string (⟨#[]⟩ : ByteArray), .slice none 0 0, .bool false]) ?_ 0 _ rfl; (with_reducible repeat (first | refine blk_drewN ?_ _ | refine blk_drew ?_ | refine blk_alloc ?_ _)); refine blk_far ?_ NB364_0.out _; (with_reducible repeat (first | refine blk_drewN ?_ _ | refine blk_drew ?_ | refine blk_alloc ?_ _)); exact BK364.out) Try.underlying32 rfl (by kernel_rfl)) rfl ?_
  exact ⟨_, by first | rfl | (simp [errW_none, errW_some] <;> rfl) | (simp [*, errW_none, errW_some] <;> rfl), by first | exact Kd.R_nil _ _ _ _ _ | exact Kd.N_nil _ _ _ _ _ | exact Kd.V_nil _ _ _ _ _ | exact Kd.Q_nil _ _ _ _ _ | exact Kd.S_nil _ _ _ _ _, by repeat (first | (with_reducible first | exact HI0.out | apply IsS58.alloc | apply IsS58.drewN | apply IsS58.drew | apply IsS58.set_0 | apply IsS58.set_1 | refine IsS58.far ?_ NB0_364.out _) | exact HI0.out), by repeat (first | (with_reducible first | exact HB.out | apply below_alloc | apply pw_below_drewN | apply below_drew1 | refine below_set ?_ (IsS58.ge HI0.out) | refine below_set ?_ GE364.out) | exact HB.out), by repeat (first | (with_reducible first | exact HK.out | apply KeepBut.set_ | apply keep_drewN | apply keep_drew | apply keep_alloc | refine keep_far ?_ GW364.out _) | exact HK.out)⟩
 rw [if_pos c67] at H
 have c67b0 := dT c67
 clear c67
 obtain ⟨c68, H⟩ := gp H
 have c68b0 := eq_true c68
 have c68b1 := dT c68
 clear c68
 obtain ⟨c69, H⟩ := gp H
 have c69b0 := eq_true c69
 have c69b1 := dT c69
 clear c69
 obtain ⟨c70, H⟩ := gp H
 have c70b0 := eq_true c70
 have c70b1 := dT c70
 clear c70
 replace H := bi H
 obtain ⟨⟨t409, t410⟩, A710, H⟩ := H
 try dsimp only at H
 have A71 := Aside0.mk A710
 clear A710
 simp only [Option.some.injEq, Prod.mk.injEq] at H
 obtain ⟨rfl, rfl, rfl, rfl, rfl, rfl, rfl, rfl⟩ := H
 go_enter Try.func27, Try.ntmps27
 try go_wp2_with (first | (refine be 2 #[.int .i64 0, .string (⟨#[]⟩ : ByteArray), .string (⟨#[]⟩ : ByteArray), .slice none 0 0, .bool false] 32 ?_; intro gb364 hg w72 hbox hb; replace HB := Aside0.mk (below_step (by repeat (first | (with_reducible first | exact HB.out | apply below_alloc | apply pw_below_drewN | apply below_drew1 | refine below_set ?_ (IsS58.ge HI0.out)) | exact HB.out)) hb); have BK364 := Aside0.mk (hbox); have GW364 := Aside0.mk ((by rw [hg]; exact (keep_size (w := w) (g := g) (row := none) (by repeat (first | (with_reducible first | exact HK.out | apply KeepBut.set_ | apply keep_drewN | apply keep_drew | apply keep_alloc) | exact HK.out))) : w.heap.size ≤ gb364)); have GE364 := Aside0.mk ((Nat.le_trans HW0.out (by rw [hg]; exact (keep_size (w := w) (g := g) (row := none) (by repeat (first | (with_reducible first | exact HK.out | apply KeepBut.set_ | apply keep_drewN | apply keep_drew | apply keep_alloc) | exact HK.out))) : w.heap.size ≤ gb364) : w0.heap.size ≤ gb364)); replace HK := Aside0.mk (KeepBut.trans (by repeat (first | (with_reducible first | exact HK.out | apply KeepBut.set_ | apply keep_drewN | apply keep_drew | apply keep_alloc) | exact HK.out)) (KeepBut.of_below hb g none) (.inl rfl)); have NB0_364 := Aside0.mk ((by rw [hg]; exact Nat.ne_of_lt (IsS58.lt (show IsS58 w0 _ g s0_0 s0_1 from by repeat (first | (with_reducible first | exact HI0.out | apply IsS58.alloc | apply IsS58.drewN | apply IsS58.drew | apply IsS58.set_0 | apply IsS58.set_1) | exact HI0.out))) : g ≠ gb364)); have NB364_0 := Aside0.mk ((by rw [hg]; exact Nat.ne_of_gt (IsS58.lt (show IsS58 w0 _ g s0_0 s0_1 from by repeat (first | (with_reducible first | exact HI0.out | apply IsS58.alloc | apply IsS58.drewN | apply IsS58.drew | apply IsS58.set_0 | apply IsS58.set_1) | exact HI0.out))) : gb364 ≠ g)); replace HI0 := Aside0.mk (IsS58.below (by repeat (first | (with_reducible first | exact HI0.out | apply IsS58.alloc | apply IsS58.drewN | apply IsS58.drew | apply IsS58.set_0 | apply IsS58.set_1) | exact HI0.out)) hb); clear hb hbox hg))
 replace BK364 := Aside0.mk (blk_drew BK364.out)
 replace HI0 := Aside0.mk (IsS58.drew HI0.out)
 replace HK := Aside0.mk (keep_drew HK.out)
 replace HB := Aside0.mk (below_drew1 HB.out)
 refine start_ (n := 10) (S := fun w' => w'.cell? ⟨g, 0, none⟩ = some (.string s0_0) ∧ w'.cell? ⟨g, 1, none⟩ = some (.int .i64 s0_1)) (ds := []) #[false, false, false, false, false, false, false, false, false, false] (by kernel_rfl) rfl rfl ⟨(cellS58_0 HI0.out.1), (cellS58_1 HI0.out.1)⟩ (fun hHeld => ?_); refine with_tabW newelref01_walk_next.tab1 newelref01_walk_next.bits1 (fun HT_ HW_ => ?_)
 generalize w72.drew = w73 at BK364 HI0 HK HB hHeld ⊢
 refine pz 0 (some 13) HT_ ?_
 refine pz 1 (some 14) HT_ ?_
 refine pz 2 (some 15) HT_ ?_
 refine pz 4 (some 17) HT_ ?_
 refine pz 5 (some 18) HT_ ?_
 refine pz 6 (some 19) HT_ ?_
 refine tm 3 (some 16) HT_ HW_ hHeld ?_
 refine tm 7 (some 20) HT_ HW_ hHeld ?_
 refine on 8 (some 21) HT_ (fun K hK => ?_)
 refine goes_ Try.func46 (by kernel_rfl) rfl #[.string s0_0, .string (⟨#[60, 33, 45, 45]⟩ : ByteArray), .int .i64 s0_1] (by rfl) rfl rfl mA ?_
 with_reducible refine (newelref01_begins.calls s0_0 (⟨#[60, 33, 45, 45]⟩ : ByteArray) s0_1 false _ ?side1 A2.out).mono ?_
 (case side1 => exact Glob.step HG.out (by repeat (first | (with_reducible first | exact HB.out | apply below_alloc | apply pw_below_drewN | apply below_drew1 | refine below_set ?_ (IsS58.ge HI0.out) | refine below_set ?_ GE364.out) | exact HB.out)))
 rintro e w' ⟨rfl, ⟨nd, rfl⟩⟩
 refine ⟨_, rfl, ?_⟩
 refine hK.out _ _ ⟨(cellS58_0 HI0.out.1), (cellS58_1 HI0.out.1)⟩ (fun hHeld => ?_)
 clear hK K
 refine nz (some 21) ?_
 refine pz 9 (some 12) HT_ ?_
 refine done_ (done_of HT_.out (by kernel_rfl)) ?_
 try go_wp2
 (try ((try simp only [World.drewN_drewN]); (first | generalize hq_ : World.drewN w73 _ = w73 | (rw [drewN_self w73]; generalize hq_ : World.drewN w73 _ = w73)); have n0_ : Aside0 (w73.heap[gb364]? = some (.cells #[.int .i64 0, .string (⟨#[]⟩ : ByteArray), .string (⟨#[]⟩ : ByteArray), .slice none 0 0, .bool false] 32 (0, 0))) := ⟨by rw [← hq_]; exact (bK BK364)⟩; have n1_ : Aside0 (IsS58 w0 w73 g s0_0 s0_1) := ⟨by rw [← hq_]; exact (by repeat (first | (with_reducible first | exact HI0.out | apply IsS58.alloc | apply IsS58.drewN | apply IsS58.drew | apply IsS58.set_0 | apply IsS58.set_1 | refine IsS58.far ?_ NB0_364.out _) | exact HI0.out))⟩; have n2_ : Aside0 (KeepBut w w73 g none) := ⟨by rw [← hq_]; exact (by repeat (first | (with_reducible first | exact HK.out | apply KeepBut.set_ | apply keep_drewN | apply keep_drew | apply keep_alloc | refine keep_far ?_ GW364.out _) | exact HK.out))⟩; have n3_ : Aside0 (Below w0.heap.size w0 w73) := ⟨by rw [← hq_]; exact (by repeat (first | (with_reducible first | exact HB.out | apply below_alloc | apply pw_below_drewN | apply below_drew1 | refine below_set ?_ (IsS58.ge HI0.out) | refine below_set ?_ GE364.out) | exact HB.out))⟩; clear BK364 HI0 HK HB hq_; have BK364 := n0_; have HI0 := n1_; have HK := n2_; have HB := n3_; clear n0_ n1_ n2_ n3_))
 replace BK364 := Aside0.mk (blk_drew BK364.out)
 replace HI0 := Aside0.mk (IsS58.drew HI0.out)
 replace HK := Aside0.mk (keep_drew HK.out)
 replace HB := Aside0.mk (below_drew1 HB.out)
 refine start_ (n := 10) (S := fun w' => w'.cell? ⟨g, 0, none⟩ = some (.string s0_0) ∧ w'.cell? ⟨g, 1, none⟩ = some (.int .i64 s0_1)) (ds := []) #[false, false, false, false, false, false, false, false, false, false] (by kernel_rfl) rfl rfl ⟨(cellS58_0 HI0.out.1), (cellS58_1 HI0.out.1)⟩ (fun hHeld => ?_); refine with_tabW newelref01_walk_next.tab3 newelref01_walk_next.bits3 (fun HT_ HW_ => ?_)
 generalize w73.drew = w74 at BK364 HI0 HK HB hHeld ⊢
 refine pz 0 (some 27) HT_ ?_
 refine pz 1 (some 28) HT_ ?_
 refine pz 2 (some 29) HT_ ?_
 refine pz 4 (some 31) HT_ ?_
 refine pz 5 (some 32) HT_ ?_
 refine pz 6 (some 33) HT_ ?_
 refine tm 3 (some 30) HT_ HW_ hHeld ?_
 refine tm 7 (some 34) HT_ HW_ hHeld ?_
 refine on 8 (some 35) HT_ (fun K hK => ?_)
 refine goes_ Try.func46 (by kernel_rfl) rfl #[.string s0_0, .string (⟨#[60, 33, 91, 67, 68, 65, 84, 65, 91]⟩ : ByteArray), .int .i64 s0_1] (by rfl) rfl rfl mA ?_
 with_reducible refine (newelref01_begins.calls s0_0 (⟨#[60, 33, 91, 67, 68, 65, 84, 65, 91]⟩ : ByteArray) s0_1 false _ ?side1 A11.out).mono ?_
 (case side1 => exact Glob.step HG.out (by repeat (first | (with_reducible first | exact HB.out | apply below_alloc | apply pw_below_drewN | apply below_drew1 | refine below_set ?_ (IsS58.ge HI0.out) | refine below_set ?_ GE364.out) | exact HB.out)))
 rintro e w' ⟨rfl, ⟨nd, rfl⟩⟩
 refine ⟨_, rfl, ?_⟩
 refine hK.out _ _ ⟨(cellS58_0 HI0.out.1), (cellS58_1 HI0.out.1)⟩ (fun hHeld => ?_)
 clear hK K
 refine nz (some 35) ?_
 refine pz 9 (some 26) HT_ ?_
 refine done_ (done_of HT_.out (by kernel_rfl)) ?_
 try go_wp2
 (try ((try simp only [World.drewN_drewN]); (first | generalize hq_ : World.drewN w74 _ = w74 | (rw [drewN_self w74]; generalize hq_ : World.drewN w74 _ = w74)); have n0_ : Aside0 (w74.heap[gb364]? = some (.cells #[.int .i64 0, .string (⟨#[]⟩ : ByteArray), .string (⟨#[]⟩ : ByteArray), .slice none 0 0, .bool false] 32 (0, 0))) := ⟨by rw [← hq_]; exact (bK BK364)⟩; have n1_ : Aside0 (IsS58 w0 w74 g s0_0 s0_1) := ⟨by rw [← hq_]; exact (by repeat (first | (with_reducible first | exact HI0.out | apply IsS58.alloc | apply IsS58.drewN | apply IsS58.drew | apply IsS58.set_0 | apply IsS58.set_1 | refine IsS58.far ?_ NB0_364.out _) | exact HI0.out))⟩; have n2_ : Aside0 (KeepBut w w74 g none) := ⟨by rw [← hq_]; exact (by repeat (first | (with_reducible first | exact HK.out | apply KeepBut.set_ | apply keep_drewN | apply keep_drew | apply keep_alloc | refine keep_far ?_ GW364.out _) | exact HK.out))⟩; have n3_ : Aside0 (Below w0.heap.size w0 w74) := ⟨by rw [← hq_]; exact (by repeat (first | (with_reducible first | exact HB.out | apply below_alloc | apply pw_below_drewN | apply below_drew1 | refine below_set ?_ (IsS58.ge HI0.out) | refine below_set ?_ GE364.out) | exact HB.out))⟩; clear BK364 HI0 HK HB hq_; have BK364 := n0_; have HI0 := n1_; have HK := n2_; have HB := n3_; clear n0_ n1_ n2_ n3_))
 replace BK364 := Aside0.mk (blk_drew BK364.out)
 replace HI0 := Aside0.mk (IsS58.drew HI0.out)
 replace HK := Aside0.mk (keep_drew HK.out)
 replace HB := Aside0.mk (below_drew1 HB.out)
 refine start_ (n := 10) (S := fun w' => w'.cell? ⟨g, 0, none⟩ = some (.string s0_0) ∧ w'.cell? ⟨g, 1, none⟩ = some (.int .i64 s0_1)) (ds := []) #[false, false, false, false, false, false, false, false, false, false] (by kernel_rfl) rfl rfl ⟨(cellS58_0 HI0.out.1), (cellS58_1 HI0.out.1)⟩ (fun hHeld => ?_); refine with_tabW newelref01_walk_next.tab6 newelref01_walk_next.bits6 (fun HT_ HW_ => ?_)
 generalize w74.drew = w75 at BK364 HI0 HK HB hHeld ⊢
 refine pz 0 (some 50) HT_ ?_
 refine pz 1 (some 51) HT_ ?_
 refine pz 2 (some 52) HT_ ?_
 refine pz 4 (some 54) HT_ ?_
 refine pz 5 (some 55) HT_ ?_
 refine pz 6 (some 56) HT_ ?_
 refine tm 3 (some 53) HT_ HW_ hHeld ?_
 refine tm 7 (some 57) HT_ HW_ hHeld ?_
 refine on 8 (some 58) HT_ (fun K hK => ?_)
 refine goes_ Try.func46 (by kernel_rfl) rfl #[.string s0_0, .string (⟨#[60, 63]⟩ : ByteArray), .int .i64 s0_1] (by rfl) rfl rfl mA ?_
 with_reducible refine (newelref01_begins.calls s0_0 (⟨#[60, 63]⟩ : ByteArray) s0_1 false _ ?side1 A21.out).mono ?_
 (case side1 => exact Glob.step HG.out (by repeat (first | (with_reducible first | exact HB.out | apply below_alloc | apply pw_below_drewN | apply below_drew1 | refine below_set ?_ (IsS58.ge HI0.out) | refine below_set ?_ GE364.out) | exact HB.out)))
 rintro e w' ⟨rfl, ⟨nd, rfl⟩⟩
 refine ⟨_, rfl, ?_⟩
 refine hK.out _ _ ⟨(cellS58_0 HI0.out.1), (cellS58_1 HI0.out.1)⟩ (fun hHeld => ?_)
 clear hK K
 refine nz (some 58) ?_
 refine pz 9 (some 49) HT_ ?_
 refine done_ (done_of HT_.out (by kernel_rfl)) ?_
 try go_wp2
 (try ((try simp only [World.drewN_drewN]); (first | generalize hq_ : World.drewN w75 _ = w75 | (rw [drewN_self w75]; generalize hq_ : World.drewN w75 _ = w75)); have n0_ : Aside0 (w75.heap[gb364]? = some (.cells #[.int .i64 0, .string (⟨#[]⟩ : ByteArray), .string (⟨#[]⟩ : ByteArray), .slice none 0 0, .bool false] 32 (0, 0))) := ⟨by rw [← hq_]; exact (bK BK364)⟩; have n1_ : Aside0 (IsS58 w0 w75 g s0_0 s0_1) := ⟨by rw [← hq_]; exact (by repeat (first | (with_reducible first | exact HI0.out | apply IsS58.alloc | apply IsS58.drewN | apply IsS58.drew | apply IsS58.set_0 | apply IsS58.set_1 | refine IsS58.far ?_ NB0_364.out _) | exact HI0.out))⟩; have n2_ : Aside0 (KeepBut w w75 g none) := ⟨by rw [← hq_]; exact (by repeat (first | (with_reducible first | exact HK.out | apply KeepBut.set_ | apply keep_drewN | apply keep_drew | apply keep_alloc | refine keep_far ?_ GW364.out _) | exact HK.out))⟩; have n3_ : Aside0 (Below w0.heap.size w0 w75) := ⟨by rw [← hq_]; exact (by repeat (first | (with_reducible first | exact HB.out | apply below_alloc | apply pw_below_drewN | apply below_drew1 | refine below_set ?_ (IsS58.ge HI0.out) | refine below_set ?_ GE364.out) | exact HB.out))⟩; clear BK364 HI0 HK HB hq_; have BK364 := n0_; have HI0 := n1_; have HK := n2_; have HB := n3_; clear n0_ n1_ n2_ n3_))
 replace BK364 := Aside0.mk (blk_drew BK364.out)
 replace HI0 := Aside0.mk (IsS58.drew HI0.out)
 replace HK := Aside0.mk (keep_drew HK.out)
 replace HB := Aside0.mk (below_drew1 HB.out)
 refine start_ (n := 10) (S := fun w' => w'.cell? ⟨g, 0, none⟩ = some (.string s0_0) ∧ w'.cell? ⟨g, 1, none⟩ = some (.int .i64 s0_1)) (ds := []) #[false, false, false, false, false, false, false, false, false, false] (by kernel_rfl) rfl rfl ⟨(cellS58_0 HI0.out.1), (cellS58_1 HI0.out.1)⟩ (fun hHeld => ?_); refine with_tabW newelref01_walk_next.tab10 newelref01_walk_next.bits10 (fun HT_ HW_ => ?_)
 generalize w75.drew = w76 at BK364 HI0 HK HB hHeld ⊢
 refine pz 0 (some 81) HT_ ?_
 refine pz 1 (some 82) HT_ ?_
 refine pz 2 (some 83) HT_ ?_
 refine pz 4 (some 85) HT_ ?_
 refine pz 5 (some 86) HT_ ?_
 refine pz 6 (some 87) HT_ ?_
 refine tm 3 (some 84) HT_ HW_ hHeld ?_
 refine tm 7 (some 88) HT_ HW_ hHeld ?_
 refine on 8 (some 89) HT_ (fun K hK => ?_)
 refine goes_ Try.func46 (by kernel_rfl) rfl #[.string s0_0, .string (⟨#[60, 47]⟩ : ByteArray), .int .i64 s0_1] (by rfl) rfl rfl mA ?_
 with_reducible refine (newelref01_begins.calls s0_0 (⟨#[60, 47]⟩ : ByteArray) s0_1 false _ ?side1 A41.out).mono ?_
 (case side1 => exact Glob.step HG.out (by repeat (first | (with_reducible first | exact HB.out | apply below_alloc | apply pw_below_drewN | apply below_drew1 | refine below_set ?_ (IsS58.ge HI0.out) | refine below_set ?_ GE364.out) | exact HB.out)))
 rintro e w' ⟨rfl, ⟨nd, rfl⟩⟩
 refine ⟨_, rfl, ?_⟩
 refine hK.out _ _ ⟨(cellS58_0 HI0.out.1), (cellS58_1 HI0.out.1)⟩ (fun hHeld => ?_)
 clear hK K
 refine nz (some 89) ?_
 refine pz 9 (some 80) HT_ ?_
 refine done_ (done_of HT_.out (by kernel_rfl)) ?_
 try go_wp2
 (try ((try simp only [World.drewN_drewN]); (first | generalize hq_ : World.drewN w76 _ = w76 | (rw [drewN_self w76]; generalize hq_ : World.drewN w76 _ = w76)); have n0_ : Aside0 (w76.heap[gb364]? = some (.cells #[.int .i64 0, .string (⟨#[]⟩ : ByteArray), .string (⟨#[]⟩ : ByteArray), .slice none 0 0, .bool false] 32 (0, 0))) := ⟨by rw [← hq_]; exact (bK BK364)⟩; have n1_ : Aside0 (IsS58 w0 w76 g s0_0 s0_1) := ⟨by rw [← hq_]; exact (by repeat (first | (with_reducible first | exact HI0.out | apply IsS58.alloc | apply IsS58.drewN | apply IsS58.drew | apply IsS58.set_0 | apply IsS58.set_1 | refine IsS58.far ?_ NB0_364.out _) | exact HI0.out))⟩; have n2_ : Aside0 (KeepBut w w76 g none) := ⟨by rw [← hq_]; exact (by repeat (first | (with_reducible first | exact HK.out | apply KeepBut.set_ | apply keep_drewN | apply keep_drew | apply keep_alloc | refine keep_far ?_ GW364.out _) | exact HK.out))⟩; have n3_ : Aside0 (Below w0.heap.size w0 w76) := ⟨by rw [← hq_]; exact (by repeat (first | (with_reducible first | exact HB.out | apply below_alloc | apply pw_below_drewN | apply below_drew1 | refine below_set ?_ (IsS58.ge HI0.out) | refine below_set ?_ GE364.out) | exact HB.out))⟩; clear BK364 HI0 HK HB hq_; have BK364 := n0_; have HI0 := n1_; have HK := n2_; have HB := n3_; clear n0_ n1_ n2_ n3_))
 replace BK364 := Aside0.mk (blk_drew BK364.out)
 replace HI0 := Aside0.mk (IsS58.drew HI0.out)
 replace HK := Aside0.mk (keep_drew HK.out)
 replace HB := Aside0.mk (below_drew1 HB.out)
 refine start_ (n := 10) (S := fun w' => w'.cell? ⟨g, 0, none⟩ = some (.string s0_0) ∧ w'.cell? ⟨g, 1, none⟩ = some (.int .i64 s0_1)) (ds := []) #[false, false, false, false, false, false, false, false, false, false] (by kernel_rfl) rfl rfl ⟨(cellS58_0 HI0.out.1), (cellS58_1 HI0.out.1)⟩ (fun hHeld => ?_); refine with_tabW newelref01_walk_next.tab12 newelref01_walk_next.bits12 (fun HT_ HW_ => ?_)
 generalize w76.drew = w77 at BK364 HI0 HK HB hHeld ⊢
 refine pz 0 (some 95) HT_ ?_
 refine pz 1 (some 96) HT_ ?_
 refine pz 2 (some 97) HT_ ?_
 refine pz 4 (some 99) HT_ ?_
 refine pz 5 (some 100) HT_ ?_
 refine pz 6 (some 101) HT_ ?_
 refine tm 3 (some 98) HT_ HW_ hHeld ?_
 refine tm 7 (some 102) HT_ HW_ hHeld ?_
 refine on 8 (some 103) HT_ (fun K hK => ?_)
 refine goes_ Try.func46 (by kernel_rfl) rfl #[.string s0_0, .string (⟨#[60]⟩ : ByteArray), .int .i64 s0_1] (by rfl) rfl rfl mA ?_
 with_reducible refine (newelref01_begins.calls s0_0 (⟨#[60]⟩ : ByteArray) s0_1 false _ ?side1 A53.out).mono ?_
 (case side1 => exact Glob.step HG.out (by repeat (first | (with_reducible first | exact HB.out | apply below_alloc | apply pw_below_drewN | apply below_drew1 | refine below_set ?_ (IsS58.ge HI0.out) | refine below_set ?_ GE364.out) | exact HB.out)))
 rintro e w' ⟨rfl, ⟨nd, rfl⟩⟩
 refine ⟨_, rfl, ?_⟩
 refine hK.out _ _ ⟨(cellS58_0 HI0.out.1), (cellS58_1 HI0.out.1)⟩ (fun hHeld => ?_)
 clear hK K
 refine nz (some 103) ?_
 refine pz 9 (some 94) HT_ ?_
 refine done_ (done_of HT_.out (by kernel_rfl)) ?_
 try go_wp2
 (try ((try simp only [World.drewN_drewN]); (first | generalize hq_ : World.drewN w77 _ = w77 | (rw [drewN_self w77]; generalize hq_ : World.drewN w77 _ = w77)); have n0_ : Aside0 (w77.heap[gb364]? = some (.cells #[.int .i64 0, .string (⟨#[]⟩ : ByteArray), .string (⟨#[]⟩ : ByteArray), .slice none 0 0, .bool false] 32 (0, 0))) := ⟨by rw [← hq_]; exact (bK BK364)⟩; have n1_ : Aside0 (IsS58 w0 w77 g s0_0 s0_1) := ⟨by rw [← hq_]; exact (by repeat (first | (with_reducible first | exact HI0.out | apply IsS58.alloc | apply IsS58.drewN | apply IsS58.drew | apply IsS58.set_0 | apply IsS58.set_1 | refine IsS58.far ?_ NB0_364.out _) | exact HI0.out))⟩; have n2_ : Aside0 (KeepBut w w77 g none) := ⟨by rw [← hq_]; exact (by repeat (first | (with_reducible first | exact HK.out | apply KeepBut.set_ | apply keep_drewN | apply keep_drew | apply keep_alloc | refine keep_far ?_ GW364.out _) | exact HK.out))⟩; have n3_ : Aside0 (Below w0.heap.size w0 w77) := ⟨by rw [← hq_]; exact (by repeat (first | (with_reducible first | exact HB.out | apply below_alloc | apply pw_below_drewN | apply below_drew1 | refine below_set ?_ (IsS58.ge HI0.out) | refine below_set ?_ GE364.out) | exact HB.out))⟩; clear BK364 HI0 HK HB hq_; have BK364 := n0_; have HI0 := n1_; have HK := n2_; have HB := n3_; clear n0_ n1_ n2_ n3_))
 replace BK364 := Aside0.mk (blk_drew BK364.out)
 replace HI0 := Aside0.mk (IsS58.drew HI0.out)
 replace HK := Aside0.mk (keep_drew HK.out)
 replace HB := Aside0.mk (below_drew1 HB.out)
 refine start_ (n := 10) (S := fun w' => w'.cell? ⟨g, 0, none⟩ = some (.string s0_0) ∧ w'.cell? ⟨g, 1, none⟩ = some (.int .i64 s0_1)) (ds := []) #[false, false, false, false, false, false, false, false, false, false] (by kernel_rfl) rfl rfl ⟨(cellS58_0 HI0.out.1), (cellS58_1 HI0.out.1)⟩ (fun hHeld => ?_); refine with_tabW newelref01_walk_next.tab14 newelref01_walk_next.bits14 (fun HT_ HW_ => ?_)
 generalize w77.drew = w78 at BK364 HI0 HK HB hHeld ⊢
 refine pz 0 (some 108) HT_ ?_
 refine pz 1 (some 109) HT_ ?_
 refine pz 2 (some 110) HT_ ?_
 refine pz 4 (some 112) HT_ ?_
 refine pz 5 (some 113) HT_ ?_
 refine pz 6 (some 114) HT_ ?_
 refine tm 3 (some 111) HT_ HW_ hHeld ?_
 refine tm 7 (some 115) HT_ HW_ hHeld ?_
 refine on 8 (some 116) HT_ (fun K hK => ?_)
 refine goes_ Try.func32 (by kernel_rfl) rfl #[.string s0_0, .string (⟨#[60]⟩ : ByteArray), .int .i64 s0_1] (by rfl) rfl rfl mA ?_
 with_reducible refine (newelref01_find.calls k s0_0 (⟨#[60]⟩ : ByteArray) s0_1 t408 _ ?side1 A66.out).mono ?_
 (case side1 => exact Glob.step HG.out (by repeat (first | (with_reducible first | exact HB.out | apply below_alloc | apply pw_below_drewN | apply below_drew1 | refine below_set ?_ (IsS58.ge HI0.out) | refine below_set ?_ GE364.out) | exact HB.out)))
 rintro e w' ⟨rfl, ⟨nd, rfl⟩⟩
 refine ⟨_, rfl, ?_⟩
 refine hK.out _ _ ⟨(cellS58_0 HI0.out.1), (cellS58_1 HI0.out.1)⟩ (fun hHeld => ?_)
 clear hK K
 refine nz (some 116) ?_
 refine pz 9 (some 9) HT_ ?_
 refine done_ (done_of HT_.out (by kernel_rfl)) ?_
 obtain ⟨HGz79, hgz79⟩ := HI0.out
 have hcz79_0 := cellS58_0 HGz79
 have hcz79_1 := cellS58_1 HGz79
 have hfz79_0 := blk_frozen HGz79 0
 have hfz79_1 := blk_frozen HGz79 1
 clear HGz79 hgz79
 try go_wp2
 (try ((try simp only [World.drewN_drewN]); (first | generalize hq_ : World.drewN w78 _ = w78 | (rw [drewN_self w78]; generalize hq_ : World.drewN w78 _ = w78)); have n0_ : Aside0 (w78.heap[gb364]? = some (.cells #[.int .i64 0, .string (⟨#[]⟩ : ByteArray), .string (⟨#[]⟩ : ByteArray), .slice none 0 0, .bool false] 32 (0, 0))) := ⟨by rw [← hq_]; exact (bK BK364)⟩; have n1_ : Aside0 (IsS58 w0 w78 g s0_0 s0_1) := ⟨by rw [← hq_]; exact (by repeat (first | (with_reducible first | exact HI0.out | apply IsS58.alloc | apply IsS58.drewN | apply IsS58.drew | apply IsS58.set_0 | apply IsS58.set_1 | refine IsS58.far ?_ NB0_364.out _) | exact HI0.out))⟩; have n2_ : Aside0 (KeepBut w w78 g none) := ⟨by rw [← hq_]; exact (by repeat (first | (with_reducible first | exact HK.out | apply KeepBut.set_ | apply keep_drewN | apply keep_drew | apply keep_alloc | refine keep_far ?_ GW364.out _) | exact HK.out))⟩; have n3_ : Aside0 (Below w0.heap.size w0 w78) := ⟨by rw [← hq_]; exact (by repeat (first | (with_reducible first | exact HB.out | apply below_alloc | apply pw_below_drewN | apply below_drew1 | refine below_set ?_ (IsS58.ge HI0.out) | refine below_set ?_ GE364.out) | exact HB.out))⟩; clear BK364 HI0 HK HB hq_; have BK364 := n0_; have HI0 := n1_; have HK := n2_; have HB := n3_; clear n0_ n1_ n2_ n3_))
 replace BK364 := Aside0.mk (blk_drew BK364.out)
 replace HI0 := Aside0.mk (IsS58.drew HI0.out)
 replace HK := Aside0.mk (keep_drew HK.out)
 replace HB := Aside0.mk (below_drew1 HB.out)
 refine start_ (n := 16) (S := fun w' => w'.cell? ⟨g, 0, none⟩ = some (.string s0_0) ∧ w'.cell? ⟨g, 1, none⟩ = some (.int .i64 s0_1)) (ds := []) #[false, false, false, false, false, false, false, false, false, false, false, false, false, false, false, false] (by kernel_rfl) rfl rfl ⟨(cellS58_0 HI0.out.1), (cellS58_1 HI0.out.1)⟩ (fun hHeld => ?_); refine with_tabW newelref01_walk_next.tab17 newelref01_walk_next.bits17 (fun HT_ HW_ => ?_)
 generalize w78.drew = w80 at BK364 HI0 HK HB hHeld ⊢
 refine pz 0 (some 125) HT_ ?_
 refine pz 1 (some 126) HT_ ?_
 refine pz 2 (some 127) HT_ ?_
 refine pz 4 (some 129) HT_ ?_
 refine pz 5 (some 130) HT_ ?_
 refine pz 6 (some 131) HT_ ?_
 refine pz 8 (some 133) HT_ ?_
 refine tm 3 (some 128) HT_ HW_ hHeld ?_
 refine tm 7 (some 132) HT_ HW_ hHeld ?_
 refine pz 9 (some 134) HT_ ?_
 refine on 10 (some 135) HT_ (fun K hK => ?_)
 refine goes_ Try.func15 (by kernel_rfl) rfl #[.string (s0_0.extract (s0_1 : Int).toNat ((s0_0.size : Int) : Int).toNat)] (by rfl) rfl rfl mA ?_
 with_reducible refine (newelref01_Entities.calls k (s0_0.extract (s0_1 : Int).toNat ((s0_0.size : Int) : Int).toNat) t409 t410 _ ?side1 A71.out).mono ?_
 (case side1 => exact Glob.step HG.out (by repeat (first | (with_reducible first | exact HB.out | apply below_alloc | apply pw_below_drewN | apply below_drew1 | refine below_set ?_ (IsS58.ge HI0.out) | refine below_set ?_ GE364.out) | exact HB.out)))
 rintro e w81 ⟨rfl, hb⟩
 refine ⟨_, rfl, ?_⟩
 replace BK364 := kB BK364 hb
 replace HK := Aside0.mk (KeepBut.trans (by repeat (first | (with_reducible first | exact HK.out | apply KeepBut.set_ | apply keep_drewN | apply keep_drew | apply keep_alloc | refine keep_far ?_ GW364.out _) | exact HK.out)) (KeepBut.of_below hb g none) (.inl rfl))
 replace HB := Aside0.mk (below_step (by repeat (first | (with_reducible first | exact HB.out | apply below_alloc | apply pw_below_drewN | apply below_drew1 | refine below_set ?_ (IsS58.ge HI0.out) | refine below_set ?_ GE364.out) | exact HB.out)) hb)
 replace HI0 := Aside0.mk (IsS58.below (by repeat (first | (with_reducible first | exact HI0.out | apply IsS58.alloc | apply IsS58.drewN | apply IsS58.drew | apply IsS58.set_0 | apply IsS58.set_1 | refine IsS58.far ?_ NB0_364.out _) | exact HI0.out)) hb)
 (try clear hb)
 refine hK.out _ _ ⟨(cellS58_0 HI0.out.1), (cellS58_1 HI0.out.1)⟩ (fun hHeld => ?_)
 clear hK K
 refine nz (some 135) ?_
 refine pz 11 (some 124) HT_ ?_
 refine pz 12 (some 136) HT_ ?_
 refine pz 13 (some 137) HT_ ?_
 refine pz 14 (some 10) HT_ ?_
 refine pz 15 (some 11) HT_ ?_
 refine done_ (done_of HT_.out (by kernel_rfl)) ?_
 obtain ⟨HGz82, hgz82⟩ := HI0.out
 have hcz82_0 := cellS58_0 HGz82
 have hcz82_1 := cellS58_1 HGz82
 have hfz82_0 := blk_frozen HGz82 0
 have hfz82_1 := blk_frozen HGz82 1
 clear HGz82 hgz82
 have hnb83 := NB364_0.out
 have hnc83 := NB0_364.out
 have hcz84_0 : w81.cell? ⟨gb364, 0, none⟩ = some (.int .i64 0) := (blk_cell BK364.out 0).trans rfl
 have hcz84_1 : w81.cell? ⟨gb364, 1, none⟩ = some (.string (⟨#[]⟩ : ByteArray)) := (blk_cell BK364.out 1).trans rfl
 have hcz84_2 : w81.cell? ⟨gb364, 2, none⟩ = some (.string (⟨#[]⟩ : ByteArray)) := (blk_cell BK364.out 2).trans rfl
 have hcz84_3 : w81.cell? ⟨gb364, 3, none⟩ = some (.slice none 0 0) := (blk_cell BK364.out 3).trans rfl
 have hcz84_4 : w81.cell? ⟨gb364, 4, none⟩ = some (.bool false) := (blk_cell BK364.out 4).trans rfl
 have hfz84_0 := blk_frozen BK364.out 0
 have hfz84_1 := blk_frozen BK364.out 1
 have hfz84_2 := blk_frozen BK364.out 2
 have hfz84_3 := blk_frozen BK364.out 3
 have hfz84_4 := blk_frozen BK364.out 4
 try go_wp2
 refine bodyPost_ret (results_ct rfl _ _ gb364 32 #[.int .i64 3, .string (⟨#[]⟩ : ByteArray), .string t409, .slice none 0 0, .bool false] (0, 0) _ rfl (by (with_reducible repeat (first | refine blk_drewN ?_ _ | refine blk_drew ?_ | refine blk_alloc ?_ _)); refine blk_put (cs := #[.int .i64 3, .string (⟨#[]⟩ : ByteArray), .string t409, .slice none 0 0, .bool false]) ?_ 4 _ rfl; (with_reducible repeat (first | refine blk_drewN ?_ _ | refine blk_drew ?_ | refine blk_alloc ?_ _)); refine blk_put (cs := #[.int .i64 3, .string (⟨#[]⟩ : ByteArray), .string t409, .slice none 0 0, .bool false]) ?_ 3 _ rfl; (with_reducible repeat (first | refine blk_drewN ?_ _ | refine blk_drew ?_ | refine blk_alloc ?_ _)); refine blk_put (cs := #[.int .i64 3, .string (⟨#[]⟩ : ByteArray), .string (⟨#[]⟩ : ByteArray), .slice none 0 0, .bool false]) ?_ 2 _ rfl; (with_reducible repeat (first | refine blk_drewN ?_ _ | refine blk_drew ?_ | refine blk_alloc ?_ _)); refine blk_put (cs := #[.int .i64 3, .string (⟨#[]⟩ : ByteArray), .string (⟨#[]⟩ : ByteArray), .slice none 0 0, .bool false]) ?_ 1 _ rfl; (with_reducible repeat (first | refine blk_drewN ?_ _ | refine blk_drew ?_ | refine blk_alloc ?_ _)); refine blk_put (cs := #[.int .i64 0, .string (⟨#[]⟩ : ByteArray), .string (⟨#[]⟩ : ByteArray), .slice none 0 0, .bool false]) ?_ 0 _ rfl; (with_reducible repeat (first | refine blk_drewN ?_ _ | refine blk_drew ?_ | refine blk_alloc ?_ _)); refine blk_far ?_ NB364_0.out _; (with_reducible repeat (first | refine blk_drewN ?_ _ | refine blk_drew ?_ | refine blk_alloc ?_ _)); exact BK364.out) Try.underlying32 rfl (by kernel_rfl)) rfl ?_
 exact ⟨_, by first | rfl | (simp [errW_none, errW_some] <;> rfl) | (simp [*, errW_none, errW_some] <;> rfl), by first | exact Kd.R_nil _ _ _ _ _ | exact Kd.N_nil _ _ _ _ _ | exact Kd.V_nil _ _ _ _ _ | exact Kd.Q_nil _ _ _ _ _ | exact Kd.S_nil _ _ _ _ _, by repeat (first | (with_reducible first | exact HI0.out | apply IsS58.alloc | apply IsS58.drewN | apply IsS58.drew | apply IsS58.set_0 | apply IsS58.set_1 | refine IsS58.far ?_ NB0_364.out _) | exact HI0.out), by repeat (first | (with_reducible first | exact HB.out | apply below_alloc | apply pw_below_drewN | apply below_drew1 | refine below_set ?_ (IsS58.ge HI0.out) | refine below_set ?_ GE364.out) | exact HB.out), by repeat (first | (with_reducible first | exact HK.out | apply KeepBut.set_ | apply keep_drewN | apply keep_drew | apply keep_alloc | refine keep_far ?_ GW364.out _) | exact HK.out)⟩
def newelref01_Split.l0 : Nat → ByteArray → ByteArray → List S32 → Int → Option (List S32 × Int)
 | 0, _, _, _, _ => none
 | k + 1, s, x, L, p => if p < (s.size : Int) then (newelref01_walk_next.f k x p).bind fun r =>
  if r.2.2.2.2.2.1 = true then (if L.length ≤ 100000 then newelref01_Split.l0 k s r.2.2.2.2.2.2.1 (L ++ [⟨r.1, r.2.1, r.2.2.1, r.2.2.2.1, r.2.2.2.2.1⟩]) r.2.2.2.2.2.2.2 else none)
  else some ([], 5)
  else some (L, 0)
def newelref01_Split.f (k : Nat) (a0 : ByteArray) : Option (List S32 × Int) :=
 if 20000 < a0.size then some ([], 3) else (newelref01_all.f k a0).bind fun b => if b = true then newelref01_Split.l0 k a0 a0 [] 0 else some ([], 4)
theorem newelref01_Split.mono_l : ∀ k s x L p, LeO (newelref01_Split.l0 k s x L p) (newelref01_Split.l0 (k + 1) s x L p)
 | 0, _, _, _, _ => fun r h => by simp [newelref01_Split.l0] at h
 | k + 1, s, x, L, p => by
  have ih0 := newelref01_Split.mono_l k
  unfold newelref01_Split.l0
  have m0 := @newelref01_walk_next.mono
  exact mo
theorem newelref01_Split.mono : ∀ a0 k, LeO (newelref01_Split.f k a0) (newelref01_Split.f (k + 1) a0) := by
 intro a0 k
 unfold newelref01_Split.f
 have m0 := @newelref01_Split.mono_l
 have m1 := @newelref01_all.mono
 exact mo
theorem heap_size_alloc_ (w : World) (o : Obj) : (w.alloc o).heap.size = w.heap.size + 1 := Array.size_push _
theorem drawn_below_ {w w' : World} (h : Drawn0 w w') : Below w.heap.size w w' := by
 obtain ⟨n, rfl⟩ := h
 exact pw_below_drewN (Below.refl _ _) n
theorem refTokInfo : (Try.prog.info? 32).map (fun i => (i.zero, i.size, i.bytes)) = some (some (.agg #[.int .i64 0, .string ⟨#[]⟩, .string ⟨#[]⟩, .slice none 0 0, .bool false]), 5, 72) := by kernel_rfl
theorem newelref01_Split.big (s : ByteArray) (hl : 20000 < s.size) (w : World) :
 Calls Try.prog 13 #[.string s] w fun e w' => e = .returned (.tuple #[.slice none 0 0, .int .i64 3]) ∧ w = w' := by
 have d1 : decide ((20000 : Int) < (s.size : Int)) = true := decide_eq_true (by omega)
 have d1' : decide (20000 < s.size) = true := decide_eq_true hl
 clear hl
 go_enter Try.func13, Try.ntmps13
 go_wp2
 go_ret2
 exact ⟨rfl, rfl⟩
theorem newelref01_Split.bad (k : Nat) (s : ByteArray) (hl : ¬ 20000 < s.size) (w : World) (hG : Glob w) (h : newelref01_all.f k s = some false) :
 Calls Try.prog 13 #[.string s] w fun e w' => e = .returned (.tuple #[.slice none 0 0, .int .i64 4]) ∧ Below w.heap.size w w' := by
 have d1 : decide ((20000 : Int) < (s.size : Int)) = false := decide_eq_false (by omega)
 have d1' : decide (20000 < s.size) = false := decide_eq_false hl
 have H := Aside0.mk h
 have HG := Aside0.mk hG
 clear hl h hG
 go_enter Try.func13, Try.ntmps13
 go_wp2_with (first | (go_at_call 26; (with_reducible refine (newelref01_all.calls k s false _ HG.out H.out).mono ?_); rintro e w1 ⟨rfl, ⟨nd, rfl⟩⟩))
 go_ret2
 exact ⟨rfl, pw_below_drewN (Below.refl _ _) nd⟩
theorem newelref01_Split.good (k : Nat) (s : ByteArray) (r1 : List S32) (r2 : Int) (hl : ¬ 20000 < s.size) (w : World) (hG : Glob w) (h : newelref01_all.f k s = some true) (hL : newelref01_Split.l0 k s s [] 0 = some (r1, r2)) :
 Calls Try.prog 13 #[.string s] w fun e w' => ∃ v0_ : Value, e = .returned (.tuple #[v0_, .int .i64 r2]) ∧ Kd.S k32 32 w' w.heap.size (fun _ => True) v0_ r1 ∧ Below w.heap.size w w' := by
 have d1 : decide ((20000 : Int) < (s.size : Int)) = false := decide_eq_false (by omega)
 have d1' : decide (20000 < s.size) = false := decide_eq_false hl
 have hu := Try.underlying58
 have H := Aside0.mk h
 have HL := Aside0.mk hL
 have HG := Aside0.mk hG
 clear hl h hG hL
 go_enter Try.func13, Try.ntmps13
 go_wp2_with (first | (go_at_call 26; (with_reducible refine (newelref01_all.calls k s true _ HG.out H.out).mono ?_); rintro e w1 ⟨rfl, hd⟩; have HD := Aside0.mk (drawn_below_ hd); clear hd))
 have hb0 : Below w.heap.size w (w1.alloc (.cells #[.string s, .int .i64 0] 58)) := below_alloc HD.out _
 have X0 : (w1.alloc (.cells #[.string s, .int .i64 0] 58)).heap[w1.heap.size]? = some (.cells #[.string s, .int .i64 0] 58 (0, 0)) := heap_alloc_new w1 _
 obtain ⟨g, hg⟩ : ∃ g, g = w1.heap.size := ⟨_, rfl⟩
 have HI0 := Aside0.mk (show IsS58 w (w1.alloc (.cells #[.string s, .int .i64 0] 58)) g s 0 from by rw [hg]; exact ⟨X0, HD.out.size⟩)
 have HB0 := Aside0.mk hb0
 rw [← hg]
 clear hb0 X0 hg HD
 generalize w1.alloc _ = w2 at *
 go_loopg [5] k (fun kq v5 w' => ∃ (x : ByteArray) (L : List S32) (p : Int), Aside0 (newelref01_Split.l0 kq s x L p = some (r1, r2)) ∧ Aside0 (Kd.S k32 32 w' w.heap.size (fun k => k ≠ g) v5 L) ∧ Aside0 (IsS58 w w' g x p) ∧ Aside0 (Below w.heap.size w w'))
 case atStart => exact ⟨s, [], 0, HL, ⟨Kd.S_nil _ _ _ _ _⟩, HI0, HB0⟩
 clear HL HI0 HB0 H
 obtain ⟨x, L, p, HA, HS, HI, HB⟩ := hrel
 cases gk with
 | zero => exact absurd HA.out (by simp [newelref01_Split.l0])
 | succ k1 =>
  have H := HA.out
  clear HA
  simp only [newelref01_Split.l0] at H
  have c0 := cellS58_0 HI.out.1
  have c1 := cellS58_1 HI.out.1
  by_cases hp : p < (s.size : Int)
  rotate_left
  ·rw [if_neg hp] at H
   simp only [Option.some.injEq, Prod.mk.injEq] at H
   obtain ⟨rfl, rfl⟩ := H
   have dp : decide (p < (s.size : Int)) = false := decide_eq_false hp
   have hSK := HS.out
   obtain ⟨A5, c5, rfl⟩ := Kd.S_slice hSK
   clear hp hSK
   go_wp2
   go_ret2
   exact ⟨_, rfl, Kd.S_mono HS.out (fun _ _ => trivial), HB.out⟩
  rw [if_pos hp] at H
  have dp : decide (p < (s.size : Int)) = true := decide_eq_true hp
  obtain ⟨⟨t1, t2, t3, t4, t5, t6, t7, t8⟩, hn, H⟩ := Option.bind_eq_some_iff.1 H
  dsimp only at H
  have HN := Aside0.mk hn
  clear hn hp
  cases t6 with
  | false =>
   have H : (some ([], 5) : Option (List S32 × Int)) = some (r1, r2) := by simpa using H
   simp only [Option.some.injEq, Prod.mk.injEq] at H
   obtain ⟨rfl, rfl⟩ := H
   go_wp2_with (first | (go_at_call 27; (with_reducible refine (newelref01_walk_next.calls k1 g x p t1 t2 t3 t4 t5 false t7 t8 w _ HI.out HB.out HG.out HN.out).mono ?_); rintro e w3 ⟨v3, rfl, hr, hI, hB, hK⟩; obtain ⟨A3, c3, rfl⟩ := Kd.R_slice hr; have HB3 := Aside0.mk hB; clear hr hI hB hK))
   go_ret2
   exact ⟨_, rfl, Kd.S_nil _ _ _ _ _, below_alloc HB3.out _⟩
  | true =>
   have H : (if L.length ≤ 100000 then newelref01_Split.l0 k1 s t7 (L ++ [⟨t1, t2, t3, t4, t5⟩]) t8 else none) = some (r1, r2) := by simpa using H
   by_cases hlen : L.length ≤ 100000
   rotate_left
   ·rw [if_neg hlen] at H; cases H
   rw [if_pos hlen] at H
   have H' := Aside0.mk H
   have hSK := HS.out
   obtain ⟨A5, c5, rfl⟩ := Kd.S_slice hSK
   clear H hSK
   have hgl := HI.out.lt
   have hvl := Kd.S_lt HS.out
   have HL1 := Aside0.mk (Kd.S_mono (ok' := fun k => k ≠ g ∧ k < wr.heap.size) (Kd.S_bound HS.out) (fun k h => ⟨h.1, h.2.2.1⟩))
   have hbs := HB.out.size
   have hvg : some g ≠ (Value.slice A5 L.length c5).ownBlock := Kd.S_away HS.out (fun k hk => hk)
   go_wp2_with (first | (go_at_call 27; (with_reducible refine (newelref01_walk_next.calls k1 g x p t1 t2 t3 t4 t5 true t7 t8 w _ HI.out HB.out HG.out HN.out).mono ?_); rintro e w3 ⟨v3, rfl, hr, hI, hB, hK⟩; obtain ⟨A3, c3, rfl⟩ := Kd.R_slice hr; have hs3 : wr.heap.size ≤ w3.heap.size := keep_size (row := none) hK; have HB3 := Aside0.mk hB; have HI3 := Aside0.mk hI; have HR3 := Aside0.mk (Kd.R_lower (Kd.R_mono (ok' := fun k => wr.heap.size ≤ k) (Kd.R_bound hr) (fun k h => h.2.1)) hbs); have HL3 := Aside0.mk (Kd.S_keep HL1.out hK (fun k h => h.1)); clear hr hI hB hK) | ((with_reducible refine gate_builtin (b := .append) (xs := #[.tmp 31, .tmp 33]) rfl ?_); at_builtin; refine Kd.S_append k32 (w0 := w) w.heap.size rfl (.tmp 31) (.tmp 33) 23 32 (.agg #[.int .i64 0, .string ⟨#[]⟩, .string ⟨#[]⟩, .slice none 0 0, .bool false]) 72 rfl Try.underlying23 refTokInfo rfl (by decide) (by omega) (.slice A5 L.length c5) L (⟨t1, t2, t3, t4, t5⟩ : S32) [.int .i64 t1, .string t2, .string t3, .slice A3 t4.length c3, .bool t5] (fun k => k ≠ g) (fun k => wr.heap.size ≤ k) rfl ?aX ?aP ?aK ?aF ?aO ?aB ?aS ?aL ?_; (case aX => (show Value.slice (some ⟨w3.heap.size + 1, 0, none⟩) 1 1 = _); rw [heap_size_alloc_]); (case aP => exact k32_mkM _ _ _ (⟨t1, t2, t3, t4, t5⟩ : S32) (Kd.R_alloc HR3.out _)); (case aK => exact fun k hk => ⟨by omega, fun e => by have := hvl k e.symm; omega⟩); (case aF => exact fun k hk => by have h_ : w3.heap.size ≤ k := Nat.le_trans (below_alloc (Below.refl w3.heap.size w3) _).size hk; omega); (case aO => exact Kd.S_mono (Kd.S_alloc HL3.out _) (fun k h => ⟨h.1, by omega⟩)); (case aB => exact below_alloc HB3.out _); (case aS => exact (below_alloc HB3.out _).size); (case aL => omega); intro v1 w4 ho hb hg hat; have HS4 := Aside0.mk ho; have HB4 := Aside0.mk hb; have HI4 := Aside0.mk ((HI3.out.alloc _).grown hg hvg); clear ho hb hg hat))
   go_roundg k1
   case measure => omega
   case rel => exact ⟨t7, L ++ [⟨t1, t2, t3, t4, t5⟩], t8, H', HS4, HI4, HB4⟩
theorem newelref01_Split.calls (k : Nat) (a0 : ByteArray) (r1 : List S32) (r2 : Int) (w : World) (hG : Glob w) (h : newelref01_Split.f k a0 = some (r1, r2)) :
 Calls Try.prog 13 #[.string a0] w fun e w' => ∃ v0_ : Value, e = .returned (.tuple #[v0_, .int .i64 r2]) ∧ Kd.S k32 32 w' w.heap.size (fun _ => True) v0_ r1 ∧ Below w.heap.size w w' := by
 unfold newelref01_Split.f at h
 by_cases hl : 20000 < a0.size
 ·rw [if_pos hl] at h
  simp only [Option.some.injEq, Prod.mk.injEq] at h
  obtain ⟨rfl, rfl⟩ := h
  refine (newelref01_Split.big a0 hl w).mono ?_
  rintro e w' ⟨rfl, rfl⟩
  exact ⟨_, rfl, Kd.S_nil _ _ _ _ _, Below.refl _ _⟩
 rw [if_neg hl] at h
 obtain ⟨b, hb, h⟩ := Option.bind_eq_some_iff.1 h
 cases b with
 | true => exact newelref01_Split.good k a0 r1 r2 hl w hG hb (by simpa using h)
 | false =>
  have h : (some ([], 4) : Option (List S32 × Int)) = some (r1, r2) := by simpa using h
  simp only [Option.some.injEq, Prod.mk.injEq] at h
  obtain ⟨rfl, rfl⟩ := h
  refine (newelref01_Split.bad k a0 hl w hG hb).mono ?_
  rintro e w' ⟨rfl, b⟩
  exact ⟨_, rfl, Kd.S_nil _ _ _ _ _, b⟩
end Go.Proofs.Ytomikblbfappnaa.Q
namespace Go.Proofs.Ytomikblbfappnaa.Q
open Go.RowKit Go.Proofs.YtomikblbfappnaaW.PrintWords Go.Proofs.YtomikblbfappnaaW.PrintLast Go.Proofs.YtomikblbfappnaaW.Own Go.Proofs.YtomikblbfappnaaW.PrintMore
attribute [local go_sem] max2_int min2_int max_two min_two max_three min_three max_four min_four   -- for this text's walks alone
set_option linter.unusedVariables false
set_option linter.unusedSimpArgs false
theorem eqA39 (d : Nat) (w : World) (x0 y0 : ByteArray) (x1 y1 : ByteArray) :
    (Op.equalIn (d + 2) 39 (.agg #[.string x0, .string x1]) (.agg #[.string y0, .string y1])).run Try.prog w = .ok (x0.toList == y0.toList && (x1.toList == y1.toList)) w := by
  refine eqA_of Try.underlying39 (by kernel_rfl) ?_
  refine eqf_cons (by rfl) (by go_simp; rfl) (by go_simp; rfl) (by go_simp) ?_
  exact eqf_last (by rfl) (by go_simp; rfl) (by go_simp; rfl) (by go_simp)
end Go.Proofs.Ytomikblbfappnaa.Q
namespace Go.Proofs.Ytomikblbfappnaa.Q
open Go.RowKit Go.Proofs.YtomikblbfappnaaW.PrintWords Go.Proofs.YtomikblbfappnaaW.PrintLast Go.Proofs.YtomikblbfappnaaW.Own Go.Proofs.YtomikblbfappnaaW.PrintMore
attribute [local go_sem] max2_int min2_int max_two min_two max_three min_three max_four min_four   -- for this text's walks alone
set_option linter.unusedVariables false
set_option linter.unusedSimpArgs false
set_option maxHeartbeats 20000000
set_option maxRecDepth 100000
section
attribute [local go_sem high] eqA39
def api_Attr_1.f (a0_0 : ByteArray) (a0_1 : ByteArray) (a1_0 : ByteArray) (a1_1 : ByteArray) : Option (Bool) := some (a0_0.toList == a1_0.toList && (a0_1.toList == a1_1.toList))
theorem api_Attr_1.calls (a0_0 : ByteArray) (a0_1 : ByteArray) (a1_0 : ByteArray) (a1_1 : ByteArray) (r : Bool) (w : World) (hG : Glob w) (h : api_Attr_1.f a0_0 a0_1 a1_0 a1_1 = some r) :
 Calls Try.prog 36 #[.agg #[.string a0_0, .string a0_1], .agg #[.string a1_0, .string a1_1]] w fun e w' => e = .returned (.bool r) ∧ Below w.heap.size w w' := by
 have hu39 := Try.underlying39
 have HG := Aside0.mk hG
 clear hG
 have HB := Aside0.mk (Below.refl w.heap.size w)
 have H : (some (a0_0.toList == a1_0.toList && (a0_1.toList == a1_1.toList))) = some r := h
 clear h
 obtain rfl := Option.some.inj H
 go_enter Try.func36, Try.ntmps36
 go_wp2_with (first | (refine be 2 #[.string a0_0, .string a0_1] 39 ?_; intro gb190 hg w3 hbox hb; have BK190 := Aside0.mk (hbox); have GW190 := gW hg; have GE190 := gW hg; replace HB := sB hb; clear hb hbox hg) | (refine be 3 #[.string a1_0, .string a1_1] 39 ?_; intro gb191 hg w4 hbox hb; have BK191 := Aside0.mk (hbox); have GW191 := gW hg; have GE191 := gW hg; replace HB := sB hb; have NB190_191 := nL BK190 hg; have NB191_190 := nG BK190 hg; replace BK190 := kB BK190 hb; clear hb hbox hg; have hnb5 := NB190_191.out; have hnc5 := NB191_190.out; have hcz6_0 : w4.cell? ⟨gb190, 0, none⟩ = some (.string a0_0) := (blk_cell BK190.out 0).trans rfl; have hcz6_1 : w4.cell? ⟨gb190, 1, none⟩ = some (.string a0_1) := (blk_cell BK190.out 1).trans rfl; have hfz6_0 := blk_frozen BK190.out 0; have hfz6_1 := blk_frozen BK190.out 1; have hcz7_0 : w4.cell? ⟨gb191, 0, none⟩ = some (.string a1_0) := (blk_cell BK191.out 0).trans rfl; have hcz7_1 : w4.cell? ⟨gb191, 1, none⟩ = some (.string a1_1) := (blk_cell BK191.out 1).trans rfl; have hfz7_0 := blk_frozen BK191.out 0; have hfz7_1 := blk_frozen BK191.out 1))
 go_ret
 exact ⟨eA, bG⟩
end
def api_Attr_35.l0 : Nat → List (S39) → List (S39) → Int → Option (Bool)
 | 0, _, _, _ => none
 | k + 1, x0, x1, x7 => if x7 < (x0.length : Int) then (if 0 ≤ x7 then (if x7 < (x1.length : Int) then ((api_Attr_1.f ((rd_T39 x0 x7).f0) ((rd_T39 x0 x7).f1) ((rd_T39 x1 x7).f0) ((rd_T39 x1 x7).f1)).bind fun t194 => (if t194 = true then (api_Attr_35.l0 k x0 x1 (wrap64 (x7 + 1))) else (some false))) else (none)) else (none)) else (some true)
def api_Attr_35.f (k : Nat) (l0 : List (S39)) (l1 : List (S39))  : Option (Bool) := if (l0.length : Int) = (l1.length : Int) then (api_Attr_35.l0 k l0 l1 0) else (some false)
theorem api_Attr_35.mono_l : ∀ k, (∀ y0 y1 y2, LeO (api_Attr_35.l0 k y0 y1 y2) (api_Attr_35.l0 (k + 1) y0 y1 y2))
 | 0 => fun _ _ _ r h => by simp [api_Attr_35.l0] at h
 | k + 1 => by
  have ih0 := api_Attr_35.mono_l k
  ·intro y0 y1 y2
   unfold api_Attr_35.l0
   exact mo
theorem api_Attr_35.mono : ∀ a0 a1 k, LeO (api_Attr_35.f k a0 a1) (api_Attr_35.f (k + 1) a0 a1) := by
 intro a0 a1 k
 have ih0 := api_Attr_35.mono_l k
 unfold api_Attr_35.f
 exact mo
def api_Attr_35.T6 : Bool × List (List Nat × List Nat) := (true, [([], []), ([], []), ([], []), ([1, 2], [1, 2]), ([3], [3]), ([], []), ([], []), ([5, 6], [5, 6]), ([7], [7]), ([0, 4, 8], [0, 4, 8]), ([9], [9])])
def api_Attr_35.B6 : List Nat := [0, 0, 0, 6, 14, 0, 0, 96, 224, 511, 1023]
theorem api_Attr_35.tab6 : rtab .any (opsOf Try.f35 6) = api_Attr_35.T6 := by kernel_rfl
theorem api_Attr_35.bits6 : waitsOk api_Attr_35.T6.2 api_Attr_35.B6 = true := by kernel_rfl
theorem api_Attr_35.calls (k : Nat) (A0 : Option Addr) (c0 : Nat) (l0 : List (S39)) (A1 : Option Addr) (c1 : Nat) (l1 : List (S39))  (r : Bool) (w : World) (hr0 : Kd.C k39 w A0 l0.length l0) (hc0 : l0.length ≤ c0) (hr1 : Kd.C k39 w A1 l1.length l1) (hc1 : l1.length ≤ c1) (hG : Glob w) (h : api_Attr_35.f k l0 l1 = some r) :
 Calls Try.prog 35 #[.slice A0 l0.length c0, .slice A1 l1.length c1, .func (.func 36) #[] #[]] w fun e w' => e = .returned (.bool r) ∧ Below w.heap.size w w' := by
 have hu39 := Try.underlying39
 have HG := Aside0.mk hG
 clear hG
 have HR0 := Aside0.mk hr0
 have HC0 := Aside0.mk hc0
 clear hr0 hc0
 have HR1 := Aside0.mk hr1
 have HC1 := Aside0.mk hc1
 clear hr1 hc1
 have HB := Aside0.mk (Below.refl w.heap.size w)
 have H : (if (l0.length : Int) = (l1.length : Int) then (api_Attr_35.l0 k l0 l1 0) else (some false)) = some r := h
 clear h
 by_cases c4 : (l0.length : Int) = (l1.length : Int)
 rotate_left
 ·rw [if_neg c4] at H
  obtain ⟨c4b0, c4b1⟩ := eqF c4
  have c4b2 : (l0.length == l1.length) = false := by first | simpa using c4 | (simp at c4 ⊢; omega)
  obtain rfl := Option.some.inj H
  go_enter Try.func35, Try.ntmps35
  go_wp2
  go_ret
  exact ⟨eA, bE⟩
 rw [if_pos c4] at H
 obtain ⟨c4b0, c4b1⟩ := eqT c4
 have c4b2 : (l0.length == l1.length) = true := by first | simpa using c4 | (simp at c4 ⊢; omega)
 clear c4
 have H' := Aside0.mk H
 clear H
 go_enter Try.func35, Try.ntmps35
 go_wp2
 go_loopg [7] k (fun kq v7 w' => ∃ (x7_1 : Int), v7 = .int .i64 x7_1 ∧ Aside0 (api_Attr_35.l0 kq l0 l1 x7_1 = some r) ∧ Aside0 (kq ≤ k) ∧ Aside0 (Below w.heap.size w w'))
 case atStart => exact ⟨(0), cA, H', ⟨Nat.le_refl _⟩, ⟨bE⟩⟩
 clear H'
 try clear c1
 try clear p2
 try clear c3
 try clear c4
 try clear c4b0
 try clear c4b1
 try clear c4b2
 obtain ⟨x7_1, rfl, HA, HK1, HB⟩ := hrel
 cases gk with
 | zero => exact absurd HA.out (by simp [api_Attr_35.l0])
 | succ k1 =>
  have H := HA.out
  clear HA
  simp only [api_Attr_35.l0] at H
  by_cases c5 : x7_1 < (l0.length : Int)
  rotate_left
  ·rw [if_neg c5] at H
   have c5b0 := dF c5
   clear c5
   obtain rfl := Option.some.inj H
   go_wp2
   go_ret
   exact ⟨eA, bE⟩
  rw [if_pos c5] at H
  have c5b0 := dT c5
  clear c5
  obtain ⟨c6, H⟩ := gp H
  have c6b0 := dT c6
  clear c6
  obtain ⟨c7, H⟩ := gp H
  have c7b0 := dT c7
  clear c7
  replace H := bi H
  obtain ⟨t194, A80, H⟩ := H
  try dsimp only at H
  have A8 := Aside0.mk A80
  clear A80
  by_cases c9 : t194 = true
  rotate_left
  ·replace c9 := Bool.eq_false_iff.mpr c9
   subst c9
   replace H : (some false) = some r := by rw [if_neg nF] at H; exact H
   obtain rfl := Option.some.inj H
   try go_wp2
   replace HB := Aside0.mk (below_drew1 HB.out)
   have p192 : 0 ≤ (x7_1 : Int) := dA
   have q192 : x7_1 < (l0.length : Int) := dA
   obtain ⟨ad192, e192, hx192_0, hx192_1⟩ := at_T39 HR0.out x7_1 p192 q192
   have hw192_1 := hx192_1
   have hw192_0 := hx192_0
   cases e192
   replace hx192_0 := (HB.out.cell (World.block_lt_of_cell? w _ hx192_0)).trans hx192_0
   replace hx192_1 := (HB.out.cell (World.block_lt_of_cell? w _ hx192_1)).trans hx192_1
   replace p192 := eq_true p192
   replace q192 := eq_true q192
   have p193 : 0 ≤ (x7_1 : Int) := dA
   have q193 : x7_1 < (l1.length : Int) := dA
   obtain ⟨ad193, e193, hx193_0, hx193_1⟩ := at_T39 HR1.out x7_1 p193 q193
   have hw193_1 := hx193_1
   have hw193_0 := hx193_0
   cases e193
   replace hx193_0 := (HB.out.cell (World.block_lt_of_cell? w _ hx193_0)).trans hx193_0
   replace hx193_1 := (HB.out.cell (World.block_lt_of_cell? w _ hx193_1)).trans hx193_1
   replace p193 := eq_true p193
   replace q193 := eq_true q193
   refine start_ (n := 11) (S := fun w' => w'.cell? (ad192.add ((x7_1).toNat * 2)) = some (.string ((rd_T39 l0 x7_1).f0)) ∧ w'.cell? ⟨(ad192.add ((x7_1).toNat * 2)).block, (ad192.add ((x7_1).toNat * 2)).off + 1, none⟩ = some (.string ((rd_T39 l0 x7_1).f1)) ∧ w'.cell? (ad193.add ((x7_1).toNat * 2)) = some (.string ((rd_T39 l1 x7_1).f0)) ∧ w'.cell? ⟨(ad193.add ((x7_1).toNat * 2)).block, (ad193.add ((x7_1).toNat * 2)).off + 1, none⟩ = some (.string ((rd_T39 l1 x7_1).f1))) (ds := []) #[false, false, false, false, false, false, false, false, false, false, false] (by kernel_rfl) rfl rfl ⟨((HB.out.cell (World.block_lt_of_cell? w _ hw192_0)).trans hw192_0), ((HB.out.cell (World.block_lt_of_cell? w _ hw192_1)).trans hw192_1), ((HB.out.cell (World.block_lt_of_cell? w _ hw193_0)).trans hw193_0), ((HB.out.cell (World.block_lt_of_cell? w _ hw193_1)).trans hw193_1)⟩ (fun hHeld => ?_); refine with_tabW api_Attr_35.tab6 api_Attr_35.bits6 (fun HT_ HW_ => ?_)
   generalize wr.drew = w12 at HB hx192_0 hx192_1 hx193_0 hx193_1 hHeld ⊢
   refine pz 0 (some 19) HT_ ?_
   refine pz 1 (some 20) HT_ ?_
   refine pz 2 (some 21) HT_ ?_
   refine pz 3 (some 22) HT_ ?_
   refine pz 5 (some 24) HT_ ?_
   refine pz 6 (some 25) HT_ ?_
   refine pz 7 (some 26) HT_ ?_
   refine tm 4 (some 23) HT_ HW_ hHeld ?_
   refine tm 8 (some 27) HT_ HW_ hHeld ?_
   refine on 9 (some 28) HT_ (fun K hK => ?_)
   first | (refine goes_ Try.func36 (by kernel_rfl) rfl #[.agg #[.string ((rd_T39 l0 x7_1).f0), .string ((rd_T39 l0 x7_1).f1)], .agg #[.string ((rd_T39 l1 x7_1).f0), .string ((rd_T39 l1 x7_1).f1)]] (by rfl) rfl rfl mA ?_) | (refine goesV_ Try.func36 (by kernel_rfl) rfl #[.agg #[.string ((rd_T39 l0 x7_1).f0), .string ((rd_T39 l0 x7_1).f1)], .agg #[.string ((rd_T39 l1 x7_1).f0), .string ((rd_T39 l1 x7_1).f1)]] (by rfl) rfl rfl rfl mA ?_)
   with_reducible refine (api_Attr_1.calls ((rd_T39 l0 x7_1).f0) ((rd_T39 l0 x7_1).f1) ((rd_T39 l1 x7_1).f0) ((rd_T39 l1 x7_1).f1) false _ (gS HG) A8.out).mono ?_
   rintro e w13 ⟨rfl, hb⟩
   refine ⟨_, rfl, ?_⟩
   replace HB := sB hb
   (try clear hb)
   refine hK.out _ _ ⟨((HB.out.cell (World.block_lt_of_cell? w _ hw192_0)).trans hw192_0), ((HB.out.cell (World.block_lt_of_cell? w _ hw192_1)).trans hw192_1), ((HB.out.cell (World.block_lt_of_cell? w _ hw193_0)).trans hw193_0), ((HB.out.cell (World.block_lt_of_cell? w _ hw193_1)).trans hw193_1)⟩ (fun hHeld => ?_)
   clear hK K
   refine nz (some 28) ?_
   refine pz 10 (some 29) HT_ ?_
   refine done_ (done_of HT_.out (by kernel_rfl)) ?_
   try go_wp2
   go_ret
   exact ⟨eA, bE⟩
  subst c9
  replace H : (api_Attr_35.l0 k1 l0 l1 (wrap64 (x7_1 + 1))) = some r := by rw [if_pos rfl] at H; exact H
  have H' := Aside0.mk H
  clear H
  try go_wp2
  replace HB := Aside0.mk (below_drew1 HB.out)
  have p192 : 0 ≤ (x7_1 : Int) := dA
  have q192 : x7_1 < (l0.length : Int) := dA
  obtain ⟨ad192, e192, hx192_0, hx192_1⟩ := at_T39 HR0.out x7_1 p192 q192
  have hw192_1 := hx192_1
  have hw192_0 := hx192_0
  cases e192
  replace hx192_0 := (HB.out.cell (World.block_lt_of_cell? w _ hx192_0)).trans hx192_0
  replace hx192_1 := (HB.out.cell (World.block_lt_of_cell? w _ hx192_1)).trans hx192_1
  replace p192 := eq_true p192
  replace q192 := eq_true q192
  have p193 : 0 ≤ (x7_1 : Int) := dA
  have q193 : x7_1 < (l1.length : Int) := dA
  obtain ⟨ad193, e193, hx193_0, hx193_1⟩ := at_T39 HR1.out x7_1 p193 q193
  have hw193_1 := hx193_1
  have hw193_0 := hx193_0
  cases e193
  replace hx193_0 := (HB.out.cell (World.block_lt_of_cell? w _ hx193_0)).trans hx193_0
  replace hx193_1 := (HB.out.cell (World.block_lt_of_cell? w _ hx193_1)).trans hx193_1
  replace p193 := eq_true p193
  replace q193 := eq_true q193
  refine start_ (n := 11) (S := fun w' => w'.cell? (ad192.add ((x7_1).toNat * 2)) = some (.string ((rd_T39 l0 x7_1).f0)) ∧ w'.cell? ⟨(ad192.add ((x7_1).toNat * 2)).block, (ad192.add ((x7_1).toNat * 2)).off + 1, none⟩ = some (.string ((rd_T39 l0 x7_1).f1)) ∧ w'.cell? (ad193.add ((x7_1).toNat * 2)) = some (.string ((rd_T39 l1 x7_1).f0)) ∧ w'.cell? ⟨(ad193.add ((x7_1).toNat * 2)).block, (ad193.add ((x7_1).toNat * 2)).off + 1, none⟩ = some (.string ((rd_T39 l1 x7_1).f1))) (ds := []) #[false, false, false, false, false, false, false, false, false, false, false] (by kernel_rfl) rfl rfl ⟨((HB.out.cell (World.block_lt_of_cell? w _ hw192_0)).trans hw192_0), ((HB.out.cell (World.block_lt_of_cell? w _ hw192_1)).trans hw192_1), ((HB.out.cell (World.block_lt_of_cell? w _ hw193_0)).trans hw193_0), ((HB.out.cell (World.block_lt_of_cell? w _ hw193_1)).trans hw193_1)⟩ (fun hHeld => ?_); refine with_tabW api_Attr_35.tab6 api_Attr_35.bits6 (fun HT_ HW_ => ?_)
  generalize wr.drew = w10 at HB hx192_0 hx192_1 hx193_0 hx193_1 hHeld ⊢
  refine pz 0 (some 19) HT_ ?_
  refine pz 1 (some 20) HT_ ?_
  refine pz 2 (some 21) HT_ ?_
  refine pz 3 (some 22) HT_ ?_
  refine pz 5 (some 24) HT_ ?_
  refine pz 6 (some 25) HT_ ?_
  refine pz 7 (some 26) HT_ ?_
  refine tm 4 (some 23) HT_ HW_ hHeld ?_
  refine tm 8 (some 27) HT_ HW_ hHeld ?_
  refine on 9 (some 28) HT_ (fun K hK => ?_)
  first | (refine goes_ Try.func36 (by kernel_rfl) rfl #[.agg #[.string ((rd_T39 l0 x7_1).f0), .string ((rd_T39 l0 x7_1).f1)], .agg #[.string ((rd_T39 l1 x7_1).f0), .string ((rd_T39 l1 x7_1).f1)]] (by rfl) rfl rfl mA ?_) | (refine goesV_ Try.func36 (by kernel_rfl) rfl #[.agg #[.string ((rd_T39 l0 x7_1).f0), .string ((rd_T39 l0 x7_1).f1)], .agg #[.string ((rd_T39 l1 x7_1).f0), .string ((rd_T39 l1 x7_1).f1)]] (by rfl) rfl rfl rfl mA ?_)
  with_reducible refine (api_Attr_1.calls ((rd_T39 l0 x7_1).f0) ((rd_T39 l0 x7_1).f1) ((rd_T39 l1 x7_1).f0) ((rd_T39 l1 x7_1).f1) true _ (gS HG) A8.out).mono ?_
  rintro e w11 ⟨rfl, hb⟩
  refine ⟨_, rfl, ?_⟩
  replace HB := sB hb
  (try clear hb)
  refine hK.out _ _ ⟨((HB.out.cell (World.block_lt_of_cell? w _ hw192_0)).trans hw192_0), ((HB.out.cell (World.block_lt_of_cell? w _ hw192_1)).trans hw192_1), ((HB.out.cell (World.block_lt_of_cell? w _ hw193_0)).trans hw193_0), ((HB.out.cell (World.block_lt_of_cell? w _ hw193_1)).trans hw193_1)⟩ (fun hHeld => ?_)
  clear hK K
  refine nz (some 28) ?_
  refine pz 10 (some 29) HT_ ?_
  refine done_ (done_of HT_.out (by kernel_rfl)) ?_
  try go_wp2
  go_roundg k1
  case measure => have := HK1.out; omega
  case rel => exact ⟨(wrap64 (x7_1 + 1)), cA, H', ⟨by have := HK1.out; omega⟩, ⟨bE⟩⟩
def api_Attr_21.f (k : Nat) (l0 : List (S39)) (l1 : List (S39)) : Option (Bool) := (api_Attr_35.f k l0 l1).bind fun t195 => (some t195)
theorem api_Attr_21.mono : ∀ a0 a1 k, LeO (api_Attr_21.f k a0 a1) (api_Attr_21.f (k + 1) a0 a1) := by
 intro a0 a1 k
 unfold api_Attr_21.f
 have m0 := @api_Attr_35.mono
 exact mo
theorem api_Attr_21.calls (k : Nat) (A0 : Option Addr) (c0 : Nat) (l0 : List (S39)) (A1 : Option Addr) (c1 : Nat) (l1 : List (S39)) (r : Bool) (w : World) (hr0 : Kd.C k39 w A0 l0.length l0) (hc0 : l0.length ≤ c0) (hr1 : Kd.C k39 w A1 l1.length l1) (hc1 : l1.length ≤ c1) (hG : Glob w) (h : api_Attr_21.f k l0 l1 = some r) :
 Calls Try.prog 21 #[.slice A0 l0.length c0, .slice A1 l1.length c1] w fun e w' => e = .returned (.bool r) ∧ Below w.heap.size w w' := by
 have HG := Aside0.mk hG
 clear hG
 have HR0 := Aside0.mk hr0
 have HC0 := Aside0.mk hc0
 clear hr0 hc0
 have HR1 := Aside0.mk hr1
 have HC1 := Aside0.mk hc1
 clear hr1 hc1
 have HB := Aside0.mk (Below.refl w.heap.size w)
 have H : ((api_Attr_35.f k l0 l1).bind fun t195 => (some t195)) = some r := h
 clear h
 replace H := bi H
 obtain ⟨t195, A30, H⟩ := H
 try dsimp only at H
 have A3 := Aside0.mk A30
 clear A30
 obtain rfl := Option.some.inj H
 go_enter Try.func21, Try.ntmps21
 go_wp2_with (first | (refine gl (some 7) Try.func35 #[.slice A0 l0.length c0, .slice A1 l1.length c1, .func (.func 36) #[] #[]] ?_; (with_reducible refine (api_Attr_35.calls k _ _ l0 _ _ l1  t195 _ ?side1 ?side2 ?side3 ?side4 (gS HG) A3.out).mono ?_); (case side1 => repeat (first | exact HR0.out | (with_reducible refine Kd.C_alloc ?_ _) | (with_reducible refine Kd.C_drewN ?_ _) | (with_reducible refine Kd.C_drew ?_))); (case side2 => exact HC0.out); (case side3 => repeat (first | exact HR1.out | (with_reducible refine Kd.C_alloc ?_ _) | (with_reducible refine Kd.C_drewN ?_ _) | (with_reducible refine Kd.C_drew ?_))); (case side4 => exact HC1.out); rintro e w4 ⟨rfl, hb⟩; refine ⟨_, rfl, ?_⟩; replace HB := sB hb; (try clear hb)))
 go_ret
 exact ⟨eA, bE⟩
def newelhelp_Token.f (k : Nat) (a0_0 : Int) (a0_1 : ByteArray) (a0_2 : ByteArray) (l0_3 : List (S39)) (a0_4 : Bool) (a1_0 : Int) (a1_1 : ByteArray) (a1_2 : ByteArray) (l1_3 : List (S39)) (a1_4 : Bool) : Option (Bool) := if a0_0 = a1_0 then (if a0_1.toList = a1_1.toList then (if a0_2.toList = a1_2.toList then ((api_Attr_21.f k l0_3 l1_3).bind fun t415 => (if t415 = true then (some (a0_4 == a1_4)) else (some false))) else (some false)) else (some false)) else (some false)
theorem newelhelp_Token.mono : ∀ a0 a1 a2 a3 a4 a5 a6 a7 a8 a9 k, LeO (newelhelp_Token.f k a0 a1 a2 a3 a4 a5 a6 a7 a8 a9) (newelhelp_Token.f (k + 1) a0 a1 a2 a3 a4 a5 a6 a7 a8 a9) := by
 intro a0 a1 a2 a3 a4 a5 a6 a7 a8 a9 k
 unfold newelhelp_Token.f
 have m0 := @api_Attr_21.mono
 exact mo
theorem newelhelp_Token.calls (k : Nat) (a0_0 : Int) (a0_1 : ByteArray) (a0_2 : ByteArray) (A0_3 : Option Addr) (c0_3 : Nat) (l0_3 : List (S39)) (a0_4 : Bool) (a1_0 : Int) (a1_1 : ByteArray) (a1_2 : ByteArray) (A1_3 : Option Addr) (c1_3 : Nat) (l1_3 : List (S39)) (a1_4 : Bool) (r : Bool) (w : World) (hr0_3 : Kd.C k39 w A0_3 l0_3.length l0_3) (hc0_3 : l0_3.length ≤ c0_3) (hr1_3 : Kd.C k39 w A1_3 l1_3.length l1_3) (hc1_3 : l1_3.length ≤ c1_3) (hG : Glob w) (h : newelhelp_Token.f k a0_0 a0_1 a0_2 l0_3 a0_4 a1_0 a1_1 a1_2 l1_3 a1_4 = some r) :
 Calls Try.prog 17 #[.agg #[.int .i64 a0_0, .string a0_1, .string a0_2, .slice A0_3 l0_3.length c0_3, .bool a0_4], .agg #[.int .i64 a1_0, .string a1_1, .string a1_2, .slice A1_3 l1_3.length c1_3, .bool a1_4]] w fun e w' => e = .returned (.bool r) ∧ Below w.heap.size w w' := by
 have hu32 := Try.underlying32
 have HG := Aside0.mk hG
 clear hG
 have HR0_3 := Aside0.mk hr0_3
 have HC0_3 := Aside0.mk hc0_3
 clear hr0_3 hc0_3
 have HR1_3 := Aside0.mk hr1_3
 have HC1_3 := Aside0.mk hc1_3
 clear hr1_3 hc1_3
 have HB := Aside0.mk (Below.refl w.heap.size w)
 have H : (if a0_0 = a1_0 then (if a0_1.toList = a1_1.toList then (if a0_2.toList = a1_2.toList then ((api_Attr_21.f k l0_3 l1_3).bind fun t415 => (if t415 = true then (some (a0_4 == a1_4)) else (some false))) else (some false)) else (some false)) else (some false)) = some r := h
 clear h
 by_cases c3 : a0_0 = a1_0
 rotate_left
 ·rw [if_neg c3] at H
  obtain ⟨c3b0, c3b1⟩ := eqF c3
  obtain rfl := Option.some.inj H
  go_enter Try.func17, Try.ntmps17
  go_wp2_with (first | (refine be 2 #[.int .i64 a0_0, .string a0_1, .string a0_2, .slice A0_3 l0_3.length c0_3, .bool a0_4] 32 ?_; intro gb413 hg w32 hbox hb; have BK413 := Aside0.mk (hbox); have GW413 := gW hg; have GE413 := gW hg; replace HB := sB hb; clear hb hbox hg) | (refine be 3 #[.int .i64 a1_0, .string a1_1, .string a1_2, .slice A1_3 l1_3.length c1_3, .bool a1_4] 32 ?_; intro gb414 hg w33 hbox hb; have BK414 := Aside0.mk (hbox); have GW414 := gW hg; have GE414 := gW hg; replace HB := sB hb; have NB413_414 := nL BK413 hg; have NB414_413 := nG BK413 hg; replace BK413 := kB BK413 hb; clear hb hbox hg; have hnb34 := NB413_414.out; have hnc34 := NB414_413.out; have hcz35_0 : w33.cell? ⟨gb413, 0, none⟩ = some (.int .i64 a0_0) := (blk_cell BK413.out 0).trans rfl; have hcz35_1 : w33.cell? ⟨gb413, 1, none⟩ = some (.string a0_1) := (blk_cell BK413.out 1).trans rfl; have hcz35_2 : w33.cell? ⟨gb413, 2, none⟩ = some (.string a0_2) := (blk_cell BK413.out 2).trans rfl; have hcz35_3 : w33.cell? ⟨gb413, 3, none⟩ = some (.slice A0_3 l0_3.length c0_3) := (blk_cell BK413.out 3).trans rfl; have hcz35_4 : w33.cell? ⟨gb413, 4, none⟩ = some (.bool a0_4) := (blk_cell BK413.out 4).trans rfl; have hfz35_0 := blk_frozen BK413.out 0; have hfz35_1 := blk_frozen BK413.out 1; have hfz35_2 := blk_frozen BK413.out 2; have hfz35_3 := blk_frozen BK413.out 3; have hfz35_4 := blk_frozen BK413.out 4; have hcz36_0 : w33.cell? ⟨gb414, 0, none⟩ = some (.int .i64 a1_0) := (blk_cell BK414.out 0).trans rfl; have hcz36_1 : w33.cell? ⟨gb414, 1, none⟩ = some (.string a1_1) := (blk_cell BK414.out 1).trans rfl; have hcz36_2 : w33.cell? ⟨gb414, 2, none⟩ = some (.string a1_2) := (blk_cell BK414.out 2).trans rfl; have hcz36_3 : w33.cell? ⟨gb414, 3, none⟩ = some (.slice A1_3 l1_3.length c1_3) := (blk_cell BK414.out 3).trans rfl; have hcz36_4 : w33.cell? ⟨gb414, 4, none⟩ = some (.bool a1_4) := (blk_cell BK414.out 4).trans rfl; have hfz36_0 := blk_frozen BK414.out 0; have hfz36_1 := blk_frozen BK414.out 1; have hfz36_2 := blk_frozen BK414.out 2; have hfz36_3 := blk_frozen BK414.out 3; have hfz36_4 := blk_frozen BK414.out 4))
  go_ret
  exact ⟨eA, bG⟩
 rw [if_pos c3] at H
 obtain ⟨c3b0, c3b1⟩ := eqT c3
 clear c3
 by_cases c4 : a0_1.toList = a1_1.toList
 rotate_left
 ·rw [if_neg c4] at H
  obtain ⟨c4b0, c4b1⟩ := eqF c4
  obtain rfl := Option.some.inj H
  go_enter Try.func17, Try.ntmps17
  go_wp2_with (first | (refine be 2 #[.int .i64 a0_0, .string a0_1, .string a0_2, .slice A0_3 l0_3.length c0_3, .bool a0_4] 32 ?_; intro gb413 hg w27 hbox hb; have BK413 := Aside0.mk (hbox); have GW413 := gW hg; have GE413 := gW hg; replace HB := sB hb; clear hb hbox hg) | (refine be 3 #[.int .i64 a1_0, .string a1_1, .string a1_2, .slice A1_3 l1_3.length c1_3, .bool a1_4] 32 ?_; intro gb414 hg w28 hbox hb; have BK414 := Aside0.mk (hbox); have GW414 := gW hg; have GE414 := gW hg; replace HB := sB hb; have NB413_414 := nL BK413 hg; have NB414_413 := nG BK413 hg; replace BK413 := kB BK413 hb; clear hb hbox hg; have hnb29 := NB413_414.out; have hnc29 := NB414_413.out; have hcz30_0 : w28.cell? ⟨gb413, 0, none⟩ = some (.int .i64 a0_0) := (blk_cell BK413.out 0).trans rfl; have hcz30_1 : w28.cell? ⟨gb413, 1, none⟩ = some (.string a0_1) := (blk_cell BK413.out 1).trans rfl; have hcz30_2 : w28.cell? ⟨gb413, 2, none⟩ = some (.string a0_2) := (blk_cell BK413.out 2).trans rfl; have hcz30_3 : w28.cell? ⟨gb413, 3, none⟩ = some (.slice A0_3 l0_3.length c0_3) := (blk_cell BK413.out 3).trans rfl; have hcz30_4 : w28.cell? ⟨gb413, 4, none⟩ = some (.bool a0_4) := (blk_cell BK413.out 4).trans rfl; have hfz30_0 := blk_frozen BK413.out 0; have hfz30_1 := blk_frozen BK413.out 1; have hfz30_2 := blk_frozen BK413.out 2; have hfz30_3 := blk_frozen BK413.out 3; have hfz30_4 := blk_frozen BK413.out 4; have hcz31_0 : w28.cell? ⟨gb414, 0, none⟩ = some (.int .i64 a1_0) := (blk_cell BK414.out 0).trans rfl; have hcz31_1 : w28.cell? ⟨gb414, 1, none⟩ = some (.string a1_1) := (blk_cell BK414.out 1).trans rfl; have hcz31_2 : w28.cell? ⟨gb414, 2, none⟩ = some (.string a1_2) := (blk_cell BK414.out 2).trans rfl; have hcz31_3 : w28.cell? ⟨gb414, 3, none⟩ = some (.slice A1_3 l1_3.length c1_3) := (blk_cell BK414.out 3).trans rfl; have hcz31_4 : w28.cell? ⟨gb414, 4, none⟩ = some (.bool a1_4) := (blk_cell BK414.out 4).trans rfl; have hfz31_0 := blk_frozen BK414.out 0; have hfz31_1 := blk_frozen BK414.out 1; have hfz31_2 := blk_frozen BK414.out 2; have hfz31_3 := blk_frozen BK414.out 3; have hfz31_4 := blk_frozen BK414.out 4))
  go_ret
  exact ⟨eA, bG⟩
 rw [if_pos c4] at H
 obtain ⟨c4b0, c4b1⟩ := eqT c4
 clear c4
 by_cases c5 : a0_2.toList = a1_2.toList
 rotate_left
 ·rw [if_neg c5] at H
  obtain ⟨c5b0, c5b1⟩ := eqF c5
  obtain rfl := Option.some.inj H
  go_enter Try.func17, Try.ntmps17
  go_wp2_with (first | (refine be 2 #[.int .i64 a0_0, .string a0_1, .string a0_2, .slice A0_3 l0_3.length c0_3, .bool a0_4] 32 ?_; intro gb413 hg w22 hbox hb; have BK413 := Aside0.mk (hbox); have GW413 := gW hg; have GE413 := gW hg; replace HB := sB hb; clear hb hbox hg) | (refine be 3 #[.int .i64 a1_0, .string a1_1, .string a1_2, .slice A1_3 l1_3.length c1_3, .bool a1_4] 32 ?_; intro gb414 hg w23 hbox hb; have BK414 := Aside0.mk (hbox); have GW414 := gW hg; have GE414 := gW hg; replace HB := sB hb; have NB413_414 := nL BK413 hg; have NB414_413 := nG BK413 hg; replace BK413 := kB BK413 hb; clear hb hbox hg; have hnb24 := NB413_414.out; have hnc24 := NB414_413.out; have hcz25_0 : w23.cell? ⟨gb413, 0, none⟩ = some (.int .i64 a0_0) := (blk_cell BK413.out 0).trans rfl; have hcz25_1 : w23.cell? ⟨gb413, 1, none⟩ = some (.string a0_1) := (blk_cell BK413.out 1).trans rfl; have hcz25_2 : w23.cell? ⟨gb413, 2, none⟩ = some (.string a0_2) := (blk_cell BK413.out 2).trans rfl; have hcz25_3 : w23.cell? ⟨gb413, 3, none⟩ = some (.slice A0_3 l0_3.length c0_3) := (blk_cell BK413.out 3).trans rfl; have hcz25_4 : w23.cell? ⟨gb413, 4, none⟩ = some (.bool a0_4) := (blk_cell BK413.out 4).trans rfl; have hfz25_0 := blk_frozen BK413.out 0; have hfz25_1 := blk_frozen BK413.out 1; have hfz25_2 := blk_frozen BK413.out 2; have hfz25_3 := blk_frozen BK413.out 3; have hfz25_4 := blk_frozen BK413.out 4; have hcz26_0 : w23.cell? ⟨gb414, 0, none⟩ = some (.int .i64 a1_0) := (blk_cell BK414.out 0).trans rfl; have hcz26_1 : w23.cell? ⟨gb414, 1, none⟩ = some (.string a1_1) := (blk_cell BK414.out 1).trans rfl; have hcz26_2 : w23.cell? ⟨gb414, 2, none⟩ = some (.string a1_2) := (blk_cell BK414.out 2).trans rfl; have hcz26_3 : w23.cell? ⟨gb414, 3, none⟩ = some (.slice A1_3 l1_3.length c1_3) := (blk_cell BK414.out 3).trans rfl; have hcz26_4 : w23.cell? ⟨gb414, 4, none⟩ = some (.bool a1_4) := (blk_cell BK414.out 4).trans rfl; have hfz26_0 := blk_frozen BK414.out 0; have hfz26_1 := blk_frozen BK414.out 1; have hfz26_2 := blk_frozen BK414.out 2; have hfz26_3 := blk_frozen BK414.out 3; have hfz26_4 := blk_frozen BK414.out 4))
  go_ret
  exact ⟨eA, bG⟩
 rw [if_pos c5] at H
 obtain ⟨c5b0, c5b1⟩ := eqT c5
 clear c5
 replace H := bi H
 obtain ⟨t415, A60, H⟩ := H
 try dsimp only at H
 have A6 := Aside0.mk A60
 clear A60
 by_cases c7 : t415 = true
 ·subst c7
  replace H : (some (a0_4 == a1_4)) = some r := by rw [if_pos rfl] at H; exact H
  obtain rfl := Option.some.inj H
  go_enter Try.func17, Try.ntmps17
  go_wp2_with (first | (refine be 2 #[.int .i64 a0_0, .string a0_1, .string a0_2, .slice A0_3 l0_3.length c0_3, .bool a0_4] 32 ?_; intro gb413 hg w8 hbox hb; have BK413 := Aside0.mk (hbox); have GW413 := gW hg; have GE413 := gW hg; replace HB := sB hb; clear hb hbox hg) | (refine be 3 #[.int .i64 a1_0, .string a1_1, .string a1_2, .slice A1_3 l1_3.length c1_3, .bool a1_4] 32 ?_; intro gb414 hg w9 hbox hb; have BK414 := Aside0.mk (hbox); have GW414 := gW hg; have GE414 := gW hg; replace HB := sB hb; have NB413_414 := nL BK413 hg; have NB414_413 := nG BK413 hg; replace BK413 := kB BK413 hb; clear hb hbox hg; have hnb10 := NB413_414.out; have hnc10 := NB414_413.out; have hcz11_0 : w9.cell? ⟨gb413, 0, none⟩ = some (.int .i64 a0_0) := (blk_cell BK413.out 0).trans rfl; have hcz11_1 : w9.cell? ⟨gb413, 1, none⟩ = some (.string a0_1) := (blk_cell BK413.out 1).trans rfl; have hcz11_2 : w9.cell? ⟨gb413, 2, none⟩ = some (.string a0_2) := (blk_cell BK413.out 2).trans rfl; have hcz11_3 : w9.cell? ⟨gb413, 3, none⟩ = some (.slice A0_3 l0_3.length c0_3) := (blk_cell BK413.out 3).trans rfl; have hcz11_4 : w9.cell? ⟨gb413, 4, none⟩ = some (.bool a0_4) := (blk_cell BK413.out 4).trans rfl; have hfz11_0 := blk_frozen BK413.out 0; have hfz11_1 := blk_frozen BK413.out 1; have hfz11_2 := blk_frozen BK413.out 2; have hfz11_3 := blk_frozen BK413.out 3; have hfz11_4 := blk_frozen BK413.out 4; have hcz12_0 : w9.cell? ⟨gb414, 0, none⟩ = some (.int .i64 a1_0) := (blk_cell BK414.out 0).trans rfl; have hcz12_1 : w9.cell? ⟨gb414, 1, none⟩ = some (.string a1_1) := (blk_cell BK414.out 1).trans rfl; have hcz12_2 : w9.cell? ⟨gb414, 2, none⟩ = some (.string a1_2) := (blk_cell BK414.out 2).trans rfl; have hcz12_3 : w9.cell? ⟨gb414, 3, none⟩ = some (.slice A1_3 l1_3.length c1_3) := (blk_cell BK414.out 3).trans rfl; have hcz12_4 : w9.cell? ⟨gb414, 4, none⟩ = some (.bool a1_4) := (blk_cell BK414.out 4).trans rfl; have hfz12_0 := blk_frozen BK414.out 0; have hfz12_1 := blk_frozen BK414.out 1; have hfz12_2 := blk_frozen BK414.out 2; have hfz12_3 := blk_frozen BK414.out 3; have hfz12_4 := blk_frozen BK414.out 4) | (go_at_call 21; (with_reducible refine (api_Attr_21.calls k _ _ l0_3 _ _ l1_3 true _ ?side1 ?side2 ?side3 ?side4 (gS HG) A6.out).mono ?_); (case side1 => repeat (first | exact (Kd.C_below HR0_3.out HB.out) | (with_reducible refine Kd.C_alloc ?_ _) | (with_reducible refine Kd.C_drewN ?_ _) | (with_reducible refine Kd.C_drew ?_))); (case side2 => exact HC0_3.out); (case side3 => repeat (first | exact (Kd.C_below HR1_3.out HB.out) | (with_reducible refine Kd.C_alloc ?_ _) | (with_reducible refine Kd.C_drewN ?_ _) | (with_reducible refine Kd.C_drew ?_))); (case side4 => exact HC1_3.out); rintro e w13 ⟨rfl, hb⟩; replace BK413 := kB BK413 hb; replace BK414 := kB BK414 hb; replace HB := sB hb; (try clear hb); have hcz14_0 : w13.cell? ⟨gb413, 0, none⟩ = some (.int .i64 a0_0) := (blk_cell BK413.out 0).trans rfl; have hcz14_1 : w13.cell? ⟨gb413, 1, none⟩ = some (.string a0_1) := (blk_cell BK413.out 1).trans rfl; have hcz14_2 : w13.cell? ⟨gb413, 2, none⟩ = some (.string a0_2) := (blk_cell BK413.out 2).trans rfl; have hcz14_3 : w13.cell? ⟨gb413, 3, none⟩ = some (.slice A0_3 l0_3.length c0_3) := (blk_cell BK413.out 3).trans rfl; have hcz14_4 : w13.cell? ⟨gb413, 4, none⟩ = some (.bool a0_4) := (blk_cell BK413.out 4).trans rfl; have hfz14_0 := blk_frozen BK413.out 0; have hfz14_1 := blk_frozen BK413.out 1; have hfz14_2 := blk_frozen BK413.out 2; have hfz14_3 := blk_frozen BK413.out 3; have hfz14_4 := blk_frozen BK413.out 4; have hcz15_0 : w13.cell? ⟨gb414, 0, none⟩ = some (.int .i64 a1_0) := (blk_cell BK414.out 0).trans rfl; have hcz15_1 : w13.cell? ⟨gb414, 1, none⟩ = some (.string a1_1) := (blk_cell BK414.out 1).trans rfl; have hcz15_2 : w13.cell? ⟨gb414, 2, none⟩ = some (.string a1_2) := (blk_cell BK414.out 2).trans rfl; have hcz15_3 : w13.cell? ⟨gb414, 3, none⟩ = some (.slice A1_3 l1_3.length c1_3) := (blk_cell BK414.out 3).trans rfl; have hcz15_4 : w13.cell? ⟨gb414, 4, none⟩ = some (.bool a1_4) := (blk_cell BK414.out 4).trans rfl; have hfz15_0 := blk_frozen BK414.out 0; have hfz15_1 := blk_frozen BK414.out 1; have hfz15_2 := blk_frozen BK414.out 2; have hfz15_3 := blk_frozen BK414.out 3; have hfz15_4 := blk_frozen BK414.out 4))
  go_ret
  exact ⟨eA, bG⟩
 replace c7 := Bool.eq_false_iff.mpr c7
 subst c7
 replace H : (some false) = some r := by rw [if_neg nF] at H; exact H
 obtain rfl := Option.some.inj H
 go_enter Try.func17, Try.ntmps17
 go_wp2_with (first | (refine be 2 #[.int .i64 a0_0, .string a0_1, .string a0_2, .slice A0_3 l0_3.length c0_3, .bool a0_4] 32 ?_; intro gb413 hg w16 hbox hb; have BK413 := Aside0.mk (hbox); have GW413 := gW hg; have GE413 := gW hg; replace HB := sB hb; clear hb hbox hg) | (refine be 3 #[.int .i64 a1_0, .string a1_1, .string a1_2, .slice A1_3 l1_3.length c1_3, .bool a1_4] 32 ?_; intro gb414 hg w17 hbox hb; have BK414 := Aside0.mk (hbox); have GW414 := gW hg; have GE414 := gW hg; replace HB := sB hb; have NB413_414 := nL BK413 hg; have NB414_413 := nG BK413 hg; replace BK413 := kB BK413 hb; clear hb hbox hg; have hnb18 := NB413_414.out; have hnc18 := NB414_413.out; have hcz19_0 : w17.cell? ⟨gb413, 0, none⟩ = some (.int .i64 a0_0) := (blk_cell BK413.out 0).trans rfl; have hcz19_1 : w17.cell? ⟨gb413, 1, none⟩ = some (.string a0_1) := (blk_cell BK413.out 1).trans rfl; have hcz19_2 : w17.cell? ⟨gb413, 2, none⟩ = some (.string a0_2) := (blk_cell BK413.out 2).trans rfl; have hcz19_3 : w17.cell? ⟨gb413, 3, none⟩ = some (.slice A0_3 l0_3.length c0_3) := (blk_cell BK413.out 3).trans rfl; have hcz19_4 : w17.cell? ⟨gb413, 4, none⟩ = some (.bool a0_4) := (blk_cell BK413.out 4).trans rfl; have hfz19_0 := blk_frozen BK413.out 0; have hfz19_1 := blk_frozen BK413.out 1; have hfz19_2 := blk_frozen BK413.out 2; have hfz19_3 := blk_frozen BK413.out 3; have hfz19_4 := blk_frozen BK413.out 4; have hcz20_0 : w17.cell? ⟨gb414, 0, none⟩ = some (.int .i64 a1_0) := (blk_cell BK414.out 0).trans rfl; have hcz20_1 : w17.cell? ⟨gb414, 1, none⟩ = some (.string a1_1) := (blk_cell BK414.out 1).trans rfl; have hcz20_2 : w17.cell? ⟨gb414, 2, none⟩ = some (.string a1_2) := (blk_cell BK414.out 2).trans rfl; have hcz20_3 : w17.cell? ⟨gb414, 3, none⟩ = some (.slice A1_3 l1_3.length c1_3) := (blk_cell BK414.out 3).trans rfl; have hcz20_4 : w17.cell? ⟨gb414, 4, none⟩ = some (.bool a1_4) := (blk_cell BK414.out 4).trans rfl; have hfz20_0 := blk_frozen BK414.out 0; have hfz20_1 := blk_frozen BK414.out 1; have hfz20_2 := blk_frozen BK414.out 2; have hfz20_3 := blk_frozen BK414.out 3; have hfz20_4 := blk_frozen BK414.out 4) | (go_at_call 21; (with_reducible refine (api_Attr_21.calls k _ _ l0_3 _ _ l1_3 false _ ?side1 ?side2 ?side3 ?side4 (gS HG) A6.out).mono ?_); (case side1 => repeat (first | exact (Kd.C_below HR0_3.out HB.out) | (with_reducible refine Kd.C_alloc ?_ _) | (with_reducible refine Kd.C_drewN ?_ _) | (with_reducible refine Kd.C_drew ?_))); (case side2 => exact HC0_3.out); (case side3 => repeat (first | exact (Kd.C_below HR1_3.out HB.out) | (with_reducible refine Kd.C_alloc ?_ _) | (with_reducible refine Kd.C_drewN ?_ _) | (with_reducible refine Kd.C_drew ?_))); (case side4 => exact HC1_3.out); rintro e w21 ⟨rfl, hb⟩; replace BK413 := kB BK413 hb; replace BK414 := kB BK414 hb; replace HB := sB hb; (try clear hb)))
 go_ret
 exact ⟨eA, bG⟩
def api_Token.l0 : Nat → List (S32) → List (S32) → Int → Option (Bool)
 | 0, _, _, _ => none
 | k + 1, x0, x1, x7 => if x7 < (x0.length : Int) then (if 0 ≤ x7 then (if x7 < (x1.length : Int) then ((newelhelp_Token.f k ((rd_T32 x0 x7).f0) ((rd_T32 x0 x7).f1) ((rd_T32 x0 x7).f2) ((rd_T32 x0 x7).f3) ((rd_T32 x0 x7).f4) ((rd_T32 x1 x7).f0) ((rd_T32 x1 x7).f1) ((rd_T32 x1 x7).f2) ((rd_T32 x1 x7).f3) ((rd_T32 x1 x7).f4)).bind fun t418 => (if t418 = true then (api_Token.l0 k x0 x1 (wrap64 (x7 + 1))) else (some false))) else (none)) else (none)) else (some true)
def api_Token.f (k : Nat) (l0 : List (S32)) (l1 : List (S32))  : Option (Bool) := if (l0.length : Int) = (l1.length : Int) then (api_Token.l0 k l0 l1 0) else (some false)
theorem api_Token.mono_l : ∀ k, (∀ y0 y1 y2, LeO (api_Token.l0 k y0 y1 y2) (api_Token.l0 (k + 1) y0 y1 y2))
 | 0 => fun _ _ _ r h => by simp [api_Token.l0] at h
 | k + 1 => by
  have ih0 := api_Token.mono_l k
  ·intro y0 y1 y2
   unfold api_Token.l0
   have m0 := @newelhelp_Token.mono
   exact mo
theorem api_Token.mono : ∀ a0 a1 k, LeO (api_Token.f k a0 a1) (api_Token.f (k + 1) a0 a1) := by
 intro a0 a1 k
 have ih0 := api_Token.mono_l k
 unfold api_Token.f
 have m0 := @newelhelp_Token.mono
 exact mo
def api_Token.T6 : Bool × List (List Nat × List Nat) := (true, [([], []), ([], []), ([], []), ([1, 2], [1, 2]), ([3], [3]), ([], []), ([], []), ([5, 6], [5, 6]), ([7], [7]), ([0, 4, 8], [0, 4, 8]), ([9], [9])])
def api_Token.B6 : List Nat := [0, 0, 0, 6, 14, 0, 0, 96, 224, 511, 1023]
theorem api_Token.tab6 : rtab .any (opsOf Try.f16 6) = api_Token.T6 := by kernel_rfl
theorem api_Token.bits6 : waitsOk api_Token.T6.2 api_Token.B6 = true := by kernel_rfl
theorem api_Token.calls (k : Nat) (A0 : Option Addr) (c0 : Nat) (l0 : List (S32)) (A1 : Option Addr) (c1 : Nat) (l1 : List (S32))  (r : Bool) (w : World) (hr0 : Kd.C k32 w A0 l0.length l0) (hc0 : l0.length ≤ c0) (hr1 : Kd.C k32 w A1 l1.length l1) (hc1 : l1.length ≤ c1) (hG : Glob w) (h : api_Token.f k l0 l1 = some r) :
 Calls Try.prog 16 #[.slice A0 l0.length c0, .slice A1 l1.length c1, .func (.func 17) #[] #[]] w fun e w' => e = .returned (.bool r) ∧ Below w.heap.size w w' := by
 have hu32 := Try.underlying32
 have HG := Aside0.mk hG
 clear hG
 have HR0 := Aside0.mk hr0
 have HC0 := Aside0.mk hc0
 clear hr0 hc0
 have HR1 := Aside0.mk hr1
 have HC1 := Aside0.mk hc1
 clear hr1 hc1
 have HB := Aside0.mk (Below.refl w.heap.size w)
 have H : (if (l0.length : Int) = (l1.length : Int) then (api_Token.l0 k l0 l1 0) else (some false)) = some r := h
 clear h
 by_cases c4 : (l0.length : Int) = (l1.length : Int)
 rotate_left
 ·rw [if_neg c4] at H
  obtain ⟨c4b0, c4b1⟩ := eqF c4
  have c4b2 : (l0.length == l1.length) = false := by first | simpa using c4 | (simp at c4 ⊢; omega)
  obtain rfl := Option.some.inj H
  go_enter Try.func16, Try.ntmps16
  go_wp2
  go_ret
  exact ⟨eA, bE⟩
 rw [if_pos c4] at H
 obtain ⟨c4b0, c4b1⟩ := eqT c4
 have c4b2 : (l0.length == l1.length) = true := by first | simpa using c4 | (simp at c4 ⊢; omega)
 clear c4
 have H' := Aside0.mk H
 clear H
 go_enter Try.func16, Try.ntmps16
 go_wp2
 go_loopg [7] k (fun kq v7 w' => ∃ (x7_1 : Int), v7 = .int .i64 x7_1 ∧ Aside0 (api_Token.l0 kq l0 l1 x7_1 = some r) ∧ Aside0 (kq ≤ k) ∧ Aside0 (Below w.heap.size w w'))
 case atStart => exact ⟨(0), cA, H', ⟨Nat.le_refl _⟩, ⟨bE⟩⟩
 clear H'
 try clear c1
 try clear p2
 try clear c4
 try clear c4b0
 try clear c4b1
 try clear c4b2
 obtain ⟨x7_1, rfl, HA, HK1, HB⟩ := hrel
 cases gk with
 | zero => exact absurd HA.out (by simp [api_Token.l0])
 | succ k1 =>
  have H := HA.out
  clear HA
  simp only [api_Token.l0] at H
  by_cases c5 : x7_1 < (l0.length : Int)
  rotate_left
  ·rw [if_neg c5] at H
   have c5b0 := dF c5
   clear c5
   obtain rfl := Option.some.inj H
   go_wp2
   go_ret
   exact ⟨eA, bE⟩
  rw [if_pos c5] at H
  have c5b0 := dT c5
  clear c5
  obtain ⟨c6, H⟩ := gp H
  have c6b0 := dT c6
  clear c6
  obtain ⟨c7, H⟩ := gp H
  have c7b0 := dT c7
  clear c7
  replace H := bi H
  obtain ⟨t418, A80, H⟩ := H
  try dsimp only at H
  have A8 := Aside0.mk A80
  clear A80
  by_cases c9 : t418 = true
  rotate_left
  ·replace c9 := Bool.eq_false_iff.mpr c9
   subst c9
   replace H : (some false) = some r := by rw [if_neg nF] at H; exact H
   obtain rfl := Option.some.inj H
   try go_wp2
   replace HB := Aside0.mk (below_drew1 HB.out)
   have p416 : 0 ≤ (x7_1 : Int) := dA
   have q416 : x7_1 < (l0.length : Int) := dA
   obtain ⟨ad416, A416_3, c416_3, e416, hx416_0, hx416_1, hx416_2, hx416_3, hx416_4, hl416_3, hi416_3⟩ := at_T32 HR0.out x7_1 p416 q416
   have hw416_4 := hx416_4
   have hw416_3 := hx416_3
   have hw416_2 := hx416_2
   have hw416_1 := hx416_1
   have hw416_0 := hx416_0
   cases e416
   replace hx416_0 := (HB.out.cell (World.block_lt_of_cell? w _ hx416_0)).trans hx416_0
   replace hx416_1 := (HB.out.cell (World.block_lt_of_cell? w _ hx416_1)).trans hx416_1
   replace hx416_2 := (HB.out.cell (World.block_lt_of_cell? w _ hx416_2)).trans hx416_2
   replace hx416_3 := (HB.out.cell (World.block_lt_of_cell? w _ hx416_3)).trans hx416_3
   replace hx416_4 := (HB.out.cell (World.block_lt_of_cell? w _ hx416_4)).trans hx416_4
   have HR416_3 := Aside0.mk hi416_3
   have HC416_3 := Aside0.mk hl416_3
   clear hi416_3 hl416_3
   replace p416 := eq_true p416
   replace q416 := eq_true q416
   have p417 : 0 ≤ (x7_1 : Int) := dA
   have q417 : x7_1 < (l1.length : Int) := dA
   obtain ⟨ad417, A417_3, c417_3, e417, hx417_0, hx417_1, hx417_2, hx417_3, hx417_4, hl417_3, hi417_3⟩ := at_T32 HR1.out x7_1 p417 q417
   have hw417_4 := hx417_4
   have hw417_3 := hx417_3
   have hw417_2 := hx417_2
   have hw417_1 := hx417_1
   have hw417_0 := hx417_0
   cases e417
   replace hx417_0 := (HB.out.cell (World.block_lt_of_cell? w _ hx417_0)).trans hx417_0
   replace hx417_1 := (HB.out.cell (World.block_lt_of_cell? w _ hx417_1)).trans hx417_1
   replace hx417_2 := (HB.out.cell (World.block_lt_of_cell? w _ hx417_2)).trans hx417_2
   replace hx417_3 := (HB.out.cell (World.block_lt_of_cell? w _ hx417_3)).trans hx417_3
   replace hx417_4 := (HB.out.cell (World.block_lt_of_cell? w _ hx417_4)).trans hx417_4
   have HR417_3 := Aside0.mk hi417_3
   have HC417_3 := Aside0.mk hl417_3
   clear hi417_3 hl417_3
   replace p417 := eq_true p417
   replace q417 := eq_true q417
   refine start_ (n := 11) (S := fun w' => w'.cell? (ad416.add ((x7_1).toNat * 5)) = some (.int .i64 ((rd_T32 l0 x7_1).f0)) ∧ w'.cell? ⟨(ad416.add ((x7_1).toNat * 5)).block, (ad416.add ((x7_1).toNat * 5)).off + 1, none⟩ = some (.string ((rd_T32 l0 x7_1).f1)) ∧ w'.cell? ⟨(ad416.add ((x7_1).toNat * 5)).block, (ad416.add ((x7_1).toNat * 5)).off + 2, none⟩ = some (.string ((rd_T32 l0 x7_1).f2)) ∧ w'.cell? ⟨(ad416.add ((x7_1).toNat * 5)).block, (ad416.add ((x7_1).toNat * 5)).off + 3, none⟩ = some (.slice A416_3 ((rd_T32 l0 x7_1).f3).length c416_3) ∧ w'.cell? ⟨(ad416.add ((x7_1).toNat * 5)).block, (ad416.add ((x7_1).toNat * 5)).off + 4, none⟩ = some (.bool ((rd_T32 l0 x7_1).f4)) ∧ w'.cell? (ad417.add ((x7_1).toNat * 5)) = some (.int .i64 ((rd_T32 l1 x7_1).f0)) ∧ w'.cell? ⟨(ad417.add ((x7_1).toNat * 5)).block, (ad417.add ((x7_1).toNat * 5)).off + 1, none⟩ = some (.string ((rd_T32 l1 x7_1).f1)) ∧ w'.cell? ⟨(ad417.add ((x7_1).toNat * 5)).block, (ad417.add ((x7_1).toNat * 5)).off + 2, none⟩ = some (.string ((rd_T32 l1 x7_1).f2)) ∧ w'.cell? ⟨(ad417.add ((x7_1).toNat * 5)).block, (ad417.add ((x7_1).toNat * 5)).off + 3, none⟩ = some (.slice A417_3 ((rd_T32 l1 x7_1).f3).length c417_3) ∧ w'.cell? ⟨(ad417.add ((x7_1).toNat * 5)).block, (ad417.add ((x7_1).toNat * 5)).off + 4, none⟩ = some (.bool ((rd_T32 l1 x7_1).f4))) (ds := []) #[false, false, false, false, false, false, false, false, false, false, false] (by kernel_rfl) rfl rfl ⟨((HB.out.cell (World.block_lt_of_cell? w _ hw416_0)).trans hw416_0), ((HB.out.cell (World.block_lt_of_cell? w _ hw416_1)).trans hw416_1), ((HB.out.cell (World.block_lt_of_cell? w _ hw416_2)).trans hw416_2), ((HB.out.cell (World.block_lt_of_cell? w _ hw416_3)).trans hw416_3), ((HB.out.cell (World.block_lt_of_cell? w _ hw416_4)).trans hw416_4), ((HB.out.cell (World.block_lt_of_cell? w _ hw417_0)).trans hw417_0), ((HB.out.cell (World.block_lt_of_cell? w _ hw417_1)).trans hw417_1), ((HB.out.cell (World.block_lt_of_cell? w _ hw417_2)).trans hw417_2), ((HB.out.cell (World.block_lt_of_cell? w _ hw417_3)).trans hw417_3), ((HB.out.cell (World.block_lt_of_cell? w _ hw417_4)).trans hw417_4)⟩ (fun hHeld => ?_); refine with_tabW api_Token.tab6 api_Token.bits6 (fun HT_ HW_ => ?_)
   generalize wr.drew = w12 at HB HR416_3 HR417_3 hx416_0 hx416_1 hx416_2 hx416_3 hx416_4 hx417_0 hx417_1 hx417_2 hx417_3 hx417_4 hHeld ⊢
   refine pz 0 (some 19) HT_ ?_
   refine pz 1 (some 20) HT_ ?_
   refine pz 2 (some 21) HT_ ?_
   refine pz 3 (some 22) HT_ ?_
   refine pz 5 (some 24) HT_ ?_
   refine pz 6 (some 25) HT_ ?_
   refine pz 7 (some 26) HT_ ?_
   refine tm 4 (some 23) HT_ HW_ hHeld ?_
   refine tm 8 (some 27) HT_ HW_ hHeld ?_
   refine on 9 (some 28) HT_ (fun K hK => ?_)
   first | (refine goes_ Try.func17 (by kernel_rfl) rfl #[.agg #[.int .i64 ((rd_T32 l0 x7_1).f0), .string ((rd_T32 l0 x7_1).f1), .string ((rd_T32 l0 x7_1).f2), .slice A416_3 ((rd_T32 l0 x7_1).f3).length c416_3, .bool ((rd_T32 l0 x7_1).f4)], .agg #[.int .i64 ((rd_T32 l1 x7_1).f0), .string ((rd_T32 l1 x7_1).f1), .string ((rd_T32 l1 x7_1).f2), .slice A417_3 ((rd_T32 l1 x7_1).f3).length c417_3, .bool ((rd_T32 l1 x7_1).f4)]] (by rfl) rfl rfl mA ?_) | (refine goesV_ Try.func17 (by kernel_rfl) rfl #[.agg #[.int .i64 ((rd_T32 l0 x7_1).f0), .string ((rd_T32 l0 x7_1).f1), .string ((rd_T32 l0 x7_1).f2), .slice A416_3 ((rd_T32 l0 x7_1).f3).length c416_3, .bool ((rd_T32 l0 x7_1).f4)], .agg #[.int .i64 ((rd_T32 l1 x7_1).f0), .string ((rd_T32 l1 x7_1).f1), .string ((rd_T32 l1 x7_1).f2), .slice A417_3 ((rd_T32 l1 x7_1).f3).length c417_3, .bool ((rd_T32 l1 x7_1).f4)]] (by rfl) rfl rfl rfl mA ?_)
   with_reducible refine (newelhelp_Token.calls k1 ((rd_T32 l0 x7_1).f0) ((rd_T32 l0 x7_1).f1) ((rd_T32 l0 x7_1).f2) _ _ ((rd_T32 l0 x7_1).f3) ((rd_T32 l0 x7_1).f4) ((rd_T32 l1 x7_1).f0) ((rd_T32 l1 x7_1).f1) ((rd_T32 l1 x7_1).f2) _ _ ((rd_T32 l1 x7_1).f3) ((rd_T32 l1 x7_1).f4) false _ ?side1 ?side2 ?side3 ?side4 (gS HG) A8.out).mono ?_
   (case side1 => repeat (first | exact (Kd.C_below HR416_3.out HB.out) | (with_reducible refine Kd.C_alloc ?_ _) | (with_reducible refine Kd.C_drewN ?_ _) | (with_reducible refine Kd.C_drew ?_)))
   (case side2 => exact HC416_3.out)
   (case side3 => repeat (first | exact (Kd.C_below HR417_3.out HB.out) | (with_reducible refine Kd.C_alloc ?_ _) | (with_reducible refine Kd.C_drewN ?_ _) | (with_reducible refine Kd.C_drew ?_)))
   (case side4 => exact HC417_3.out)
   rintro e w13 ⟨rfl, hb⟩
   refine ⟨_, rfl, ?_⟩
   replace HB := sB hb
   (try clear hb)
   refine hK.out _ _ ⟨((HB.out.cell (World.block_lt_of_cell? w _ hw416_0)).trans hw416_0), ((HB.out.cell (World.block_lt_of_cell? w _ hw416_1)).trans hw416_1), ((HB.out.cell (World.block_lt_of_cell? w _ hw416_2)).trans hw416_2), ((HB.out.cell (World.block_lt_of_cell? w _ hw416_3)).trans hw416_3), ((HB.out.cell (World.block_lt_of_cell? w _ hw416_4)).trans hw416_4), ((HB.out.cell (World.block_lt_of_cell? w _ hw417_0)).trans hw417_0), ((HB.out.cell (World.block_lt_of_cell? w _ hw417_1)).trans hw417_1), ((HB.out.cell (World.block_lt_of_cell? w _ hw417_2)).trans hw417_2), ((HB.out.cell (World.block_lt_of_cell? w _ hw417_3)).trans hw417_3), ((HB.out.cell (World.block_lt_of_cell? w _ hw417_4)).trans hw417_4)⟩ (fun hHeld => ?_)
   clear hK K
   refine nz (some 28) ?_
   refine pz 10 (some 29) HT_ ?_
   refine done_ (done_of HT_.out (by kernel_rfl)) ?_
   try go_wp2
   go_ret
   exact ⟨eA, bE⟩
  subst c9
  replace H : (api_Token.l0 k1 l0 l1 (wrap64 (x7_1 + 1))) = some r := by rw [if_pos rfl] at H; exact H
  have H' := Aside0.mk H
  clear H
  try go_wp2
  replace HB := Aside0.mk (below_drew1 HB.out)
  have p416 : 0 ≤ (x7_1 : Int) := dA
  have q416 : x7_1 < (l0.length : Int) := dA
  obtain ⟨ad416, A416_3, c416_3, e416, hx416_0, hx416_1, hx416_2, hx416_3, hx416_4, hl416_3, hi416_3⟩ := at_T32 HR0.out x7_1 p416 q416
  have hw416_4 := hx416_4
  have hw416_3 := hx416_3
  have hw416_2 := hx416_2
  have hw416_1 := hx416_1
  have hw416_0 := hx416_0
  cases e416
  replace hx416_0 := (HB.out.cell (World.block_lt_of_cell? w _ hx416_0)).trans hx416_0
  replace hx416_1 := (HB.out.cell (World.block_lt_of_cell? w _ hx416_1)).trans hx416_1
  replace hx416_2 := (HB.out.cell (World.block_lt_of_cell? w _ hx416_2)).trans hx416_2
  replace hx416_3 := (HB.out.cell (World.block_lt_of_cell? w _ hx416_3)).trans hx416_3
  replace hx416_4 := (HB.out.cell (World.block_lt_of_cell? w _ hx416_4)).trans hx416_4
  have HR416_3 := Aside0.mk hi416_3
  have HC416_3 := Aside0.mk hl416_3
  clear hi416_3 hl416_3
  replace p416 := eq_true p416
  replace q416 := eq_true q416
  have p417 : 0 ≤ (x7_1 : Int) := dA
  have q417 : x7_1 < (l1.length : Int) := dA
  obtain ⟨ad417, A417_3, c417_3, e417, hx417_0, hx417_1, hx417_2, hx417_3, hx417_4, hl417_3, hi417_3⟩ := at_T32 HR1.out x7_1 p417 q417
  have hw417_4 := hx417_4
  have hw417_3 := hx417_3
  have hw417_2 := hx417_2
  have hw417_1 := hx417_1
  have hw417_0 := hx417_0
  cases e417
  replace hx417_0 := (HB.out.cell (World.block_lt_of_cell? w _ hx417_0)).trans hx417_0
  replace hx417_1 := (HB.out.cell (World.block_lt_of_cell? w _ hx417_1)).trans hx417_1
  replace hx417_2 := (HB.out.cell (World.block_lt_of_cell? w _ hx417_2)).trans hx417_2
  replace hx417_3 := (HB.out.cell (World.block_lt_of_cell? w _ hx417_3)).trans hx417_3
  replace hx417_4 := (HB.out.cell (World.block_lt_of_cell? w _ hx417_4)).trans hx417_4
  have HR417_3 := Aside0.mk hi417_3
  have HC417_3 := Aside0.mk hl417_3
  clear hi417_3 hl417_3
  replace p417 := eq_true p417
  replace q417 := eq_true q417
  refine start_ (n := 11) (S := fun w' => w'.cell? (ad416.add ((x7_1).toNat * 5)) = some (.int .i64 ((rd_T32 l0 x7_1).f0)) ∧ w'.cell? ⟨(ad416.add ((x7_1).toNat * 5)).block, (ad416.add ((x7_1).toNat * 5)).off + 1, none⟩ = some (.string ((rd_T32 l0 x7_1).f1)) ∧ w'.cell? ⟨(ad416.add ((x7_1).toNat * 5)).block, (ad416.add ((x7_1).toNat * 5)).off + 2, none⟩ = some (.string ((rd_T32 l0 x7_1).f2)) ∧ w'.cell? ⟨(ad416.add ((x7_1).toNat * 5)).block, (ad416.add ((x7_1).toNat * 5)).off + 3, none⟩ = some (.slice A416_3 ((rd_T32 l0 x7_1).f3).length c416_3) ∧ w'.cell? ⟨(ad416.add ((x7_1).toNat * 5)).block, (ad416.add ((x7_1).toNat * 5)).off + 4, none⟩ = some (.bool ((rd_T32 l0 x7_1).f4)) ∧ w'.cell? (ad417.add ((x7_1).toNat * 5)) = some (.int .i64 ((rd_T32 l1 x7_1).f0)) ∧ w'.cell? ⟨(ad417.add ((x7_1).toNat * 5)).block, (ad417.add ((x7_1).toNat * 5)).off + 1, none⟩ = some (.string ((rd_T32 l1 x7_1).f1)) ∧ w'.cell? ⟨(ad417.add ((x7_1).toNat * 5)).block, (ad417.add ((x7_1).toNat * 5)).off + 2, none⟩ = some (.string ((rd_T32 l1 x7_1).f2)) ∧ w'.cell? ⟨(ad417.add ((x7_1).toNat * 5)).block, (ad417.add ((x7_1).toNat * 5)).off + 3, none⟩ = some (.slice A417_3 ((rd_T32 l1 x7_1).f3).length c417_3) ∧ w'.cell? ⟨(ad417.add ((x7_1).toNat * 5)).block, (ad417.add ((x7_1).toNat * 5)).off + 4, none⟩ = some (.bool ((rd_T32 l1 x7_1).f4))) (ds := []) #[false, false, false, false, false, false, false, false, false, false, false] (by kernel_rfl) rfl rfl ⟨((HB.out.cell (World.block_lt_of_cell? w _ hw416_0)).trans hw416_0), ((HB.out.cell (World.block_lt_of_cell? w _ hw416_1)).trans hw416_1), ((HB.out.cell (World.block_lt_of_cell? w _ hw416_2)).trans hw416_2), ((HB.out.cell (World.block_lt_of_cell? w _ hw416_3)).trans hw416_3), ((HB.out.cell (World.block_lt_of_cell? w _ hw416_4)).trans hw416_4), ((HB.out.cell (World.block_lt_of_cell? w _ hw417_0)).trans hw417_0), ((HB.out.cell (World.block_lt_of_cell? w _ hw417_1)).trans hw417_1), ((HB.out.cell (World.block_lt_of_cell? w _ hw417_2)).trans hw417_2), ((HB.out.cell (World.block_lt_of_cell? w _ hw417_3)).trans hw417_3), ((HB.out.cell (World.block_lt_of_cell? w _ hw417_4)).trans hw417_4)⟩ (fun hHeld => ?_); refine with_tabW api_Token.tab6 api_Token.bits6 (fun HT_ HW_ => ?_)
  generalize wr.drew = w10 at HB HR416_3 HR417_3 hx416_0 hx416_1 hx416_2 hx416_3 hx416_4 hx417_0 hx417_1 hx417_2 hx417_3 hx417_4 hHeld ⊢
  refine pz 0 (some 19) HT_ ?_
  refine pz 1 (some 20) HT_ ?_
  refine pz 2 (some 21) HT_ ?_
  refine pz 3 (some 22) HT_ ?_
  refine pz 5 (some 24) HT_ ?_
  refine pz 6 (some 25) HT_ ?_
  refine pz 7 (some 26) HT_ ?_
  refine tm 4 (some 23) HT_ HW_ hHeld ?_
  refine tm 8 (some 27) HT_ HW_ hHeld ?_
  refine on 9 (some 28) HT_ (fun K hK => ?_)
  first | (refine goes_ Try.func17 (by kernel_rfl) rfl #[.agg #[.int .i64 ((rd_T32 l0 x7_1).f0), .string ((rd_T32 l0 x7_1).f1), .string ((rd_T32 l0 x7_1).f2), .slice A416_3 ((rd_T32 l0 x7_1).f3).length c416_3, .bool ((rd_T32 l0 x7_1).f4)], .agg #[.int .i64 ((rd_T32 l1 x7_1).f0), .string ((rd_T32 l1 x7_1).f1), .string ((rd_T32 l1 x7_1).f2), .slice A417_3 ((rd_T32 l1 x7_1).f3).length c417_3, .bool ((rd_T32 l1 x7_1).f4)]] (by rfl) rfl rfl mA ?_) | (refine goesV_ Try.func17 (by kernel_rfl) rfl #[.agg #[.int .i64 ((rd_T32 l0 x7_1).f0), .string ((rd_T32 l0 x7_1).f1), .string ((rd_T32 l0 x7_1).f2), .slice A416_3 ((rd_T32 l0 x7_1).f3).length c416_3, .bool ((rd_T32 l0 x7_1).f4)], .agg #[.int .i64 ((rd_T32 l1 x7_1).f0), .string ((rd_T32 l1 x7_1).f1), .string ((rd_T32 l1 x7_1).f2), .slice A417_3 ((rd_T32 l1 x7_1).f3).length c417_3, .bool ((rd_T32 l1 x7_1).f4)]] (by rfl) rfl rfl rfl mA ?_)
  with_reducible refine (newelhelp_Token.calls k1 ((rd_T32 l0 x7_1).f0) ((rd_T32 l0 x7_1).f1) ((rd_T32 l0 x7_1).f2) _ _ ((rd_T32 l0 x7_1).f3) ((rd_T32 l0 x7_1).f4) ((rd_T32 l1 x7_1).f0) ((rd_T32 l1 x7_1).f1) ((rd_T32 l1 x7_1).f2) _ _ ((rd_T32 l1 x7_1).f3) ((rd_T32 l1 x7_1).f4) true _ ?side1 ?side2 ?side3 ?side4 (gS HG) A8.out).mono ?_
  (case side1 => repeat (first | exact (Kd.C_below HR416_3.out HB.out) | (with_reducible refine Kd.C_alloc ?_ _) | (with_reducible refine Kd.C_drewN ?_ _) | (with_reducible refine Kd.C_drew ?_)))
  (case side2 => exact HC416_3.out)
  (case side3 => repeat (first | exact (Kd.C_below HR417_3.out HB.out) | (with_reducible refine Kd.C_alloc ?_ _) | (with_reducible refine Kd.C_drewN ?_ _) | (with_reducible refine Kd.C_drew ?_)))
  (case side4 => exact HC417_3.out)
  rintro e w11 ⟨rfl, hb⟩
  refine ⟨_, rfl, ?_⟩
  replace HB := sB hb
  (try clear hb)
  refine hK.out _ _ ⟨((HB.out.cell (World.block_lt_of_cell? w _ hw416_0)).trans hw416_0), ((HB.out.cell (World.block_lt_of_cell? w _ hw416_1)).trans hw416_1), ((HB.out.cell (World.block_lt_of_cell? w _ hw416_2)).trans hw416_2), ((HB.out.cell (World.block_lt_of_cell? w _ hw416_3)).trans hw416_3), ((HB.out.cell (World.block_lt_of_cell? w _ hw416_4)).trans hw416_4), ((HB.out.cell (World.block_lt_of_cell? w _ hw417_0)).trans hw417_0), ((HB.out.cell (World.block_lt_of_cell? w _ hw417_1)).trans hw417_1), ((HB.out.cell (World.block_lt_of_cell? w _ hw417_2)).trans hw417_2), ((HB.out.cell (World.block_lt_of_cell? w _ hw417_3)).trans hw417_3), ((HB.out.cell (World.block_lt_of_cell? w _ hw417_4)).trans hw417_4)⟩ (fun hHeld => ?_)
  clear hK K
  refine nz (some 28) ?_
  refine pz 10 (some 29) HT_ ?_
  refine done_ (done_of HT_.out (by kernel_rfl)) ?_
  try go_wp2
  go_roundg k1
  case measure => have := HK1.out; omega
  case rel => exact ⟨(wrap64 (x7_1 + 1)), cA, H', ⟨by have := HK1.out; omega⟩, ⟨bE⟩⟩
end Go.Proofs.Ytomikblbfappnaa.Q
