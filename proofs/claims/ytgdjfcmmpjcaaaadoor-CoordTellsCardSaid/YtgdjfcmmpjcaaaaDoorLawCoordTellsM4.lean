/- Texts put together: what functions of the program compute, and plain words about them. -/
import Derived.Test.YtgdjfcmmpjcaaaaDoorLawCoordTellsM1
import Derived.Test.YtgdjfcmmpjcaaaaDoorLawCoordTellsM2
namespace Go.Proofs.YtgdjfcmmpjcaaaaDoor.Q
open Go.RowKit Go.Proofs.YtgdjfcmmpjcaaaaDoorW.PrintWords Go.Proofs.YtgdjfcmmpjcaaaaDoorW.PrintLast Go.Proofs.YtgdjfcmmpjcaaaaDoorW.Own Go.Proofs.YtgdjfcmmpjcaaaaDoorW.PrintMore
attribute [local go_sem] max2_int min2_int max_two min_two max_three min_three max_four min_four   -- for this text's walks alone
set_option linter.unusedVariables false
set_option linter.unusedSimpArgs false
set_option maxHeartbeats 20000000
set_option maxRecDepth 100000
def newelref05_parts.l0 : Nat → ByteArray → List (S98) → Int → Option ((List (S98)))
 | 0, _, _, _ => none
 | k + 1, x0, x3, x4 => if x4 < (x0.size : Int) then (if 0 ≤ (wrap64 ((x3.length : Int) - 1)) then (if (wrap64 ((x3.length : Int) - 1)) < (x3.length : Int) then (if 0 ≤ x4 then (if (bt x0 x4) = 46 then (if x3.length < 5864062014805 then (newelref05_parts.l0 k x0 (x3 ++ [(⟨(⟨#[]⟩ : ByteArray), ((bt x0 x4) == 45), false⟩ : S98)]) (wrap64 (x4 + 1))) else (none)) else (if (bt x0 x4) = 45 then (if x3.length < 5864062014805 then (newelref05_parts.l0 k x0 (x3 ++ [(⟨(⟨#[]⟩ : ByteArray), true, false⟩ : S98)]) (wrap64 (x4 + 1))) else (none)) else (if ((rd_T98 x3 (wrap64 ((x3.length : Int) - 1))).f0).toList = ([] : List UInt8) then (if x4 ≤ (wrap64 (x4 + 1)) then (if (wrap64 (x4 + 1)) ≤ (x0.size : Int) then (if ((rd_T98 x3 (wrap64 ((x3.length : Int) - 1))).f0).size + (x0.extract (x4 : Int).toNat ((wrap64 (x4 + 1)) : Int).toNat).size ≤ 9223372036854775807 then (newelref05_parts.l0 k x0 (x3.set ((wrap64 ((x3.length : Int) - 1)) : Int).toNat (⟨((rd_T98 x3 (wrap64 ((x3.length : Int) - 1))).f0) ++ (x0.extract (x4 : Int).toNat ((wrap64 (x4 + 1)) : Int).toNat), (rd_T98 x3 (wrap64 ((x3.length : Int) - 1))).f1, (rd_T98 x3 (wrap64 ((x3.length : Int) - 1))).f2⟩ : S98)) (wrap64 (x4 + 1))) else (none)) else (none)) else (none)) else (if 0 ≤ (wrap64 ((((rd_T98 x3 (wrap64 ((x3.length : Int) - 1))).f0).size : Int) - 1)) then (if (wrap64 ((((rd_T98 x3 (wrap64 ((x3.length : Int) - 1))).f0).size : Int) - 1)) < (((rd_T98 x3 (wrap64 ((x3.length : Int) - 1))).f0).size : Int) then ((newelref01_Digit.f (bt ((rd_T98 x3 (wrap64 ((x3.length : Int) - 1))).f0) (wrap64 ((((rd_T98 x3 (wrap64 ((x3.length : Int) - 1))).f0).size : Int) - 1)))).bind fun t238 => ((newelref01_Digit.f (bt x0 x4)).bind fun t239 => (if (t238 != t239) = true then ((newelref01_Digit.f (bt x0 x4)).bind fun t240 => ((some (x3.set ((wrap64 ((x3.length : Int) - 1)) : Int).toNat (⟨(rd_T98 x3 (wrap64 ((x3.length : Int) - 1))).f0, (rd_T98 x3 (wrap64 ((x3.length : Int) - 1))).f1, t240⟩ : S98) : List (S98))).bind fun y241 => (if y241.length < 5864062014805 then ((some (y241 ++ [(⟨(⟨#[]⟩ : ByteArray), true, false⟩ : S98)] : List (S98))).bind fun y242 => (if 0 ≤ (wrap64 ((y242.length : Int) - 1)) then (if (wrap64 ((y242.length : Int) - 1)) < (y242.length : Int) then (if x4 ≤ (wrap64 (x4 + 1)) then (if (wrap64 (x4 + 1)) ≤ (x0.size : Int) then (if ((rd_T98 y242 (wrap64 ((y242.length : Int) - 1))).f0).size + (x0.extract (x4 : Int).toNat ((wrap64 (x4 + 1)) : Int).toNat).size ≤ 9223372036854775807 then (newelref05_parts.l0 k x0 (y242.set ((wrap64 ((y242.length : Int) - 1)) : Int).toNat (⟨((rd_T98 y242 (wrap64 ((y242.length : Int) - 1))).f0) ++ (x0.extract (x4 : Int).toNat ((wrap64 (x4 + 1)) : Int).toNat), (rd_T98 y242 (wrap64 ((y242.length : Int) - 1))).f1, (rd_T98 y242 (wrap64 ((y242.length : Int) - 1))).f2⟩ : S98)) (wrap64 (x4 + 1))) else (none)) else (none)) else (none)) else (none)) else (none))) else (none)))) else (if x4 ≤ (wrap64 (x4 + 1)) then (if (wrap64 (x4 + 1)) ≤ (x0.size : Int) then (if ((rd_T98 x3 (wrap64 ((x3.length : Int) - 1))).f0).size + (x0.extract (x4 : Int).toNat ((wrap64 (x4 + 1)) : Int).toNat).size ≤ 9223372036854775807 then (newelref05_parts.l0 k x0 (x3.set ((wrap64 ((x3.length : Int) - 1)) : Int).toNat (⟨((rd_T98 x3 (wrap64 ((x3.length : Int) - 1))).f0) ++ (x0.extract (x4 : Int).toNat ((wrap64 (x4 + 1)) : Int).toNat), (rd_T98 x3 (wrap64 ((x3.length : Int) - 1))).f1, (rd_T98 x3 (wrap64 ((x3.length : Int) - 1))).f2⟩ : S98)) (wrap64 (x4 + 1))) else (none)) else (none)) else (none))))) else (none)) else (none))))) else (none)) else (none)) else (none)) else (some x3)
def newelref05_parts.f (k : Nat) (a0 : ByteArray) : Option ((List (S98))) := newelref05_parts.l0 k a0 (([(⟨(⟨#[]⟩ : ByteArray), false, false⟩ : S98)] : List (S98))) 0
def newelref05_parts.T8 : Bool × List (List Nat × List Nat) := (true, [([], []), ([0], [0]), ([1], [1]), ([2], [2]), ([3], [3]), ([4], [4]), ([5], [5]), ([6, 5], [5, 6]), ([7, 5], [5, 7]), ([8, 5], [5, 8]), ([5], [5]), ([10, 5], [5, 10]), ([11, 5], [5, 11]), ([12, 5], [5, 12]), ([13, 5], [5, 13]), ([14, 5], [5, 14]), ([9, 15, 5], [5, 9, 15]), ([16, 5, 5], [5, 16]), ([5], [5]), ([5], [5]), ([18, 19, 5], [5, 18, 19]), ([20, 17, 5], [5, 20]), ([17, 21, 5], [5, 17, 21]), ([5, 22], [5, 22])])
def newelref05_parts.B8 : List Nat := [0, 1, 3, 7, 15, 31, 63, 127, 255, 511, 63, 1087, 3135, 7231, 15423, 31807, 65535, 131071, 63, 63, 786495, 2097151, 4194303, 8388607]
theorem newelref05_parts.tab8 : rtab .any (opsOf Tryd.f75 8) = newelref05_parts.T8 := by kernel_rfl
theorem newelref05_parts.bits8 : waitsOk newelref05_parts.T8.2 newelref05_parts.B8 = true := by kernel_rfl
def newelref05_parts.T12 : Bool × List (List Nat × List Nat) := (true, [([], []), ([], []), ([1], [1]), ([2], [2]), ([3], [3]), ([], []), ([], []), ([], []), ([7], [7]), ([5, 6, 8], [5, 6, 8]), ([4, 9], [4, 9]), ([0, 0, 1, 2, 3, 4, 5, 6, 7, 8, 9, 10], [0]), ([11, 0, 1, 2, 3, 4, 5, 6, 7, 8, 9, 10], [11]), ([12, 10, 0, 1, 2, 3, 4, 5, 6, 7, 8, 9, 10], [10, 12])])
def newelref05_parts.B12 : List Nat := [0, 0, 2, 6, 14, 0, 0, 0, 128, 480, 1022, 2047, 4095, 8191]
theorem newelref05_parts.tab12 : rtab .any (opsOf Tryd.f75 12) = newelref05_parts.T12 := by kernel_rfl
theorem newelref05_parts.bits12 : waitsOk newelref05_parts.T12.2 newelref05_parts.B12 = true := by kernel_rfl
theorem newelref05_parts.calls (k : Nat) (a0 : ByteArray) (r : List (S98)) (w : World) (hG : Glob w) (h : newelref05_parts.f k a0 = some r) :
 Calls Tryd.prog 75 #[.string a0] w fun e w' => ∃ v0_ : Value, e = .returned (v0_) ∧ Kd.R k98 98 w' w.heap.size (fun _ => True) v0_ r ∧ Below w.heap.size w w' := by
 have hu98 := Tryd.underlying98
 have HG := Aside0.mk hG
 clear hG
 have HB := Aside0.mk (Below.refl w.heap.size w)
 have H : (newelref05_parts.l0 k a0 (([(⟨(⟨#[]⟩ : ByteArray), false, false⟩ : S98)] : List (S98))) 0) = some r := h
 clear h
 obtain ⟨y224, hy224⟩ : ∃ y_ : List (S98), y_ = (([(⟨(⟨#[]⟩ : ByteArray), false, false⟩ : S98)] : List (S98))) := ⟨_, rfl⟩
 replace H : (newelref05_parts.l0 k a0 y224 0) = some r := by first | (rw [hy224]; with_reducible exact H) | (have H2_ := (Option.bind_some _ _).symm.trans H; rw [hy224]; with_reducible exact H2_) | (have H2_ := (Option.bind_some _ _).symm.trans H; with_reducible exact H2_) | with_reducible exact H | (rw [hy224]; exact H) | exact H
 have Ny224 := Aside0.mk hy224
 clear hy224
 have H' := Aside0.mk H
 clear H
 go_enter Tryd.func75, Tryd.ntmps75
 go_wp2_with (first | ((with_reducible refine gate_dst (N := 7) rfl ?_); (try (refine gate_guard (by rfl) ?_; dsimp only)); refine Kd.R_lit k98 _ 98 ?hg (N := 7) ?hd (xs := ([(⟨(⟨#[]⟩ : ByteArray), false, false⟩ : S98)] : List (S98))) (inner := [.string (⟨#[]⟩ : ByteArray), .bool false, .bool false]) (ok := fun _ => True) (okp := fun _ => True) ?hr ?hp (fun _ hk => hk) trivial (Below.refl _ _) (Nat.le_refl _) (by simp) ?_; (case hd => rfl); (case hg => rfl); (case hr => first | (go_simp; done) | (go_simp; rfl)); (case hp => exact (Reps.c3 (show Kd.M k98 _ _ _ (⟨(⟨#[]⟩ : ByteArray), false, false⟩ : S98) [.string (⟨#[]⟩ : ByteArray), .bool false, .bool false] from (k98_mkM _ _ _ (⟨(⟨#[]⟩ : ByteArray), false, false⟩ : S98) )) (Reps.none _ _))); intro v225 w2 ho3 hb hg_ hnew_; clear hg_ hnew_; (first | rw [← Ny224.out] at ho3 | (simp only [Int.reduceToNat] at ho3; rw [← Ny224.out] at ho3)); have HO226 := Aside0.mk (Kd.R_lower ho3 (below_size bE)); replace HB := sB hb; clear hb ho3))
 (try simp only [Act.put, List.setIfInBounds_toArray, List.set_cons_zero, List.set_cons_succ])
 go_loopg [3, 4] k (fun kq v3 v4 w' => ∃ (x3_1 : List (S98)) (x4_1 : Int), v4 = .int .i64 x4_1 ∧ Aside0 (newelref05_parts.l0 kq a0 x3_1 x4_1 = some r) ∧ Aside0 (kq ≤ k) ∧ Aside0 (Kd.R k98 98 w' w.heap.size (fun _ => True) v3 x3_1) ∧ Aside0 (Below w.heap.size w w'))
 case atStart => exact ⟨(y224), (0), cA, H', ⟨Nat.le_refl _⟩, ⟨kR HO226⟩, ⟨bE⟩⟩
 clear H'
 try clear p2
 try clear c3
 obtain ⟨x3_1, x4_1, rfl, HA, HK1, HO_3, HB⟩ := hrel
 cases gk with
 | zero => exact absurd HA.out (by simp [newelref05_parts.l0])
 | succ k1 =>
  have H := HA.out
  clear HA
  simp only [newelref05_parts.l0] at H
  by_cases c4 : x4_1 < (a0.size : Int)
  rotate_left
  ·rw [if_neg c4] at H
   have c4b0 := dF c4
   clear c4
   obtain rfl := Option.some.inj H
   go_wp2
   go_ret
   exact ⟨_, by first | rfl | (simp [errW_none, errW_some] <;> rfl) | (simp [*, errW_none, errW_some] <;> rfl), by (with_reducible repeat (first | apply Kd.R_alloc | apply Kd.R_drewN | apply Kd.R_drew)); exact HO_3.out, bE⟩
  rw [if_pos c4] at H
  have c4b0 := dT c4
  clear c4
  obtain ⟨ji5, hji5⟩ : ∃ j_ : Int, (wrap64 ((x3_1.length : Int) - 1)) = j_ := ⟨_, rfl⟩
  rw [hji5] at H
  have hji5w : (IntKind.i64.wrap ((x3_1.length : Int) - 1)) = ji5 := (i64_w _).trans hji5
  obtain ⟨c6, H⟩ := gp H
  have c6b0 := dT c6
  clear c6
  obtain ⟨c7, H⟩ := gp H
  have c7b0 := dT c7
  clear c7
  obtain ⟨c9, H⟩ := gp H
  have c9b0 := dT c9
  clear c9
  by_cases c11 : (bt a0 x4_1) = 46
  ·rw [if_pos c11] at H
   obtain ⟨c11b0, c11b1⟩ := eqT c11
   clear c11
   obtain ⟨c13, H⟩ := gp H
   have LMc13 := Aside0.mk c13
   clear c13
   obtain ⟨y227, hy227⟩ : ∃ y_ : List (S98), y_ = (x3_1 ++ [(⟨(⟨#[]⟩ : ByteArray), ((bt a0 x4_1) == 45), false⟩ : S98)]) := ⟨_, rfl⟩
   replace H : (newelref05_parts.l0 k1 a0 y227 (wrap64 (x4_1 + 1))) = some r := by first | (rw [hy227]; with_reducible exact H) | (have H2_ := (Option.bind_some _ _).symm.trans H; rw [hy227]; with_reducible exact H2_) | (have H2_ := (Option.bind_some _ _).symm.trans H; with_reducible exact H2_) | with_reducible exact H | (rw [hy227]; exact H) | exact H
   have Ny227 := Aside0.mk hy227
   clear hy227
   have H' := Aside0.mk H
   clear H
   obtain ⟨Ao14, co14, eo14⟩ := Kd.R_slice HO_3.out
   subst eo14
   have p8 : 0 ≤ ((ji5) : Int) := dA
   have q8 : ((ji5) : Int) < ((x3_1.length : Int) : Int) := dA
   obtain ⟨go8, co8, eo8, gb8, gl8, cl8, HG8⟩ := Kd.R_form HO_3.out (by omega)
   (first | cases eo8 | (injection eo8 with ea_ en_ ec_; (first | subst ea_ | (injection ea_ with ea_; subst ea_)); subst ec_; clear en_))
   have GB8 := Aside0.mk gb8
   have GG8 := Aside0.mk HG8
   clear gb8 gl8 HG8
   obtain ⟨ce8, hcl8, hM8, hcc8, hfr8⟩ := Kd.R_elem HO_3.out z98 ((ji5) : Int) p8 q8
   obtain rfl := k98_openM hM8
   have hx8_0 : wr.cell? ⟨go8, ((ji5) : Int).toNat * 3, none⟩ = some (.string ((rd_T98 x3_1 (ji5)).f0)) := hcc8 0 _ rfl
   have hx8_1 : wr.cell? ⟨go8, ((ji5) : Int).toNat * 3 + 1, none⟩ = some (.bool ((rd_T98 x3_1 (ji5)).f1)) := hcc8 1 _ rfl
   have hx8_2 : wr.cell? ⟨go8, ((ji5) : Int).toNat * 3 + 2, none⟩ = some (.bool ((rd_T98 x3_1 (ji5)).f2)) := hcc8 2 _ rfl
   have hf8_0 : wr.frozen? ⟨go8, ((ji5) : Int).toNat * 3, none⟩ = false := hfr8 0
   have hf8_1 : wr.frozen? ⟨go8, ((ji5) : Int).toNat * 3 + 1, none⟩ = false := hfr8 1
   have hf8_2 : wr.frozen? ⟨go8, ((ji5) : Int).toNat * 3 + 2, none⟩ = false := hfr8 2
   clear hcl8 hcc8 hfr8 hM8
   replace p8 := eq_true p8
   replace q8 := eq_true q8
   have p10 : 0 ≤ (x4_1 : Int) := dA
   have q10 : x4_1 < (a0.size : Int) := dA
   have hx10 := bt_at a0 x4_1
   replace p10 := eq_true p10
   replace q10 := eq_true q10
   have p12 : 0 ≤ (x4_1 : Int) := dA
   have q12 : x4_1 < (a0.size : Int) := dA
   have hx12 := bt_at a0 x4_1
   replace p12 := eq_true p12
   replace q12 := eq_true q12
   go_wp2_with (first | ((with_reducible refine gate_builtin (b := .append) (xs := #[.tmp 29, .tmp 35]) rfl ?_); (try (refine gate_guard (by rfl) ?_; dsimp only)); at_builtin; refine Kd.R_append k98 (w0 := w) w.heap.size rfl (.tmp 29) (.tmp 35) 94 98 (.agg #[(.string ⟨#[]⟩), (.bool false), (.bool false)]) 24 rfl Tryd.underlying94 info98 rfl (by decide) (by omega) (.slice (some ⟨go8, 0, none⟩) x3_1.length co14) x3_1 (⟨(⟨#[]⟩ : ByteArray), ((bt a0 x4_1) == 45), false⟩ : S98) [.string (⟨#[]⟩ : ByteArray), .bool ((bt a0 x4_1) == 45), .bool false] (fun _ => True) (fun _ => False) rfl rfl ?aP (fun _ hk => hk.elim) ?aF ?aO ?aB ?aS ?aL ?_; (case aP => exact k98_mkM _ _ _ (⟨(⟨#[]⟩ : ByteArray), ((bt a0 x4_1) == 45), false⟩ : S98)); (case aB => exact bE); (case aF => exact (fun _ _ => trivial)); (case aO => exact (kR HO_3)); (case aS => exact (below_size bE)); (case aL => have := LMc13.out; omega); intro v228 w15 ho hb hg hat; rw [← Ny227.out] at ho; replace HB := Aside0.mk (hb); have HO229 := Aside0.mk (ho); clear HO_3; clear ho hb hg hat))
   go_roundg k1
   case measure => have := HK1.out; omega
   case rel => exact ⟨(y227), (wrap64 (x4_1 + 1)), cA, H', ⟨by have := HK1.out; omega⟩, ⟨kR HO229⟩, ⟨bE⟩⟩
  rw [if_neg c11] at H
  obtain ⟨c11b0, c11b1⟩ := eqF c11
  by_cases c17 : (bt a0 x4_1) = 45
  ·rw [if_pos c17] at H
   obtain ⟨c17b0, c17b1⟩ := eqT c17
   clear c17
   obtain ⟨c19, H⟩ := gp H
   have LMc19 := Aside0.mk c19
   clear c19
   obtain ⟨y230, hy230⟩ : ∃ y_ : List (S98), y_ = (x3_1 ++ [(⟨(⟨#[]⟩ : ByteArray), true, false⟩ : S98)]) := ⟨_, rfl⟩
   replace H : (newelref05_parts.l0 k1 a0 y230 (wrap64 (x4_1 + 1))) = some r := by first | (rw [hy230]; with_reducible exact H) | (have H2_ := (Option.bind_some _ _).symm.trans H; rw [hy230]; with_reducible exact H2_) | (have H2_ := (Option.bind_some _ _).symm.trans H; with_reducible exact H2_) | with_reducible exact H | (rw [hy230]; exact H) | exact H
   have Ny230 := Aside0.mk hy230
   clear hy230
   have H' := Aside0.mk H
   clear H
   obtain ⟨Ao20, co20, eo20⟩ := Kd.R_slice HO_3.out
   subst eo20
   have p8 : 0 ≤ ((ji5) : Int) := dA
   have q8 : ((ji5) : Int) < ((x3_1.length : Int) : Int) := dA
   obtain ⟨go8, co8, eo8, gb8, gl8, cl8, HG8⟩ := Kd.R_form HO_3.out (by omega)
   (first | cases eo8 | (injection eo8 with ea_ en_ ec_; (first | subst ea_ | (injection ea_ with ea_; subst ea_)); subst ec_; clear en_))
   have GB8 := Aside0.mk gb8
   have GG8 := Aside0.mk HG8
   clear gb8 gl8 HG8
   obtain ⟨ce8, hcl8, hM8, hcc8, hfr8⟩ := Kd.R_elem HO_3.out z98 ((ji5) : Int) p8 q8
   obtain rfl := k98_openM hM8
   have hx8_0 : wr.cell? ⟨go8, ((ji5) : Int).toNat * 3, none⟩ = some (.string ((rd_T98 x3_1 (ji5)).f0)) := hcc8 0 _ rfl
   have hx8_1 : wr.cell? ⟨go8, ((ji5) : Int).toNat * 3 + 1, none⟩ = some (.bool ((rd_T98 x3_1 (ji5)).f1)) := hcc8 1 _ rfl
   have hx8_2 : wr.cell? ⟨go8, ((ji5) : Int).toNat * 3 + 2, none⟩ = some (.bool ((rd_T98 x3_1 (ji5)).f2)) := hcc8 2 _ rfl
   have hf8_0 : wr.frozen? ⟨go8, ((ji5) : Int).toNat * 3, none⟩ = false := hfr8 0
   have hf8_1 : wr.frozen? ⟨go8, ((ji5) : Int).toNat * 3 + 1, none⟩ = false := hfr8 1
   have hf8_2 : wr.frozen? ⟨go8, ((ji5) : Int).toNat * 3 + 2, none⟩ = false := hfr8 2
   clear hcl8 hcc8 hfr8 hM8
   replace p8 := eq_true p8
   replace q8 := eq_true q8
   have p10 : 0 ≤ (x4_1 : Int) := dA
   have q10 : x4_1 < (a0.size : Int) := dA
   have hx10 := bt_at a0 x4_1
   replace p10 := eq_true p10
   replace q10 := eq_true q10
   have p16 : 0 ≤ (x4_1 : Int) := dA
   have q16 : x4_1 < (a0.size : Int) := dA
   have hx16 := bt_at a0 x4_1
   replace p16 := eq_true p16
   replace q16 := eq_true q16
   have p18 : 0 ≤ (x4_1 : Int) := dA
   have q18 : x4_1 < (a0.size : Int) := dA
   have hx18 := bt_at a0 x4_1
   replace p18 := eq_true p18
   replace q18 := eq_true q18
   go_wp2_with (first | ((with_reducible refine gate_builtin (b := .append) (xs := #[.tmp 29, .tmp 35]) rfl ?_); (try (refine gate_guard (by rfl) ?_; dsimp only)); at_builtin; refine Kd.R_append k98 (w0 := w) w.heap.size rfl (.tmp 29) (.tmp 35) 94 98 (.agg #[(.string ⟨#[]⟩), (.bool false), (.bool false)]) 24 rfl Tryd.underlying94 info98 rfl (by decide) (by omega) (.slice (some ⟨go8, 0, none⟩) x3_1.length co20) x3_1 (⟨(⟨#[]⟩ : ByteArray), true, false⟩ : S98) [.string (⟨#[]⟩ : ByteArray), .bool true, .bool false] (fun _ => True) (fun _ => False) rfl rfl ?aP (fun _ hk => hk.elim) ?aF ?aO ?aB ?aS ?aL ?_; (case aP => exact k98_mkM _ _ _ (⟨(⟨#[]⟩ : ByteArray), true, false⟩ : S98)); (case aB => exact bE); (case aF => exact (fun _ _ => trivial)); (case aO => exact (kR HO_3)); (case aS => exact (below_size bE)); (case aL => have := LMc19.out; omega); intro v231 w21 ho hb hg hat; rw [← Ny230.out] at ho; replace HB := Aside0.mk (hb); have HO232 := Aside0.mk (ho); clear HO_3; clear ho hb hg hat))
   go_roundg k1
   case measure => have := HK1.out; omega
   case rel => exact ⟨(y230), (wrap64 (x4_1 + 1)), cA, H', ⟨by have := HK1.out; omega⟩, ⟨kR HO232⟩, ⟨bE⟩⟩
  rw [if_neg c17] at H
  obtain ⟨c17b0, c17b1⟩ := eqF c17
  by_cases c22 : ((rd_T98 x3_1 (ji5)).f0).toList = ([] : List UInt8)
  ·rw [if_pos c22] at H
   obtain ⟨c22b0, c22b1⟩ := eqT c22
   (try (have c22b2 : (((rd_T98 x3_1 (ji5)).f0).toList).isEmpty = true := by simpa using c22))
   clear c22
   have c24b0 := eq_true (dA : 0 ≤ x4_1)
   obtain ⟨c25, H⟩ := gp H
   have c25b0 := eq_true c25
   have c25b1 := dT c25
   obtain ⟨c26, H⟩ := gp H
   have c26b0 := eq_true c26
   have c26b1 := dT c26
   obtain ⟨c27, H⟩ := gp H
   have c27b0 := eq_true c27
   have c27b1 := dT c27
   try have c27b2 : (9223372036854775807 < ((rd_T98 x3_1 (ji5)).f0).size + (a0.extract (x4_1 : Int).toNat ((wrap64 (x4_1 + 1)) : Int).toNat).size) = False := eq_false (Nat.not_lt.2 c27)
   try have c27q : (9223372036854775807 < ((rd_T98 x3_1 (ji5)).f0).size + (((wrap64 (x4_1 + 1)) : Int).toNat - (x4_1 : Int).toNat)) = False := eq_false (by have z_ := c27; have y_ : ((wrap64 (x4_1 + 1)) : Int) ≤ ((a0).size : Int) := of_decide_eq_true (by assumption); simp only [ByteArray.size_extract] at z_; omega)
   obtain ⟨y235, hy235⟩ : ∃ y_ : List (S98), y_ = (x3_1.set ((ji5) : Int).toNat (⟨((rd_T98 x3_1 (ji5)).f0) ++ (a0.extract (x4_1 : Int).toNat ((wrap64 (x4_1 + 1)) : Int).toNat), (rd_T98 x3_1 (ji5)).f1, (rd_T98 x3_1 (ji5)).f2⟩ : S98)) := ⟨_, rfl⟩
   replace H : (newelref05_parts.l0 k1 a0 y235 (wrap64 (x4_1 + 1))) = some r := by first | (rw [hy235]; with_reducible exact H) | (have H2_ := (Option.bind_some _ _).symm.trans H; rw [hy235]; with_reducible exact H2_) | (have H2_ := (Option.bind_some _ _).symm.trans H; with_reducible exact H2_) | with_reducible exact H | (rw [hy235]; exact H) | exact H
   have Ny235 := Aside0.mk hy235
   clear hy235
   have H' := Aside0.mk H
   clear H
   obtain ⟨Ao29, co29, eo29⟩ := Kd.R_slice HO_3.out
   subst eo29
   have p8 : 0 ≤ ((ji5) : Int) := dA
   have q8 : ((ji5) : Int) < ((x3_1.length : Int) : Int) := dA
   obtain ⟨go8, co8, eo8, gb8, gl8, cl8, HG8⟩ := Kd.R_form HO_3.out (by omega)
   (first | cases eo8 | (injection eo8 with ea_ en_ ec_; (first | subst ea_ | (injection ea_ with ea_; subst ea_)); subst ec_; clear en_))
   have GB8 := Aside0.mk gb8
   have GG8 := Aside0.mk HG8
   clear gb8 gl8 HG8
   obtain ⟨ce8, hcl8, hM8, hcc8, hfr8⟩ := Kd.R_elem HO_3.out z98 ((ji5) : Int) p8 q8
   obtain rfl := k98_openM hM8
   have hx8_0 : wr.cell? ⟨go8, ((ji5) : Int).toNat * 3, none⟩ = some (.string ((rd_T98 x3_1 (ji5)).f0)) := hcc8 0 _ rfl
   have hx8_1 : wr.cell? ⟨go8, ((ji5) : Int).toNat * 3 + 1, none⟩ = some (.bool ((rd_T98 x3_1 (ji5)).f1)) := hcc8 1 _ rfl
   have hx8_2 : wr.cell? ⟨go8, ((ji5) : Int).toNat * 3 + 2, none⟩ = some (.bool ((rd_T98 x3_1 (ji5)).f2)) := hcc8 2 _ rfl
   have hf8_0 : wr.frozen? ⟨go8, ((ji5) : Int).toNat * 3, none⟩ = false := hfr8 0
   have hf8_1 : wr.frozen? ⟨go8, ((ji5) : Int).toNat * 3 + 1, none⟩ = false := hfr8 1
   have hf8_2 : wr.frozen? ⟨go8, ((ji5) : Int).toNat * 3 + 2, none⟩ = false := hfr8 2
   clear hcl8 hcc8 hfr8 hM8
   replace p8 := eq_true p8
   replace q8 := eq_true q8
   have p10 : 0 ≤ (x4_1 : Int) := dA
   have q10 : x4_1 < (a0.size : Int) := dA
   have hx10 := bt_at a0 x4_1
   replace p10 := eq_true p10
   replace q10 := eq_true q10
   have p16 : 0 ≤ (x4_1 : Int) := dA
   have q16 : x4_1 < (a0.size : Int) := dA
   have hx16 := bt_at a0 x4_1
   replace p16 := eq_true p16
   replace q16 := eq_true q16
   try go_wp2
   replace HO_3 := Aside0.mk (Kd.R_drew HO_3.out)
   replace HB := Aside0.mk (below_drew1 HB.out)
   have p233 : 0 ≤ ((ji5) : Int) := dA
   have q233 : (ji5) < (x3_1.length : Int) := dA
   obtain ⟨ad233, e233, hx233_0, hx233_1, hx233_2⟩ := at_T98 (Kd.R_reads' HO_3.out).2.2 (ji5) p233 q233
   obtain rfl : (⟨go8, 0, none⟩ : Addr) = ad233 := (by injection e233)
   (first | simp only [add_plain] at hx233_0 | simp only [add_at] at hx233_0 | simp only [Addr.add, Nat.zero_add] at hx233_0 | skip)
   (first | simp only [add_plain] at hx233_1 | simp only [add_at] at hx233_1 | simp only [Addr.add, Nat.zero_add] at hx233_1 | skip)
   (first | simp only [add_plain] at hx233_2 | simp only [add_at] at hx233_2 | simp only [Addr.add, Nat.zero_add] at hx233_2 | skip)
   replace p233 := eq_true p233
   replace q233 := eq_true q233
   refine start_ (n := 24) (S := fun w' => w'.cell? ⟨go8, ((ji5)).toNat * 3, none⟩ = some (.string ((rd_T98 x3_1 (ji5)).f0)) ∧ w'.cell? ⟨go8, ((ji5)).toNat * 3 + 1, none⟩ = some (.bool ((rd_T98 x3_1 (ji5)).f1)) ∧ w'.cell? ⟨go8, ((ji5)).toNat * 3 + 2, none⟩ = some (.bool ((rd_T98 x3_1 (ji5)).f2))) (ds := []) #[false, false, false, false, false, false, false, false, false, false, false, false, false, false, false, false, false, false, false, false, false, false, false, false] (by kernel_rfl) rfl rfl ⟨hx233_0, hx233_1, hx233_2⟩ (fun hHeld => ?_); refine with_tabW newelref05_parts.tab8 newelref05_parts.bits8 (fun HT_ HW_ => ?_)
   generalize wr.drew = w30 at HO_3 HB hx233_0 hx233_1 hx233_2 hHeld ⊢
   refine pz 0 (some 37) HT_ ?_
   refine pz 1 (some 38) HT_ ?_
   refine pz 2 (some 39) HT_ ?_
   refine tm 3 (some 40) HT_ HW_ hHeld ?_
   refine pz 4 (some 41) HT_ ?_
   refine pz 5 (some 42) HT_ ?_
   refine pu 6 (some 43) HT_ ?_
   refine pu 7 (some 44) HT_ ?_
   refine pu 8 (some 45) HT_ ?_
   refine pu 9 (some 46) HT_ ?_
   refine pu 10 (some 47) HT_ ?_
   refine pu 11 (some 48) HT_ ?_
   refine pu 12 (some 49) HT_ ?_
   refine pu 13 (some 50) HT_ ?_
   refine pu 14 (some 51) HT_ ?_
   refine pu 15 (some 52) HT_ ?_
   refine pu 16 (some 53) HT_ ?_
   refine pu 17 (some 54) HT_ ?_
   refine pu 18 (some 55) HT_ ?_
   refine pu 19 (some 56) HT_ ?_
   refine pu 20 (some 57) HT_ ?_
   refine pu 21 (some 58) HT_ ?_
   refine pu 22 (some 59) HT_ ?_
   refine pz 23 (some 60) HT_ ?_
   refine done_ (done_of HT_.out (by kernel_rfl)) ?_
   have p23 : 0 ≤ ((ji5) : Int) := dA
   have q23 : ((ji5) : Int) < ((x3_1.length : Int) : Int) := dA
   obtain ⟨ce23, hcl23, hM23, hcc23, hfr23⟩ := Kd.R_elem HO_3.out z98 ((ji5) : Int) p23 q23
   obtain rfl := k98_openM hM23
   have hx23_0 : w30.cell? ⟨go8, ((ji5) : Int).toNat * 3, none⟩ = some (.string ((rd_T98 x3_1 (ji5)).f0)) := hcc23 0 _ rfl
   have hx23_1 : w30.cell? ⟨go8, ((ji5) : Int).toNat * 3 + 1, none⟩ = some (.bool ((rd_T98 x3_1 (ji5)).f1)) := hcc23 1 _ rfl
   have hx23_2 : w30.cell? ⟨go8, ((ji5) : Int).toNat * 3 + 2, none⟩ = some (.bool ((rd_T98 x3_1 (ji5)).f2)) := hcc23 2 _ rfl
   have hf23_0 : w30.frozen? ⟨go8, ((ji5) : Int).toNat * 3, none⟩ = false := hfr23 0
   have hf23_1 : w30.frozen? ⟨go8, ((ji5) : Int).toNat * 3 + 1, none⟩ = false := hfr23 1
   have hf23_2 : w30.frozen? ⟨go8, ((ji5) : Int).toNat * 3 + 2, none⟩ = false := hfr23 2
   clear hcl23 hcc23 hfr23 hM23
   replace p23 := eq_true p23
   replace q23 := eq_true q23
   try go_wp2
   replace HO_3 := Aside0.mk (Kd.R_drew HO_3.out)
   replace HB := Aside0.mk (below_drew1 HB.out)
   have p234 : 0 ≤ ((ji5) : Int) := dA
   have q234 : (ji5) < (x3_1.length : Int) := dA
   obtain ⟨ad234, e234, hx234_0, hx234_1, hx234_2⟩ := at_T98 (Kd.R_reads' HO_3.out).2.2 (ji5) p234 q234
   obtain rfl : (⟨go8, 0, none⟩ : Addr) = ad234 := (by injection e234)
   (first | simp only [add_plain] at hx234_0 | simp only [add_at] at hx234_0 | simp only [Addr.add, Nat.zero_add] at hx234_0 | skip)
   (first | simp only [add_plain] at hx234_1 | simp only [add_at] at hx234_1 | simp only [Addr.add, Nat.zero_add] at hx234_1 | skip)
   (first | simp only [add_plain] at hx234_2 | simp only [add_at] at hx234_2 | simp only [Addr.add, Nat.zero_add] at hx234_2 | skip)
   replace p234 := eq_true p234
   replace q234 := eq_true q234
   have p28 : 0 ≤ ((ji5) : Int) := dA
   have q28 : ((ji5) : Int) < ((x3_1.length : Int) : Int) := dA
   obtain ⟨ce28, hcl28, hM28, hcc28, hfr28⟩ := Kd.R_elem HO_3.out z98 ((ji5) : Int) p28 q28
   obtain rfl := k98_openM hM28
   have hx28_0 : World.cell? _ ⟨go8, ((ji5) : Int).toNat * 3, none⟩ = some (.string ((rd_T98 x3_1 (ji5)).f0)) := hcc28 0 _ rfl
   have hx28_1 : World.cell? _ ⟨go8, ((ji5) : Int).toNat * 3 + 1, none⟩ = some (.bool ((rd_T98 x3_1 (ji5)).f1)) := hcc28 1 _ rfl
   have hx28_2 : World.cell? _ ⟨go8, ((ji5) : Int).toNat * 3 + 2, none⟩ = some (.bool ((rd_T98 x3_1 (ji5)).f2)) := hcc28 2 _ rfl
   have hf28_0 : World.frozen? _ ⟨go8, ((ji5) : Int).toNat * 3, none⟩ = false := hfr28 0
   have hf28_1 : World.frozen? _ ⟨go8, ((ji5) : Int).toNat * 3 + 1, none⟩ = false := hfr28 1
   have hf28_2 : World.frozen? _ ⟨go8, ((ji5) : Int).toNat * 3 + 2, none⟩ = false := hfr28 2
   clear hcl28 hcc28 hfr28 hM28
   replace p28 := eq_true p28
   replace q28 := eq_true q28
   obtain ⟨ce32, hcl32, hM32, hcc32, hfr32⟩ := Kd.R_elem HO_3.out z98 ((ji5) : Int) (dA) (by have h_ : ((ji5) : Int) < ((x3_1.length : Int) : Int) := dA; first | exact h_ | (have e_ := (Kd.R_reads' HO_3.out).1; omega) | simpa using h_)
   obtain rfl := k98_openM hM32
   have HP32 := (Kd.R_seg HO_3.out ((ji5) : Int) (dA) (by have h_ : ((ji5) : Int) < ((x3_1.length : Int) : Int) := dA; first | exact h_ | (have e_ := (Kd.R_reads' HO_3.out).1; omega) | simpa using h_) (seg := [.string (((rd_T98 x3_1 (ji5)).f0) ++ (a0.extract (x4_1 : Int).toNat ((wrap64 (x4_1 + 1)) : Int).toNat))]) (j := 0) hcl32 hcc32 (show 1 ≤ 3 from by decide) (x' := (⟨((rd_T98 x3_1 (ji5)).f0) ++ (a0.extract (x4_1 : Int).toNat ((wrap64 (x4_1 + 1)) : Int).toNat), (rd_T98 x3_1 (ji5)).f1, (rd_T98 x3_1 (ji5)).f2⟩ : S98)) (k98_mkM _ _ _ (⟨((rd_T98 x3_1 (ji5)).f0) ++ (a0.extract (x4_1 : Int).toNat ((wrap64 (x4_1 + 1)) : Int).toNat), (rd_T98 x3_1 (ji5)).f1, (rd_T98 x3_1 (ji5)).f2⟩ : S98) ) (fun _ hk => hk)).1
   rw [← Ny235.out] at HP32
   have HQ32 := Aside0.mk HP32
   clear hcl32 hcc32 hfr32 hM32 HP32
   refine start_ (n := 14) (S := fun w' => w'.cell? ⟨go8, ((ji5)).toNat * 3, none⟩ = some (.string ((rd_T98 x3_1 (ji5)).f0)) ∧ w'.cell? ⟨go8, ((ji5)).toNat * 3 + 1, none⟩ = some (.bool ((rd_T98 x3_1 (ji5)).f1)) ∧ w'.cell? ⟨go8, ((ji5)).toNat * 3 + 2, none⟩ = some (.bool ((rd_T98 x3_1 (ji5)).f2))) (ds := [13]) #[false, false, false, false, false, false, false, false, false, false, false, false, false, false] (by kernel_rfl) rfl rfl ⟨hx234_0, hx234_1, hx234_2⟩ (fun hHeld => ?_); refine with_tabW newelref05_parts.tab12 newelref05_parts.bits12 (fun HT_ HW_ => ?_)
   generalize w30.drew = w31 at HO_3 HB HQ32 hf28_0 hf28_1 hf28_2 hx234_0 hx234_1 hx234_2 hx28_0 hx28_1 hx28_2 hHeld ⊢
   refine pz 0 (some 77) HT_ ?_
   refine pz 1 (some 78) HT_ ?_
   refine pz 2 (some 79) HT_ ?_
   refine pz 3 (some 80) HT_ ?_
   refine pz 5 (some 82) HT_ ?_
   refine pz 6 (some 83) HT_ ?_
   refine pz 7 (some 84) HT_ ?_
   refine pz 8 (some 85) HT_ ?_
   refine pz 9 (some 86) HT_ ?_
   refine tm 4 (some 81) HT_ HW_ hHeld ?_
   refine pz 10 (some 87) HT_ ?_
   refine pz 11 (some 88) HT_ ?_
   refine pz 12 (some 89) HT_ ?_
   refine last_ (i := 13) (N := none) #[true, true, true, true, true, true, true, true, true, true, true, true, true, true] rfl rfl (one_of HT_.out (by kernel_rfl)) (by decide) (fun K hK => ?_)
   refine skip_ (w1 := ?_) (by rfl) rfl ?_ ?_
   rotate_left
   ·go_simp
    rfl
   refine hK.out _ _ ?_
   clear hK K
   refine done_ (done_of HT_.out (by kernel_rfl)) ?_
   try go_wp2
   go_roundg k1
   case measure => have := HK1.out; omega
   case rel => exact ⟨(y235), (wrap64 (x4_1 + 1)), cA, H', ⟨by have := HK1.out; omega⟩, ⟨by (with_reducible repeat (first | apply Kd.R_alloc | apply Kd.R_drewN | apply Kd.R_drew)); exact HQ32.out⟩, ⟨by repeat (first | (with_reducible first | exact HB.out | apply below_alloc | apply pw_below_drewN | apply below_drew1 | refine below_set ?_ GB8.out) | exact HB.out)⟩⟩
  rw [if_neg c22] at H
  obtain ⟨c22b0, c22b1⟩ := eqF c22
  (try (have c22b2 : (((rd_T98 x3_1 (ji5)).f0).toList).isEmpty = false := by simpa using c22))
  obtain ⟨ji33, hji33⟩ : ∃ j_ : Int, (wrap64 ((((rd_T98 x3_1 (ji5)).f0).size : Int) - 1)) = j_ := ⟨_, rfl⟩
  rw [hji33] at H
  have hji33w : (IntKind.i64.wrap ((((rd_T98 x3_1 (ji5)).f0).size : Int) - 1)) = ji33 := (i64_w _).trans hji33
  obtain ⟨c34, H⟩ := gp H
  have c34b0 := dT c34
  clear c34
  obtain ⟨c35, H⟩ := gp H
  have c35b0 := dT c35
  clear c35
  replace H := bi H
  obtain ⟨t238, A370, H⟩ := H
  try dsimp only at H
  have A37 := Aside0.mk A370
  clear A370
  replace H := bi H
  obtain ⟨t239, A390, H⟩ := H
  try dsimp only at H
  have A39 := Aside0.mk A390
  clear A390
  by_cases c40 : (t238 != t239) = true
  rotate_left
  ·rw [if_neg c40] at H
   have c40b0 : (t238 != t239) = false := by simpa using c40
   (try (have c40b1 : decide (t238 = t239) = true := by simpa using c40))
   (try (have c40b2 : (t238 == t239) = true := by simpa using c40))
   clear c40
   have c63b0 := eq_true (dA : 0 ≤ x4_1)
   obtain ⟨c64, H⟩ := gp H
   have c64b0 := eq_true c64
   have c64b1 := dT c64
   obtain ⟨c65, H⟩ := gp H
   have c65b0 := eq_true c65
   have c65b1 := dT c65
   obtain ⟨c66, H⟩ := gp H
   have c66b0 := eq_true c66
   have c66b1 := dT c66
   try have c66b2 : (9223372036854775807 < ((rd_T98 x3_1 (ji5)).f0).size + (a0.extract (x4_1 : Int).toNat ((wrap64 (x4_1 + 1)) : Int).toNat).size) = False := eq_false (Nat.not_lt.2 c66)
   try have c66q : (9223372036854775807 < ((rd_T98 x3_1 (ji5)).f0).size + (((wrap64 (x4_1 + 1)) : Int).toNat - (x4_1 : Int).toNat)) = False := eq_false (by have z_ := c66; have y_ : ((wrap64 (x4_1 + 1)) : Int) ≤ ((a0).size : Int) := of_decide_eq_true (by assumption); simp only [ByteArray.size_extract] at z_; omega)
   obtain ⟨y248, hy248⟩ : ∃ y_ : List (S98), y_ = (x3_1.set ((ji5) : Int).toNat (⟨((rd_T98 x3_1 (ji5)).f0) ++ (a0.extract (x4_1 : Int).toNat ((wrap64 (x4_1 + 1)) : Int).toNat), (rd_T98 x3_1 (ji5)).f1, (rd_T98 x3_1 (ji5)).f2⟩ : S98)) := ⟨_, rfl⟩
   replace H : (newelref05_parts.l0 k1 a0 y248 (wrap64 (x4_1 + 1))) = some r := by first | (rw [hy248]; with_reducible exact H) | (have H2_ := (Option.bind_some _ _).symm.trans H; rw [hy248]; with_reducible exact H2_) | (have H2_ := (Option.bind_some _ _).symm.trans H; with_reducible exact H2_) | with_reducible exact H | (rw [hy248]; exact H) | exact H
   have Ny248 := Aside0.mk hy248
   clear hy248
   have H' := Aside0.mk H
   clear H
   obtain ⟨Ao68, co68, eo68⟩ := Kd.R_slice HO_3.out
   subst eo68
   have p8 : 0 ≤ ((ji5) : Int) := dA
   have q8 : ((ji5) : Int) < ((x3_1.length : Int) : Int) := dA
   obtain ⟨go8, co8, eo8, gb8, gl8, cl8, HG8⟩ := Kd.R_form HO_3.out (by omega)
   (first | cases eo8 | (injection eo8 with ea_ en_ ec_; (first | subst ea_ | (injection ea_ with ea_; subst ea_)); subst ec_; clear en_))
   have GB8 := Aside0.mk gb8
   have GG8 := Aside0.mk HG8
   clear gb8 gl8 HG8
   obtain ⟨ce8, hcl8, hM8, hcc8, hfr8⟩ := Kd.R_elem HO_3.out z98 ((ji5) : Int) p8 q8
   obtain rfl := k98_openM hM8
   have hx8_0 : wr.cell? ⟨go8, ((ji5) : Int).toNat * 3, none⟩ = some (.string ((rd_T98 x3_1 (ji5)).f0)) := hcc8 0 _ rfl
   have hx8_1 : wr.cell? ⟨go8, ((ji5) : Int).toNat * 3 + 1, none⟩ = some (.bool ((rd_T98 x3_1 (ji5)).f1)) := hcc8 1 _ rfl
   have hx8_2 : wr.cell? ⟨go8, ((ji5) : Int).toNat * 3 + 2, none⟩ = some (.bool ((rd_T98 x3_1 (ji5)).f2)) := hcc8 2 _ rfl
   have hf8_0 : wr.frozen? ⟨go8, ((ji5) : Int).toNat * 3, none⟩ = false := hfr8 0
   have hf8_1 : wr.frozen? ⟨go8, ((ji5) : Int).toNat * 3 + 1, none⟩ = false := hfr8 1
   have hf8_2 : wr.frozen? ⟨go8, ((ji5) : Int).toNat * 3 + 2, none⟩ = false := hfr8 2
   clear hcl8 hcc8 hfr8 hM8
   replace p8 := eq_true p8
   replace q8 := eq_true q8
   have p10 : 0 ≤ (x4_1 : Int) := dA
   have q10 : x4_1 < (a0.size : Int) := dA
   have hx10 := bt_at a0 x4_1
   replace p10 := eq_true p10
   replace q10 := eq_true q10
   have p16 : 0 ≤ (x4_1 : Int) := dA
   have q16 : x4_1 < (a0.size : Int) := dA
   have hx16 := bt_at a0 x4_1
   replace p16 := eq_true p16
   replace q16 := eq_true q16
   try go_wp2
   replace HO_3 := Aside0.mk (Kd.R_drew HO_3.out)
   replace HB := Aside0.mk (below_drew1 HB.out)
   have p233 : 0 ≤ ((ji5) : Int) := dA
   have q233 : (ji5) < (x3_1.length : Int) := dA
   obtain ⟨ad233, e233, hx233_0, hx233_1, hx233_2⟩ := at_T98 (Kd.R_reads' HO_3.out).2.2 (ji5) p233 q233
   obtain rfl : (⟨go8, 0, none⟩ : Addr) = ad233 := (by injection e233)
   (first | simp only [add_plain] at hx233_0 | simp only [add_at] at hx233_0 | simp only [Addr.add, Nat.zero_add] at hx233_0 | skip)
   (first | simp only [add_plain] at hx233_1 | simp only [add_at] at hx233_1 | simp only [Addr.add, Nat.zero_add] at hx233_1 | skip)
   (first | simp only [add_plain] at hx233_2 | simp only [add_at] at hx233_2 | simp only [Addr.add, Nat.zero_add] at hx233_2 | skip)
   replace p233 := eq_true p233
   replace q233 := eq_true q233
   have p236 : 0 ≤ ((ji5) : Int) := dA
   have q236 : (ji5) < (x3_1.length : Int) := dA
   obtain ⟨ad236, e236, hx236_0, hx236_1, hx236_2⟩ := at_T98 (Kd.R_reads' HO_3.out).2.2 (ji5) p236 q236
   obtain rfl : (⟨go8, 0, none⟩ : Addr) = ad236 := (by injection e236)
   (first | simp only [add_plain] at hx236_0 | simp only [add_at] at hx236_0 | simp only [Addr.add, Nat.zero_add] at hx236_0 | skip)
   (first | simp only [add_plain] at hx236_1 | simp only [add_at] at hx236_1 | simp only [Addr.add, Nat.zero_add] at hx236_1 | skip)
   (first | simp only [add_plain] at hx236_2 | simp only [add_at] at hx236_2 | simp only [Addr.add, Nat.zero_add] at hx236_2 | skip)
   replace p236 := eq_true p236
   replace q236 := eq_true q236
   have p237 : 0 ≤ ((ji5) : Int) := dA
   have q237 : (ji5) < (x3_1.length : Int) := dA
   obtain ⟨ad237, e237, hx237_0, hx237_1, hx237_2⟩ := at_T98 (Kd.R_reads' HO_3.out).2.2 (ji5) p237 q237
   obtain rfl : (⟨go8, 0, none⟩ : Addr) = ad237 := (by injection e237)
   (first | simp only [add_plain] at hx237_0 | simp only [add_at] at hx237_0 | simp only [Addr.add, Nat.zero_add] at hx237_0 | skip)
   (first | simp only [add_plain] at hx237_1 | simp only [add_at] at hx237_1 | simp only [Addr.add, Nat.zero_add] at hx237_1 | skip)
   (first | simp only [add_plain] at hx237_2 | simp only [add_at] at hx237_2 | simp only [Addr.add, Nat.zero_add] at hx237_2 | skip)
   replace p237 := eq_true p237
   replace q237 := eq_true q237
   have p36 : 0 ≤ ((ji33) : Int) := dA
   have q36 : (ji33) < (((rd_T98 x3_1 (ji5)).f0).size : Int) := dA
   have hx36 := bt_at ((rd_T98 x3_1 (ji5)).f0) (ji33)
   replace p36 := eq_true p36
   replace q36 := eq_true q36
   have p38 : 0 ≤ (x4_1 : Int) := dA
   have q38 : x4_1 < (a0.size : Int) := dA
   have hx38 := bt_at a0 x4_1
   replace p38 := eq_true p38
   replace q38 := eq_true q38
   refine start_ (n := 24) (S := fun w' => w'.cell? ⟨go8, ((ji5)).toNat * 3, none⟩ = some (.string ((rd_T98 x3_1 (ji5)).f0)) ∧ w'.cell? ⟨go8, ((ji5)).toNat * 3 + 1, none⟩ = some (.bool ((rd_T98 x3_1 (ji5)).f1)) ∧ w'.cell? ⟨go8, ((ji5)).toNat * 3 + 2, none⟩ = some (.bool ((rd_T98 x3_1 (ji5)).f2)) ∧ w'.cell? ⟨go8, ((ji5)).toNat * 3, none⟩ = some (.string ((rd_T98 x3_1 (ji5)).f0)) ∧ w'.cell? ⟨go8, ((ji5)).toNat * 3 + 1, none⟩ = some (.bool ((rd_T98 x3_1 (ji5)).f1)) ∧ w'.cell? ⟨go8, ((ji5)).toNat * 3 + 2, none⟩ = some (.bool ((rd_T98 x3_1 (ji5)).f2)) ∧ w'.cell? ⟨go8, ((ji5)).toNat * 3, none⟩ = some (.string ((rd_T98 x3_1 (ji5)).f0)) ∧ w'.cell? ⟨go8, ((ji5)).toNat * 3 + 1, none⟩ = some (.bool ((rd_T98 x3_1 (ji5)).f1)) ∧ w'.cell? ⟨go8, ((ji5)).toNat * 3 + 2, none⟩ = some (.bool ((rd_T98 x3_1 (ji5)).f2))) (ds := []) #[false, false, false, false, false, false, false, false, false, false, false, false, false, false, false, false, false, false, false, false, false, false, false, false] (by kernel_rfl) rfl rfl ⟨hx233_0, hx233_1, hx233_2, hx236_0, hx236_1, hx236_2, hx237_0, hx237_1, hx237_2⟩ (fun hHeld => ?_); refine with_tabW newelref05_parts.tab8 newelref05_parts.bits8 (fun HT_ HW_ => ?_)
   generalize wr.drew = w69 at HO_3 HB hx233_0 hx233_1 hx233_2 hx236_0 hx236_1 hx236_2 hx237_0 hx237_1 hx237_2 hHeld ⊢
   refine pz 0 (some 37) HT_ ?_
   refine pz 1 (some 38) HT_ ?_
   refine pz 2 (some 39) HT_ ?_
   refine tm 3 (some 40) HT_ HW_ hHeld ?_
   refine pz 4 (some 41) HT_ ?_
   refine pz 5 (some 42) HT_ ?_
   refine pz 6 (some 43) HT_ ?_
   refine pz 7 (some 44) HT_ ?_
   refine pz 8 (some 45) HT_ ?_
   refine pz 10 (some 47) HT_ ?_
   refine pz 11 (some 48) HT_ ?_
   refine pz 12 (some 49) HT_ ?_
   refine pz 18 (some 55) HT_ ?_
   refine pz 19 (some 56) HT_ ?_
   refine tm 9 (some 46) HT_ HW_ hHeld ?_
   refine tm 13 (some 50) HT_ HW_ hHeld ?_
   refine pz 14 (some 51) HT_ ?_
   refine pz 15 (some 52) HT_ ?_
   refine tm 16 (some 53) HT_ HW_ hHeld ?_
   refine tm 20 (some 57) HT_ HW_ hHeld ?_
   refine on 17 (some 54) HT_ (fun K hK => ?_)
   refine goes_ Tryd.func78 (by kernel_rfl) rfl #[.int .u8 (bt ((rd_T98 x3_1 (ji5)).f0) (ji33))] (by rfl) rfl rfl (by (try simp only [List.map_toArray, List.map_cons, List.map_nil]); first | done | (simp only [hji33, hji5]; rfl) | rfl | (simp only [List.length_drop, List.length_take]; rfl)) ?_
   with_reducible refine (newelref01_Digit.calls (bt ((rd_T98 x3_1 (ji5)).f0) (ji33)) t238 _ (gS HG) A37.out).mono ?_
   rintro e w' ⟨rfl, ⟨nd, rfl⟩⟩
   refine ⟨_, rfl, ?_⟩
   refine hK.out _ _ ⟨hHeld.1, hHeld.2.1, hHeld.2.2.1, hHeld.2.2.2.1, hHeld.2.2.2.2.1, hHeld.2.2.2.2.2.1, hHeld.2.2.2.2.2.2.1, hHeld.2.2.2.2.2.2.2.1, hHeld.2.2.2.2.2.2.2.2⟩ (fun hHeld => ?_)
   clear hK K
   refine nz (some 54) ?_
   refine on 21 (some 58) HT_ (fun K hK => ?_)
   refine goes_ Tryd.func78 (by kernel_rfl) rfl #[.int .u8 (bt a0 x4_1)] (by rfl) rfl rfl mA ?_
   with_reducible refine (newelref01_Digit.calls (bt a0 x4_1) t239 _ (gS HG) A39.out).mono ?_
   rintro e w' ⟨rfl, ⟨nd, rfl⟩⟩
   refine ⟨_, rfl, ?_⟩
   refine hK.out _ _ ⟨hHeld.1, hHeld.2.1, hHeld.2.2.1, hHeld.2.2.2.1, hHeld.2.2.2.2.1, hHeld.2.2.2.2.2.1, hHeld.2.2.2.2.2.2.1, hHeld.2.2.2.2.2.2.2.1, hHeld.2.2.2.2.2.2.2.2⟩ (fun hHeld => ?_)
   clear hK K
   refine nz (some 58) ?_
   refine pz 22 (some 59) HT_ ?_
   refine pz 23 (some 60) HT_ ?_
   refine done_ (done_of HT_.out (by kernel_rfl)) ?_
   have p62 : 0 ≤ ((ji5) : Int) := dA
   have q62 : ((ji5) : Int) < ((x3_1.length : Int) : Int) := dA
   obtain ⟨ce62, hcl62, hM62, hcc62, hfr62⟩ := Kd.R_elem HO_3.out z98 ((ji5) : Int) p62 q62
   obtain rfl := k98_openM hM62
   have hx62_0 : w69.cell? ⟨go8, ((ji5) : Int).toNat * 3, none⟩ = some (.string ((rd_T98 x3_1 (ji5)).f0)) := hcc62 0 _ rfl
   have hx62_1 : w69.cell? ⟨go8, ((ji5) : Int).toNat * 3 + 1, none⟩ = some (.bool ((rd_T98 x3_1 (ji5)).f1)) := hcc62 1 _ rfl
   have hx62_2 : w69.cell? ⟨go8, ((ji5) : Int).toNat * 3 + 2, none⟩ = some (.bool ((rd_T98 x3_1 (ji5)).f2)) := hcc62 2 _ rfl
   have hf62_0 : w69.frozen? ⟨go8, ((ji5) : Int).toNat * 3, none⟩ = false := hfr62 0
   have hf62_1 : w69.frozen? ⟨go8, ((ji5) : Int).toNat * 3 + 1, none⟩ = false := hfr62 1
   have hf62_2 : w69.frozen? ⟨go8, ((ji5) : Int).toNat * 3 + 2, none⟩ = false := hfr62 2
   clear hcl62 hcc62 hfr62 hM62
   replace p62 := eq_true p62
   replace q62 := eq_true q62
   try go_wp2
   (try ((try simp only [World.drewN_drewN]); (first | generalize hq_ : World.drewN w69 _ = w69 | (rw [drewN_self w69]; generalize hq_ : World.drewN w69 _ = w69)); have n0_ : Aside0 (Kd.R k98 98 w69 w.heap.size (fun _ => True) (.slice (some ⟨go8, 0, none⟩) x3_1.length co68) x3_1) := ⟨by rw [← hq_]; exact (kR HO_3)⟩; have n1_ : Aside0 (Below w.heap.size w w69) := ⟨by rw [← hq_]; exact bE⟩; clear HO_3 HB hq_; have HO_3 := n0_; have HB := n1_; clear n0_ n1_))
   replace HO_3 := Aside0.mk (Kd.R_drew HO_3.out)
   replace HB := Aside0.mk (below_drew1 HB.out)
   have p247 : 0 ≤ ((ji5) : Int) := dA
   have q247 : (ji5) < (x3_1.length : Int) := dA
   obtain ⟨ad247, e247, hx247_0, hx247_1, hx247_2⟩ := at_T98 (Kd.R_reads' HO_3.out).2.2 (ji5) p247 q247
   obtain rfl : (⟨go8, 0, none⟩ : Addr) = ad247 := (by injection e247)
   (first | simp only [add_plain] at hx247_0 | simp only [add_at] at hx247_0 | simp only [Addr.add, Nat.zero_add] at hx247_0 | skip)
   (first | simp only [add_plain] at hx247_1 | simp only [add_at] at hx247_1 | simp only [Addr.add, Nat.zero_add] at hx247_1 | skip)
   (first | simp only [add_plain] at hx247_2 | simp only [add_at] at hx247_2 | simp only [Addr.add, Nat.zero_add] at hx247_2 | skip)
   replace p247 := eq_true p247
   replace q247 := eq_true q247
   have p67 : 0 ≤ ((ji5) : Int) := dA
   have q67 : ((ji5) : Int) < ((x3_1.length : Int) : Int) := dA
   obtain ⟨ce67, hcl67, hM67, hcc67, hfr67⟩ := Kd.R_elem HO_3.out z98 ((ji5) : Int) p67 q67
   obtain rfl := k98_openM hM67
   have hx67_0 : World.cell? _ ⟨go8, ((ji5) : Int).toNat * 3, none⟩ = some (.string ((rd_T98 x3_1 (ji5)).f0)) := hcc67 0 _ rfl
   have hx67_1 : World.cell? _ ⟨go8, ((ji5) : Int).toNat * 3 + 1, none⟩ = some (.bool ((rd_T98 x3_1 (ji5)).f1)) := hcc67 1 _ rfl
   have hx67_2 : World.cell? _ ⟨go8, ((ji5) : Int).toNat * 3 + 2, none⟩ = some (.bool ((rd_T98 x3_1 (ji5)).f2)) := hcc67 2 _ rfl
   have hf67_0 : World.frozen? _ ⟨go8, ((ji5) : Int).toNat * 3, none⟩ = false := hfr67 0
   have hf67_1 : World.frozen? _ ⟨go8, ((ji5) : Int).toNat * 3 + 1, none⟩ = false := hfr67 1
   have hf67_2 : World.frozen? _ ⟨go8, ((ji5) : Int).toNat * 3 + 2, none⟩ = false := hfr67 2
   clear hcl67 hcc67 hfr67 hM67
   replace p67 := eq_true p67
   replace q67 := eq_true q67
   obtain ⟨ce71, hcl71, hM71, hcc71, hfr71⟩ := Kd.R_elem HO_3.out z98 ((ji5) : Int) (dA) (by have h_ : ((ji5) : Int) < ((x3_1.length : Int) : Int) := dA; first | exact h_ | (have e_ := (Kd.R_reads' HO_3.out).1; omega) | simpa using h_)
   obtain rfl := k98_openM hM71
   have HP71 := (Kd.R_seg HO_3.out ((ji5) : Int) (dA) (by have h_ : ((ji5) : Int) < ((x3_1.length : Int) : Int) := dA; first | exact h_ | (have e_ := (Kd.R_reads' HO_3.out).1; omega) | simpa using h_) (seg := [.string (((rd_T98 x3_1 (ji5)).f0) ++ (a0.extract (x4_1 : Int).toNat ((wrap64 (x4_1 + 1)) : Int).toNat))]) (j := 0) hcl71 hcc71 (show 1 ≤ 3 from by decide) (x' := (⟨((rd_T98 x3_1 (ji5)).f0) ++ (a0.extract (x4_1 : Int).toNat ((wrap64 (x4_1 + 1)) : Int).toNat), (rd_T98 x3_1 (ji5)).f1, (rd_T98 x3_1 (ji5)).f2⟩ : S98)) (k98_mkM _ _ _ (⟨((rd_T98 x3_1 (ji5)).f0) ++ (a0.extract (x4_1 : Int).toNat ((wrap64 (x4_1 + 1)) : Int).toNat), (rd_T98 x3_1 (ji5)).f1, (rd_T98 x3_1 (ji5)).f2⟩ : S98) ) (fun _ hk => hk)).1
   rw [← Ny248.out] at HP71
   have HQ71 := Aside0.mk HP71
   clear hcl71 hcc71 hfr71 hM71 HP71
   refine start_ (n := 14) (S := fun w' => w'.cell? ⟨go8, ((ji5)).toNat * 3, none⟩ = some (.string ((rd_T98 x3_1 (ji5)).f0)) ∧ w'.cell? ⟨go8, ((ji5)).toNat * 3 + 1, none⟩ = some (.bool ((rd_T98 x3_1 (ji5)).f1)) ∧ w'.cell? ⟨go8, ((ji5)).toNat * 3 + 2, none⟩ = some (.bool ((rd_T98 x3_1 (ji5)).f2))) (ds := [13]) #[false, false, false, false, false, false, false, false, false, false, false, false, false, false] (by kernel_rfl) rfl rfl ⟨hx247_0, hx247_1, hx247_2⟩ (fun hHeld => ?_); refine with_tabW newelref05_parts.tab12 newelref05_parts.bits12 (fun HT_ HW_ => ?_)
   generalize w69.drew = w70 at HO_3 HB HQ71 hf67_0 hf67_1 hf67_2 hx247_0 hx247_1 hx247_2 hx67_0 hx67_1 hx67_2 hHeld ⊢
   refine pz 0 (some 77) HT_ ?_
   refine pz 1 (some 78) HT_ ?_
   refine pz 2 (some 79) HT_ ?_
   refine pz 3 (some 80) HT_ ?_
   refine pz 5 (some 82) HT_ ?_
   refine pz 6 (some 83) HT_ ?_
   refine pz 7 (some 84) HT_ ?_
   refine pz 8 (some 85) HT_ ?_
   refine pz 9 (some 86) HT_ ?_
   refine tm 4 (some 81) HT_ HW_ hHeld ?_
   refine pz 10 (some 87) HT_ ?_
   refine pz 11 (some 88) HT_ ?_
   refine pz 12 (some 89) HT_ ?_
   refine last_ (i := 13) (N := none) #[true, true, true, true, true, true, true, true, true, true, true, true, true, true] rfl rfl (one_of HT_.out (by kernel_rfl)) (by decide) (fun K hK => ?_)
   refine skip_ (w1 := ?_) (by rfl) rfl ?_ ?_
   rotate_left
   ·go_simp
    rfl
   refine hK.out _ _ ?_
   clear hK K
   refine done_ (done_of HT_.out (by kernel_rfl)) ?_
   try go_wp2
   go_roundg k1
   case measure => have := HK1.out; omega
   case rel => exact ⟨(y248), (wrap64 (x4_1 + 1)), cA, H', ⟨by have := HK1.out; omega⟩, ⟨by (with_reducible repeat (first | apply Kd.R_alloc | apply Kd.R_drewN | apply Kd.R_drew)); exact HQ71.out⟩, ⟨by repeat (first | (with_reducible first | exact HB.out | apply below_alloc | apply pw_below_drewN | apply below_drew1 | refine below_set ?_ GB8.out) | exact HB.out)⟩⟩
  rw [if_pos c40] at H
  have c40b0 : (t238 != t239) = true := c40
  (try (have c40b1 : decide (t238 = t239) = false := by simpa using c40))
  (try (have c40b2 : (t238 == t239) = false := by simpa using c40))
  (try (have c40b3 : ¬ (t238 = t239) := by simpa using c40))
  clear c40
  replace H := bi H
  obtain ⟨t240, A420, H⟩ := H
  try dsimp only at H
  have A42 := Aside0.mk A420
  clear A420
  obtain ⟨y241, hy241⟩ : ∃ y_ : List (S98), y_ = (x3_1.set ((ji5) : Int).toNat (⟨(rd_T98 x3_1 (ji5)).f0, (rd_T98 x3_1 (ji5)).f1, t240⟩ : S98)) := ⟨_, rfl⟩
  replace H : (if y241.length < 5864062014805 then ((some (y241 ++ [(⟨(⟨#[]⟩ : ByteArray), true, false⟩ : S98)] : List (S98))).bind fun y242 => (if 0 ≤ (wrap64 ((y242.length : Int) - 1)) then (if (wrap64 ((y242.length : Int) - 1)) < (y242.length : Int) then (if x4_1 ≤ (wrap64 (x4_1 + 1)) then (if (wrap64 (x4_1 + 1)) ≤ (a0.size : Int) then (if ((rd_T98 y242 (wrap64 ((y242.length : Int) - 1))).f0).size + (a0.extract (x4_1 : Int).toNat ((wrap64 (x4_1 + 1)) : Int).toNat).size ≤ 9223372036854775807 then (newelref05_parts.l0 k1 a0 (y242.set ((wrap64 ((y242.length : Int) - 1)) : Int).toNat (⟨((rd_T98 y242 (wrap64 ((y242.length : Int) - 1))).f0) ++ (a0.extract (x4_1 : Int).toNat ((wrap64 (x4_1 + 1)) : Int).toNat), (rd_T98 y242 (wrap64 ((y242.length : Int) - 1))).f1, (rd_T98 y242 (wrap64 ((y242.length : Int) - 1))).f2⟩ : S98)) (wrap64 (x4_1 + 1))) else (none)) else (none)) else (none)) else (none)) else (none))) else (none)) = some r := by first | (rw [hy241]; with_reducible exact H) | (have H2_ := (Option.bind_some _ _).symm.trans H; rw [hy241]; with_reducible exact H2_) | (have H2_ := (Option.bind_some _ _).symm.trans H; with_reducible exact H2_) | with_reducible exact H | (rw [hy241]; exact H) | exact H
  have Ny241 := Aside0.mk hy241
  clear hy241
  obtain ⟨c44, H⟩ := gp H
  have LMc44 := Aside0.mk c44
  clear c44
  obtain ⟨y242, hy242⟩ : ∃ y_ : List (S98), y_ = (y241 ++ [(⟨(⟨#[]⟩ : ByteArray), true, false⟩ : S98)]) := ⟨_, rfl⟩
  replace H : (if 0 ≤ (wrap64 ((y242.length : Int) - 1)) then (if (wrap64 ((y242.length : Int) - 1)) < (y242.length : Int) then (if x4_1 ≤ (wrap64 (x4_1 + 1)) then (if (wrap64 (x4_1 + 1)) ≤ (a0.size : Int) then (if ((rd_T98 y242 (wrap64 ((y242.length : Int) - 1))).f0).size + (a0.extract (x4_1 : Int).toNat ((wrap64 (x4_1 + 1)) : Int).toNat).size ≤ 9223372036854775807 then (newelref05_parts.l0 k1 a0 (y242.set ((wrap64 ((y242.length : Int) - 1)) : Int).toNat (⟨((rd_T98 y242 (wrap64 ((y242.length : Int) - 1))).f0) ++ (a0.extract (x4_1 : Int).toNat ((wrap64 (x4_1 + 1)) : Int).toNat), (rd_T98 y242 (wrap64 ((y242.length : Int) - 1))).f1, (rd_T98 y242 (wrap64 ((y242.length : Int) - 1))).f2⟩ : S98)) (wrap64 (x4_1 + 1))) else (none)) else (none)) else (none)) else (none)) else (none)) = some r := by first | (rw [hy242]; with_reducible exact H) | (have H2_ := (Option.bind_some _ _).symm.trans H; rw [hy242]; with_reducible exact H2_) | (have H2_ := (Option.bind_some _ _).symm.trans H; with_reducible exact H2_) | with_reducible exact H | (rw [hy242]; exact H) | exact H
  have Ny242 := Aside0.mk hy242
  clear hy242
  obtain ⟨ji45, hji45⟩ : ∃ j_ : Int, (wrap64 ((y242.length : Int) - 1)) = j_ := ⟨_, rfl⟩
  rw [hji45] at H
  (try rw [hji45] at A37)
  (try rw [hji45] at A39)
  (try rw [hji45] at A42)
  have hji45w : (IntKind.i64.wrap ((y242.length : Int) - 1)) = ji45 := (i64_w _).trans hji45
  obtain ⟨c46, H⟩ := gp H
  have c46b0 := dT c46
  clear c46
  obtain ⟨c47, H⟩ := gp H
  have c47b0 := dT c47
  clear c47
  have c49b0 := eq_true (dA : 0 ≤ x4_1)
  obtain ⟨c50, H⟩ := gp H
  have c50b0 := eq_true c50
  have c50b1 := dT c50
  obtain ⟨c51, H⟩ := gp H
  have c51b0 := eq_true c51
  have c51b1 := dT c51
  obtain ⟨c52, H⟩ := gp H
  have c52b0 := eq_true c52
  have c52b1 := dT c52
  try have c52b2 : (9223372036854775807 < ((rd_T98 y242 (ji45)).f0).size + (a0.extract (x4_1 : Int).toNat ((wrap64 (x4_1 + 1)) : Int).toNat).size) = False := eq_false (Nat.not_lt.2 c52)
  try have c52q : (9223372036854775807 < ((rd_T98 y242 (ji45)).f0).size + (((wrap64 (x4_1 + 1)) : Int).toNat - (x4_1 : Int).toNat)) = False := eq_false (by have z_ := c52; have y_ : ((wrap64 (x4_1 + 1)) : Int) ≤ ((a0).size : Int) := of_decide_eq_true (by assumption); simp only [ByteArray.size_extract] at z_; omega)
  obtain ⟨y246, hy246⟩ : ∃ y_ : List (S98), y_ = (y242.set ((ji45) : Int).toNat (⟨((rd_T98 y242 (ji45)).f0) ++ (a0.extract (x4_1 : Int).toNat ((wrap64 (x4_1 + 1)) : Int).toNat), (rd_T98 y242 (ji45)).f1, (rd_T98 y242 (ji45)).f2⟩ : S98)) := ⟨_, rfl⟩
  replace H : (newelref05_parts.l0 k1 a0 y246 (wrap64 (x4_1 + 1))) = some r := by first | (rw [hy246]; with_reducible exact H) | (have H2_ := (Option.bind_some _ _).symm.trans H; rw [hy246]; with_reducible exact H2_) | (have H2_ := (Option.bind_some _ _).symm.trans H; with_reducible exact H2_) | with_reducible exact H | (rw [hy246]; exact H) | exact H
  have Ny246 := Aside0.mk hy246
  clear hy246
  have H' := Aside0.mk H
  clear H
  obtain ⟨Ao54, co54, eo54⟩ := Kd.R_slice HO_3.out
  subst eo54
  have p8 : 0 ≤ ((ji5) : Int) := dA
  have q8 : ((ji5) : Int) < ((x3_1.length : Int) : Int) := dA
  obtain ⟨go8, co8, eo8, gb8, gl8, cl8, HG8⟩ := Kd.R_form HO_3.out (by omega)
  (first | cases eo8 | (injection eo8 with ea_ en_ ec_; (first | subst ea_ | (injection ea_ with ea_; subst ea_)); subst ec_; clear en_))
  have GB8 := Aside0.mk gb8
  have GG8 := Aside0.mk HG8
  clear gb8 gl8 HG8
  obtain ⟨ce8, hcl8, hM8, hcc8, hfr8⟩ := Kd.R_elem HO_3.out z98 ((ji5) : Int) p8 q8
  obtain rfl := k98_openM hM8
  have hx8_0 : wr.cell? ⟨go8, ((ji5) : Int).toNat * 3, none⟩ = some (.string ((rd_T98 x3_1 (ji5)).f0)) := hcc8 0 _ rfl
  have hx8_1 : wr.cell? ⟨go8, ((ji5) : Int).toNat * 3 + 1, none⟩ = some (.bool ((rd_T98 x3_1 (ji5)).f1)) := hcc8 1 _ rfl
  have hx8_2 : wr.cell? ⟨go8, ((ji5) : Int).toNat * 3 + 2, none⟩ = some (.bool ((rd_T98 x3_1 (ji5)).f2)) := hcc8 2 _ rfl
  have hf8_0 : wr.frozen? ⟨go8, ((ji5) : Int).toNat * 3, none⟩ = false := hfr8 0
  have hf8_1 : wr.frozen? ⟨go8, ((ji5) : Int).toNat * 3 + 1, none⟩ = false := hfr8 1
  have hf8_2 : wr.frozen? ⟨go8, ((ji5) : Int).toNat * 3 + 2, none⟩ = false := hfr8 2
  clear hcl8 hcc8 hfr8 hM8
  replace p8 := eq_true p8
  replace q8 := eq_true q8
  have p10 : 0 ≤ (x4_1 : Int) := dA
  have q10 : x4_1 < (a0.size : Int) := dA
  have hx10 := bt_at a0 x4_1
  replace p10 := eq_true p10
  replace q10 := eq_true q10
  have p16 : 0 ≤ (x4_1 : Int) := dA
  have q16 : x4_1 < (a0.size : Int) := dA
  have hx16 := bt_at a0 x4_1
  replace p16 := eq_true p16
  replace q16 := eq_true q16
  try go_wp2
  replace HO_3 := Aside0.mk (Kd.R_drew HO_3.out)
  replace HB := Aside0.mk (below_drew1 HB.out)
  have p233 : 0 ≤ ((ji5) : Int) := dA
  have q233 : (ji5) < (x3_1.length : Int) := dA
  obtain ⟨ad233, e233, hx233_0, hx233_1, hx233_2⟩ := at_T98 (Kd.R_reads' HO_3.out).2.2 (ji5) p233 q233
  obtain rfl : (⟨go8, 0, none⟩ : Addr) = ad233 := (by injection e233)
  (first | simp only [add_plain] at hx233_0 | simp only [add_at] at hx233_0 | simp only [Addr.add, Nat.zero_add] at hx233_0 | skip)
  (first | simp only [add_plain] at hx233_1 | simp only [add_at] at hx233_1 | simp only [Addr.add, Nat.zero_add] at hx233_1 | skip)
  (first | simp only [add_plain] at hx233_2 | simp only [add_at] at hx233_2 | simp only [Addr.add, Nat.zero_add] at hx233_2 | skip)
  replace p233 := eq_true p233
  replace q233 := eq_true q233
  have p236 : 0 ≤ ((ji5) : Int) := dA
  have q236 : (ji5) < (x3_1.length : Int) := dA
  obtain ⟨ad236, e236, hx236_0, hx236_1, hx236_2⟩ := at_T98 (Kd.R_reads' HO_3.out).2.2 (ji5) p236 q236
  obtain rfl : (⟨go8, 0, none⟩ : Addr) = ad236 := (by injection e236)
  (first | simp only [add_plain] at hx236_0 | simp only [add_at] at hx236_0 | simp only [Addr.add, Nat.zero_add] at hx236_0 | skip)
  (first | simp only [add_plain] at hx236_1 | simp only [add_at] at hx236_1 | simp only [Addr.add, Nat.zero_add] at hx236_1 | skip)
  (first | simp only [add_plain] at hx236_2 | simp only [add_at] at hx236_2 | simp only [Addr.add, Nat.zero_add] at hx236_2 | skip)
  replace p236 := eq_true p236
  replace q236 := eq_true q236
  have p237 : 0 ≤ ((ji5) : Int) := dA
  have q237 : (ji5) < (x3_1.length : Int) := dA
  obtain ⟨ad237, e237, hx237_0, hx237_1, hx237_2⟩ := at_T98 (Kd.R_reads' HO_3.out).2.2 (ji5) p237 q237
  obtain rfl : (⟨go8, 0, none⟩ : Addr) = ad237 := (by injection e237)
  (first | simp only [add_plain] at hx237_0 | simp only [add_at] at hx237_0 | simp only [Addr.add, Nat.zero_add] at hx237_0 | skip)
  (first | simp only [add_plain] at hx237_1 | simp only [add_at] at hx237_1 | simp only [Addr.add, Nat.zero_add] at hx237_1 | skip)
  (first | simp only [add_plain] at hx237_2 | simp only [add_at] at hx237_2 | simp only [Addr.add, Nat.zero_add] at hx237_2 | skip)
  replace p237 := eq_true p237
  replace q237 := eq_true q237
  have p36 : 0 ≤ ((ji33) : Int) := dA
  have q36 : (ji33) < (((rd_T98 x3_1 (ji5)).f0).size : Int) := dA
  have hx36 := bt_at ((rd_T98 x3_1 (ji5)).f0) (ji33)
  replace p36 := eq_true p36
  replace q36 := eq_true q36
  have p38 : 0 ≤ (x4_1 : Int) := dA
  have q38 : x4_1 < (a0.size : Int) := dA
  have hx38 := bt_at a0 x4_1
  replace p38 := eq_true p38
  replace q38 := eq_true q38
  refine start_ (n := 24) (S := fun w' => w'.cell? ⟨go8, ((ji5)).toNat * 3, none⟩ = some (.string ((rd_T98 x3_1 (ji5)).f0)) ∧ w'.cell? ⟨go8, ((ji5)).toNat * 3 + 1, none⟩ = some (.bool ((rd_T98 x3_1 (ji5)).f1)) ∧ w'.cell? ⟨go8, ((ji5)).toNat * 3 + 2, none⟩ = some (.bool ((rd_T98 x3_1 (ji5)).f2)) ∧ w'.cell? ⟨go8, ((ji5)).toNat * 3, none⟩ = some (.string ((rd_T98 x3_1 (ji5)).f0)) ∧ w'.cell? ⟨go8, ((ji5)).toNat * 3 + 1, none⟩ = some (.bool ((rd_T98 x3_1 (ji5)).f1)) ∧ w'.cell? ⟨go8, ((ji5)).toNat * 3 + 2, none⟩ = some (.bool ((rd_T98 x3_1 (ji5)).f2)) ∧ w'.cell? ⟨go8, ((ji5)).toNat * 3, none⟩ = some (.string ((rd_T98 x3_1 (ji5)).f0)) ∧ w'.cell? ⟨go8, ((ji5)).toNat * 3 + 1, none⟩ = some (.bool ((rd_T98 x3_1 (ji5)).f1)) ∧ w'.cell? ⟨go8, ((ji5)).toNat * 3 + 2, none⟩ = some (.bool ((rd_T98 x3_1 (ji5)).f2))) (ds := []) #[false, false, false, false, false, false, false, false, false, false, false, false, false, false, false, false, false, false, false, false, false, false, false, false] (by kernel_rfl) rfl rfl ⟨hx233_0, hx233_1, hx233_2, hx236_0, hx236_1, hx236_2, hx237_0, hx237_1, hx237_2⟩ (fun hHeld => ?_); refine with_tabW newelref05_parts.tab8 newelref05_parts.bits8 (fun HT_ HW_ => ?_)
  generalize wr.drew = w55 at HO_3 HB hx233_0 hx233_1 hx233_2 hx236_0 hx236_1 hx236_2 hx237_0 hx237_1 hx237_2 hHeld ⊢
  refine pz 0 (some 37) HT_ ?_
  refine pz 1 (some 38) HT_ ?_
  refine pz 2 (some 39) HT_ ?_
  refine tm 3 (some 40) HT_ HW_ hHeld ?_
  refine pz 4 (some 41) HT_ ?_
  refine pz 5 (some 42) HT_ ?_
  refine pz 6 (some 43) HT_ ?_
  refine pz 7 (some 44) HT_ ?_
  refine pz 8 (some 45) HT_ ?_
  refine pz 10 (some 47) HT_ ?_
  refine pz 11 (some 48) HT_ ?_
  refine pz 12 (some 49) HT_ ?_
  refine pz 18 (some 55) HT_ ?_
  refine pz 19 (some 56) HT_ ?_
  refine tm 9 (some 46) HT_ HW_ hHeld ?_
  refine tm 13 (some 50) HT_ HW_ hHeld ?_
  refine pz 14 (some 51) HT_ ?_
  refine pz 15 (some 52) HT_ ?_
  refine tm 16 (some 53) HT_ HW_ hHeld ?_
  refine tm 20 (some 57) HT_ HW_ hHeld ?_
  refine on 17 (some 54) HT_ (fun K hK => ?_)
  refine goes_ Tryd.func78 (by kernel_rfl) rfl #[.int .u8 (bt ((rd_T98 x3_1 (ji5)).f0) (ji33))] (by rfl) rfl rfl (by (try simp only [List.map_toArray, List.map_cons, List.map_nil]); first | done | (simp only [hji33, hji5]; rfl) | rfl | (simp only [List.length_drop, List.length_take]; rfl)) ?_
  with_reducible refine (newelref01_Digit.calls (bt ((rd_T98 x3_1 (ji5)).f0) (ji33)) t238 _ (gS HG) A37.out).mono ?_
  rintro e w' ⟨rfl, ⟨nd, rfl⟩⟩
  refine ⟨_, rfl, ?_⟩
  refine hK.out _ _ ⟨hHeld.1, hHeld.2.1, hHeld.2.2.1, hHeld.2.2.2.1, hHeld.2.2.2.2.1, hHeld.2.2.2.2.2.1, hHeld.2.2.2.2.2.2.1, hHeld.2.2.2.2.2.2.2.1, hHeld.2.2.2.2.2.2.2.2⟩ (fun hHeld => ?_)
  clear hK K
  refine nz (some 54) ?_
  refine on 21 (some 58) HT_ (fun K hK => ?_)
  refine goes_ Tryd.func78 (by kernel_rfl) rfl #[.int .u8 (bt a0 x4_1)] (by rfl) rfl rfl mA ?_
  with_reducible refine (newelref01_Digit.calls (bt a0 x4_1) t239 _ (gS HG) A39.out).mono ?_
  rintro e w' ⟨rfl, ⟨nd, rfl⟩⟩
  refine ⟨_, rfl, ?_⟩
  refine hK.out _ _ ⟨hHeld.1, hHeld.2.1, hHeld.2.2.1, hHeld.2.2.2.1, hHeld.2.2.2.2.1, hHeld.2.2.2.2.2.1, hHeld.2.2.2.2.2.2.1, hHeld.2.2.2.2.2.2.2.1, hHeld.2.2.2.2.2.2.2.2⟩ (fun hHeld => ?_)
  clear hK K
  refine nz (some 58) ?_
  refine pz 22 (some 59) HT_ ?_
  refine pz 23 (some 60) HT_ ?_
  refine done_ (done_of HT_.out (by kernel_rfl)) ?_
  have p41 : 0 ≤ (x4_1 : Int) := dA
  have q41 : x4_1 < (a0.size : Int) := dA
  have hx41 := bt_at a0 x4_1
  replace p41 := eq_true p41
  replace q41 := eq_true q41
  try go_wp2_with (first | (refine gl (some 65) Tryd.func78 #[.int .u8 (bt a0 x4_1)] ?_; (with_reducible refine (newelref01_Digit.calls (bt a0 x4_1) t240 _ (gS HG) A42.out).mono ?_); rintro e w' ⟨rfl, ⟨nd, rfl⟩⟩; refine ⟨_, rfl, ?_⟩; (try ((try simp only [World.drewN_drewN]); (first | generalize hq_ : World.drewN w55 _ = w55 | (rw [drewN_self w55]; generalize hq_ : World.drewN w55 _ = w55)); have n0_ : Aside0 (Kd.R k98 98 w55 w.heap.size (fun _ => True) (.slice (some ⟨go8, 0, none⟩) x3_1.length co54) x3_1) := ⟨by rw [← hq_]; exact (kR HO_3)⟩; have n1_ : Aside0 (Below w.heap.size w w55) := ⟨by rw [← hq_]; exact bE⟩; clear HO_3 HB hq_; have HO_3 := n0_; have HB := n1_; clear n0_ n1_)); have p43 : 0 ≤ ((ji5) : Int) := dA; have q43 : ((ji5) : Int) < ((x3_1.length : Int) : Int) := dA; obtain ⟨ce43, hcl43, hM43, hcc43, hfr43⟩ := Kd.R_elem HO_3.out z98 ((ji5) : Int) p43 q43; obtain rfl := k98_openM hM43; have hx43_0 : w55.cell? ⟨go8, ((ji5) : Int).toNat * 3, none⟩ = some (.string ((rd_T98 x3_1 (ji5)).f0)) := hcc43 0 _ rfl; have hx43_1 : w55.cell? ⟨go8, ((ji5) : Int).toNat * 3 + 1, none⟩ = some (.bool ((rd_T98 x3_1 (ji5)).f1)) := hcc43 1 _ rfl; have hx43_2 : w55.cell? ⟨go8, ((ji5) : Int).toNat * 3 + 2, none⟩ = some (.bool ((rd_T98 x3_1 (ji5)).f2)) := hcc43 2 _ rfl; have hf43_0 : w55.frozen? ⟨go8, ((ji5) : Int).toNat * 3, none⟩ = false := hfr43 0; have hf43_1 : w55.frozen? ⟨go8, ((ji5) : Int).toNat * 3 + 1, none⟩ = false := hfr43 1; have hf43_2 : w55.frozen? ⟨go8, ((ji5) : Int).toNat * 3 + 2, none⟩ = false := hfr43 2; clear hcl43 hcc43 hfr43 hM43; replace p43 := eq_true p43; replace q43 := eq_true q43; have HX56 := Aside0.mk (show Kd.R k98 98 w55 w.heap.size (fun _ => True) (.slice (some ⟨go8, 0, none⟩) x3_1.length co54) x3_1 from (kR HO_3)); obtain ⟨ce56, hcl56, hM56, hcc56, hfr56⟩ := Kd.R_elem HX56.out z98 ((ji5) : Int) (dA) (by have h_ : ((ji5) : Int) < ((x3_1.length : Int) : Int) := dA; first | exact h_ | (have e_ := (Kd.R_reads' HO_3.out).1; omega) | simpa using h_); obtain rfl := k98_openM hM56; have HP56 := Kd.R_seg HX56.out ((ji5) : Int) (dA) (by have h_ : ((ji5) : Int) < ((x3_1.length : Int) : Int) := dA; first | exact h_ | (have e_ := (Kd.R_reads' HO_3.out).1; omega) | simpa using h_) (seg := [.bool t240]) (j := 2) hcl56 hcc56 (show 3 ≤ 3 from by decide) (x' := (⟨(rd_T98 x3_1 (ji5)).f0, (rd_T98 x3_1 (ji5)).f1, t240⟩ : S98)) (k98_mkM _ _ _ (⟨(rd_T98 x3_1 (ji5)).f0, (rd_T98 x3_1 (ji5)).f1, t240⟩ : S98) ) (fun _ hk => hk); have hx56_2 := hcc56 2 _ rfl; (try simp only [show (k98).sz = 3 from rfl, Nat.mul_one, Nat.add_zero] at hx56_2); have hf56_2 := hfr56 2; (try simp only [show (k98).sz = 3 from rfl, Nat.mul_one, Nat.add_zero] at hf56_2); clear hcl56 hcc56 hfr56 hM56) | ((with_reducible refine gate_store (t := 4) (p := 67) rfl ?_); refine store_event (t := 4) (p := 67) (v := ?vo_w57) (w1 := (w55.setCell ⟨go8, ((ji5) : Int).toNat * 3 + 2, none⟩ (.bool t240))) ?hg ?ho ?hn ?hr ?_; (case ho => rfl); (case hg => rfl); (case hn => rfl); (case hr => first | (go_simp; done) | (go_simp; rfl)); intro w57 hw; have hg : w55.grownBy w57 (some go8) := (by rw [hw]; exact HP56.2); have hp_ : Kd.R k98 98 w57 w.heap.size (fun _ => True) (.slice (some ⟨go8, 0, none⟩) x3_1.length co54) y241 := (by rw [hw, Ny241.out]; exact HP56.1); clear HP56; replace HO_3 := Aside0.mk (hp_); replace HB := Aside0.mk ((by rw [hw]; exact below_set (HB.out) GB8.out : Below w.heap.size w w57)); clear hg hw hp_) | ((with_reducible refine gate_builtin (b := .append) (xs := #[.tmp 68, .tmp 70]) rfl ?_); (try (refine gate_guard (by rfl) ?_; dsimp only)); at_builtin; refine Kd.R_append k98 (w0 := w) w.heap.size rfl (.tmp 68) (.tmp 70) 94 98 (.agg #[(.string ⟨#[]⟩), (.bool false), (.bool false)]) 24 rfl Tryd.underlying94 info98 rfl (by decide) (by omega) (.slice (some ⟨go8, 0, none⟩) x3_1.length co54) y241 (⟨(⟨#[]⟩ : ByteArray), true, false⟩ : S98) [.string (⟨#[]⟩ : ByteArray), .bool true, .bool false] (fun _ => True) (fun _ => False) rfl rfl ?aP (fun _ hk => hk.elim) ?aF ?aO ?aB ?aS ?aL ?_; (case aP => exact k98_mkM _ _ _ (⟨(⟨#[]⟩ : ByteArray), true, false⟩ : S98)); (case aB => exact bE); (case aF => exact (fun _ _ => trivial)); (case aO => exact (kR HO_3)); (case aS => exact (below_size bE)); (case aL => have := LMc44.out; omega); intro v243 w58 ho hb hg hat; rw [← Ny242.out] at ho; replace HB := Aside0.mk (hb); have HO244 := Aside0.mk (ho); clear HO_3; clear ho hb hg hat; obtain ⟨Ao59, co59, eo59⟩ := Kd.R_slice HO244.out; subst eo59; have p48 : 0 ≤ ((ji45) : Int) := dA; have q48 : ((ji45) : Int) < ((y242.length : Int) : Int) := dA; obtain ⟨go48, co48, eo48, gb48, gl48, cl48, HG48⟩ := Kd.R_form HO244.out (by omega); (first | cases eo48 | (injection eo48 with ea_ en_ ec_; (first | subst ea_ | (injection ea_ with ea_; subst ea_)); subst ec_; clear en_)); have GB48 := Aside0.mk gb48; have GG48 := Aside0.mk HG48; clear gb48 gl48 HG48; obtain ⟨ce48, hcl48, hM48, hcc48, hfr48⟩ := Kd.R_elem HO244.out z98 ((ji45) : Int) p48 q48; obtain rfl := k98_openM hM48; have hx48_0 : w58.cell? ⟨go48, ((ji45) : Int).toNat * 3, none⟩ = some (.string ((rd_T98 y242 (ji45)).f0)) := hcc48 0 _ rfl; have hx48_1 : w58.cell? ⟨go48, ((ji45) : Int).toNat * 3 + 1, none⟩ = some (.bool ((rd_T98 y242 (ji45)).f1)) := hcc48 1 _ rfl; have hx48_2 : w58.cell? ⟨go48, ((ji45) : Int).toNat * 3 + 2, none⟩ = some (.bool ((rd_T98 y242 (ji45)).f2)) := hcc48 2 _ rfl; have hf48_0 : w58.frozen? ⟨go48, ((ji45) : Int).toNat * 3, none⟩ = false := hfr48 0; have hf48_1 : w58.frozen? ⟨go48, ((ji45) : Int).toNat * 3 + 1, none⟩ = false := hfr48 1; have hf48_2 : w58.frozen? ⟨go48, ((ji45) : Int).toNat * 3 + 2, none⟩ = false := hfr48 2; clear hcl48 hcc48 hfr48 hM48; replace p48 := eq_true p48; replace q48 := eq_true q48))
  replace HO244 := Aside0.mk (Kd.R_drew HO244.out)
  replace HB := Aside0.mk (below_drew1 HB.out)
  have p245 : 0 ≤ ((ji45) : Int) := dA
  have q245 : (ji45) < (y242.length : Int) := dA
  obtain ⟨ad245, e245, hx245_0, hx245_1, hx245_2⟩ := at_T98 (Kd.R_reads' HO244.out).2.2 (ji45) p245 q245
  obtain rfl : (⟨go48, 0, none⟩ : Addr) = ad245 := (by injection e245)
  (first | simp only [add_plain] at hx245_0 | simp only [add_at] at hx245_0 | simp only [Addr.add, Nat.zero_add] at hx245_0 | skip)
  (first | simp only [add_plain] at hx245_1 | simp only [add_at] at hx245_1 | simp only [Addr.add, Nat.zero_add] at hx245_1 | skip)
  (first | simp only [add_plain] at hx245_2 | simp only [add_at] at hx245_2 | simp only [Addr.add, Nat.zero_add] at hx245_2 | skip)
  replace p245 := eq_true p245
  replace q245 := eq_true q245
  have p53 : 0 ≤ ((ji45) : Int) := dA
  have q53 : ((ji45) : Int) < ((y242.length : Int) : Int) := dA
  obtain ⟨ce53, hcl53, hM53, hcc53, hfr53⟩ := Kd.R_elem HO244.out z98 ((ji45) : Int) p53 q53
  obtain rfl := k98_openM hM53
  have hx53_0 : World.cell? _ ⟨go48, ((ji45) : Int).toNat * 3, none⟩ = some (.string ((rd_T98 y242 (ji45)).f0)) := hcc53 0 _ rfl
  have hx53_1 : World.cell? _ ⟨go48, ((ji45) : Int).toNat * 3 + 1, none⟩ = some (.bool ((rd_T98 y242 (ji45)).f1)) := hcc53 1 _ rfl
  have hx53_2 : World.cell? _ ⟨go48, ((ji45) : Int).toNat * 3 + 2, none⟩ = some (.bool ((rd_T98 y242 (ji45)).f2)) := hcc53 2 _ rfl
  have hf53_0 : World.frozen? _ ⟨go48, ((ji45) : Int).toNat * 3, none⟩ = false := hfr53 0
  have hf53_1 : World.frozen? _ ⟨go48, ((ji45) : Int).toNat * 3 + 1, none⟩ = false := hfr53 1
  have hf53_2 : World.frozen? _ ⟨go48, ((ji45) : Int).toNat * 3 + 2, none⟩ = false := hfr53 2
  clear hcl53 hcc53 hfr53 hM53
  replace p53 := eq_true p53
  replace q53 := eq_true q53
  obtain ⟨ce61, hcl61, hM61, hcc61, hfr61⟩ := Kd.R_elem HO244.out z98 ((ji45) : Int) (dA) (by have h_ : ((ji45) : Int) < ((y242.length : Int) : Int) := dA; first | exact h_ | (have e_ := (Kd.R_reads' HO244.out).1; omega) | simpa using h_)
  obtain rfl := k98_openM hM61
  have HP61 := (Kd.R_seg HO244.out ((ji45) : Int) (dA) (by have h_ : ((ji45) : Int) < ((y242.length : Int) : Int) := dA; first | exact h_ | (have e_ := (Kd.R_reads' HO244.out).1; omega) | simpa using h_) (seg := [.string (((rd_T98 y242 (ji45)).f0) ++ (a0.extract (x4_1 : Int).toNat ((wrap64 (x4_1 + 1)) : Int).toNat))]) (j := 0) hcl61 hcc61 (show 1 ≤ 3 from by decide) (x' := (⟨((rd_T98 y242 (ji45)).f0) ++ (a0.extract (x4_1 : Int).toNat ((wrap64 (x4_1 + 1)) : Int).toNat), (rd_T98 y242 (ji45)).f1, (rd_T98 y242 (ji45)).f2⟩ : S98)) (k98_mkM _ _ _ (⟨((rd_T98 y242 (ji45)).f0) ++ (a0.extract (x4_1 : Int).toNat ((wrap64 (x4_1 + 1)) : Int).toNat), (rd_T98 y242 (ji45)).f1, (rd_T98 y242 (ji45)).f2⟩ : S98) ) (fun _ hk => hk)).1
  rw [← Ny246.out] at HP61
  have HQ61 := Aside0.mk HP61
  clear hcl61 hcc61 hfr61 hM61 HP61
  refine start_ (n := 14) (S := fun w' => w'.cell? ⟨go48, ((ji45)).toNat * 3, none⟩ = some (.string ((rd_T98 y242 (ji45)).f0)) ∧ w'.cell? ⟨go48, ((ji45)).toNat * 3 + 1, none⟩ = some (.bool ((rd_T98 y242 (ji45)).f1)) ∧ w'.cell? ⟨go48, ((ji45)).toNat * 3 + 2, none⟩ = some (.bool ((rd_T98 y242 (ji45)).f2))) (ds := [13]) #[false, false, false, false, false, false, false, false, false, false, false, false, false, false] (by kernel_rfl) rfl rfl ⟨hx245_0, hx245_1, hx245_2⟩ (fun hHeld => ?_); refine with_tabW newelref05_parts.tab12 newelref05_parts.bits12 (fun HT_ HW_ => ?_)
  generalize w58.drew = w60 at HO244 HB HQ61 hf53_0 hf53_1 hf53_2 hx245_0 hx245_1 hx245_2 hx53_0 hx53_1 hx53_2 hHeld ⊢
  refine pz 0 (some 77) HT_ ?_
  refine pz 1 (some 78) HT_ ?_
  refine pz 2 (some 79) HT_ ?_
  refine pz 3 (some 80) HT_ ?_
  refine pz 5 (some 82) HT_ ?_
  refine pz 6 (some 83) HT_ ?_
  refine pz 7 (some 84) HT_ ?_
  refine pz 8 (some 85) HT_ ?_
  refine pz 9 (some 86) HT_ ?_
  refine tm 4 (some 81) HT_ HW_ hHeld ?_
  refine pz 10 (some 87) HT_ ?_
  refine pz 11 (some 88) HT_ ?_
  refine pz 12 (some 89) HT_ ?_
  refine last_ (i := 13) (N := none) #[true, true, true, true, true, true, true, true, true, true, true, true, true, true] rfl rfl (one_of HT_.out (by kernel_rfl)) (by decide) (fun K hK => ?_)
  refine skip_ (w1 := ?_) (by rfl) rfl ?_ ?_
  rotate_left
  ·go_simp
   rfl
  refine hK.out _ _ ?_
  clear hK K
  refine done_ (done_of HT_.out (by kernel_rfl)) ?_
  try go_wp2
  go_roundg k1
  case measure => have := HK1.out; omega
  case rel => exact ⟨(y246), (wrap64 (x4_1 + 1)), cA, H', ⟨by have := HK1.out; omega⟩, ⟨by (with_reducible repeat (first | apply Kd.R_alloc | apply Kd.R_drewN | apply Kd.R_drew)); exact HQ61.out⟩, ⟨by repeat (first | (with_reducible first | exact HB.out | apply below_alloc | apply pw_below_drewN | apply below_drew1 | refine below_set ?_ GB48.out) | exact HB.out)⟩⟩
def newelref01_Lower.l0 : Nat → ByteArray → List Int → Int → Option (ByteArray)
 | 0, _, _, _ => none
 | k + 1, x0, x3, x4 => if x4 < (x0.size : Int) then (if 0 ≤ x4 then (if (bt x0 x4) ≥ 65 then (if (bt x0 x4) ≤ 90 then (if x3.length < 140737488355328 then (newelref01_Lower.l0 k x0 (x3 ++ [((bt x0 x4) + 32) % 256]) (wrap64 (x4 + 1))) else (none)) else (if x3.length < 140737488355328 then (newelref01_Lower.l0 k x0 (x3 ++ [bt x0 x4]) (wrap64 (x4 + 1))) else (none))) else (if x3.length < 140737488355328 then (newelref01_Lower.l0 k x0 (x3 ++ [bt x0 x4]) (wrap64 (x4 + 1))) else (none))) else (none)) else (some (strOfNums x3))
def newelref01_Lower.f (k : Nat) (a0 : ByteArray) : Option (ByteArray) := newelref01_Lower.l0 k a0 ([] : List Int) 0
theorem newelref01_Lower.calls (k : Nat) (a0 : ByteArray) (r : ByteArray) (w : World) (hG : Glob w) (h : newelref01_Lower.f k a0 = some r) :
 Calls Tryd.prog 76 #[.string a0] w fun e w' => e = .returned (.string r) ∧ Below w.heap.size w w' := by
 have HG := Aside0.mk hG
 clear hG
 have HB := Aside0.mk (Below.refl w.heap.size w)
 have H : (newelref01_Lower.l0 k a0 ([] : List Int) 0) = some r := h
 clear h
 have H' := Aside0.mk H
 clear H
 go_enter Tryd.func76, Tryd.ntmps76
 go_wp2
 go_loopg [3, 4] k (fun kq v3 v4 w' => ∃ (x3_1 : List Int) (x4_1 : Int), v4 = .int .i64 x4_1 ∧ Aside0 (newelref01_Lower.l0 kq a0 x3_1 x4_1 = some r) ∧ Aside0 (kq ≤ k) ∧ Aside0 (Kd.R (Kd.int .u8) 5 w' w.heap.size (fun _ => True) v3 x3_1) ∧ Aside0 (Below w.heap.size w w'))
 case atStart => exact ⟨(([] : List Int)), (0), cA, H', ⟨Nat.le_refl _⟩, ⟨by first | exact Kd.R_nil _ _ _ _ _ | exact Kd.N_nil _ _ _ _ _ | exact Kd.V_nil _ _ _ _ _ | exact Kd.Q_nil _ _ _ _ _ | exact Kd.S_nil _ _ _ _ _⟩, ⟨bE⟩⟩
 clear H'
 obtain ⟨x3_1, x4_1, rfl, HA, HK1, HO_3, HB⟩ := hrel
 cases gk with
 | zero => exact absurd HA.out (by simp [newelref01_Lower.l0])
 | succ k1 =>
  have H := HA.out
  clear HA
  simp only [newelref01_Lower.l0] at H
  (try simp only [toList_lit] at H)
  by_cases c2 : x4_1 < (a0.size : Int)
  rotate_left
  ·rw [if_neg c2] at H
   have c2b0 := dF c2
   clear c2
   obtain rfl := Option.some.inj H
   have hcv13 := own_string (P := Tryd.prog) Tryd.underlying30 Tryd.underlying5 Tryd.underlying9 (Kd.own_of_R HO_3.out)
   go_wp2
   go_ret
   exact ⟨eA, bE⟩
  rw [if_pos c2] at H
  have c2b0 := dT c2
  clear c2
  obtain ⟨c3, H⟩ := gp H
  have c3b0 := dT c3
  clear c3
  by_cases c5 : (bt a0 x4_1) ≥ 65
  rotate_left
  ·rw [if_neg c5] at H
   have c5b0 := dF c5
   clear c5
   obtain ⟨c11, H⟩ := gp H
   have LMc11 := Aside0.mk c11
   clear c11
   obtain ⟨y221, hy221⟩ : ∃ y_ : List Int, y_ = (x3_1 ++ [bt a0 x4_1]) := ⟨_, rfl⟩
   replace H : (newelref01_Lower.l0 k1 a0 y221 (wrap64 (x4_1 + 1))) = some r := by first | (rw [hy221]; with_reducible exact H) | (have H2_ := (Option.bind_some _ _).symm.trans H; rw [hy221]; with_reducible exact H2_) | (have H2_ := (Option.bind_some _ _).symm.trans H; with_reducible exact H2_) | with_reducible exact H | (rw [hy221]; exact H) | exact H
   have Ny221 := Aside0.mk hy221
   clear hy221
   have H' := Aside0.mk H
   clear H
   have p4 : 0 ≤ (x4_1 : Int) := dA
   have q4 : x4_1 < (a0.size : Int) := dA
   have hx4 := bt_at a0 x4_1
   replace p4 := eq_true p4
   replace q4 := eq_true q4
   go_wp2_with (first | ((with_reducible refine gate_builtin (b := .append) (xs := #[.tmp 23, .tmp 25]) rfl ?_); at_builtin; refine Kd.R_append (Kd.int .u8) (w0 := w) w.heap.size rfl (.tmp 23) (.tmp 25) 30 5 (.int .u8 0) 1 rfl Tryd.underlying30 info5 rfl (by decide) (by omega) u3 x3_1 (bt a0 x4_1) [.int .u8 (bt a0 x4_1)] (fun _ => True) (fun _ => False) rfl rfl ?aP (fun _ hk => hk.elim) ?aF ?aO ?aB ?aS ?aL ?_; (case aP => exact rfl); (case aB => exact bE); (case aF => exact (fun _ _ => trivial)); (case aO => exact (kR HO_3)); (case aS => exact (below_size bE)); (case aL => have := LMc11.out; omega); intro v222 w12 ho hb hg hat; rw [← Ny221.out] at ho; replace HB := Aside0.mk (hb); have HO223 := Aside0.mk (ho); clear HO_3; clear ho hb hg hat))
   go_roundg k1
   case measure => have := HK1.out; omega
   case rel => exact ⟨(y221), (wrap64 (x4_1 + 1)), cA, H', ⟨by have := HK1.out; omega⟩, ⟨kR HO223⟩, ⟨bE⟩⟩
  rw [if_pos c5] at H
  have c5b0 := dT c5
  clear c5
  by_cases c6 : (bt a0 x4_1) ≤ 90
  rotate_left
  ·rw [if_neg c6] at H
   have c6b0 := dF c6
   clear c6
   obtain ⟨c9, H⟩ := gp H
   have LMc9 := Aside0.mk c9
   clear c9
   obtain ⟨y218, hy218⟩ : ∃ y_ : List Int, y_ = (x3_1 ++ [bt a0 x4_1]) := ⟨_, rfl⟩
   replace H : (newelref01_Lower.l0 k1 a0 y218 (wrap64 (x4_1 + 1))) = some r := by first | (rw [hy218]; with_reducible exact H) | (have H2_ := (Option.bind_some _ _).symm.trans H; rw [hy218]; with_reducible exact H2_) | (have H2_ := (Option.bind_some _ _).symm.trans H; with_reducible exact H2_) | with_reducible exact H | (rw [hy218]; exact H) | exact H
   have Ny218 := Aside0.mk hy218
   clear hy218
   have H' := Aside0.mk H
   clear H
   have p4 : 0 ≤ (x4_1 : Int) := dA
   have q4 : x4_1 < (a0.size : Int) := dA
   have hx4 := bt_at a0 x4_1
   replace p4 := eq_true p4
   replace q4 := eq_true q4
   go_wp2_with (first | ((with_reducible refine gate_builtin (b := .append) (xs := #[.tmp 23, .tmp 25]) rfl ?_); at_builtin; refine Kd.R_append (Kd.int .u8) (w0 := w) w.heap.size rfl (.tmp 23) (.tmp 25) 30 5 (.int .u8 0) 1 rfl Tryd.underlying30 info5 rfl (by decide) (by omega) u3 x3_1 (bt a0 x4_1) [.int .u8 (bt a0 x4_1)] (fun _ => True) (fun _ => False) rfl rfl ?aP (fun _ hk => hk.elim) ?aF ?aO ?aB ?aS ?aL ?_; (case aP => exact rfl); (case aB => exact bE); (case aF => exact (fun _ _ => trivial)); (case aO => exact (kR HO_3)); (case aS => exact (below_size bE)); (case aL => have := LMc9.out; omega); intro v219 w10 ho hb hg hat; rw [← Ny218.out] at ho; replace HB := Aside0.mk (hb); have HO220 := Aside0.mk (ho); clear HO_3; clear ho hb hg hat))
   go_roundg k1
   case measure => have := HK1.out; omega
   case rel => exact ⟨(y218), (wrap64 (x4_1 + 1)), cA, H', ⟨by have := HK1.out; omega⟩, ⟨kR HO220⟩, ⟨bE⟩⟩
  rw [if_pos c6] at H
  have c6b0 := dT c6
  clear c6
  obtain ⟨c7, H⟩ := gp H
  have LMc7 := Aside0.mk c7
  clear c7
  obtain ⟨y215, hy215⟩ : ∃ y_ : List Int, y_ = (x3_1 ++ [((bt a0 x4_1) + 32) % 256]) := ⟨_, rfl⟩
  replace H : (newelref01_Lower.l0 k1 a0 y215 (wrap64 (x4_1 + 1))) = some r := by first | (rw [hy215]; with_reducible exact H) | (have H2_ := (Option.bind_some _ _).symm.trans H; rw [hy215]; with_reducible exact H2_) | (have H2_ := (Option.bind_some _ _).symm.trans H; with_reducible exact H2_) | with_reducible exact H | (rw [hy215]; exact H) | exact H
  have Ny215 := Aside0.mk hy215
  clear hy215
  have H' := Aside0.mk H
  clear H
  have p4 : 0 ≤ (x4_1 : Int) := dA
  have q4 : x4_1 < (a0.size : Int) := dA
  have hx4 := bt_at a0 x4_1
  replace p4 := eq_true p4
  replace q4 := eq_true q4
  go_wp2_with (first | ((with_reducible refine gate_builtin (b := .append) (xs := #[.tmp 23, .tmp 25]) rfl ?_); at_builtin; refine Kd.R_append (Kd.int .u8) (w0 := w) w.heap.size rfl (.tmp 23) (.tmp 25) 30 5 (.int .u8 0) 1 rfl Tryd.underlying30 info5 rfl (by decide) (by omega) u3 x3_1 (((bt a0 x4_1) + 32) % 256) [.int .u8 (((bt a0 x4_1) + 32) % 256)] (fun _ => True) (fun _ => False) rfl rfl ?aP (fun _ hk => hk.elim) ?aF ?aO ?aB ?aS ?aL ?_; (case aP => exact rfl); (case aB => exact bE); (case aF => exact (fun _ _ => trivial)); (case aO => exact (kR HO_3)); (case aS => exact (below_size bE)); (case aL => have := LMc7.out; omega); intro v216 w8 ho hb hg hat; rw [← Ny215.out] at ho; replace HB := Aside0.mk (hb); have HO217 := Aside0.mk (ho); clear HO_3; clear ho hb hg hat))
  go_roundg k1
  case measure => have := HK1.out; omega
  case rel => exact ⟨(y215), (wrap64 (x4_1 + 1)), cA, H', ⟨by have := HK1.out; omega⟩, ⟨kR HO217⟩, ⟨bE⟩⟩
mutual
def newelref05_number.j1 : Nat → ByteArray → ByteArray → Bool → Bool → Option (Int × ByteArray)
 | 0, _, _, _, _ => none
 | k + 1, x3, x250000, x250001, x250002 => if x3.toList = ([] : List UInt8) then (some (6, (⟨#[]⟩ : ByteArray))) else (if x250001 = true then (some (9, x3)) else (some (10, x3)))
def newelref05_number.l0 : Nat → ByteArray → ByteArray → Bool → Bool → Option (Int × ByteArray)
 | 0, _, _, _, _ => none
 | k + 1, x3, x250000, x250001, x250002 => if (x3.size : Int) > 0 then (if 0 < (x3.size : Int) then (if (bt x3 0) = 48 then (if 1 ≤ (x3.size : Int) then (newelref05_number.l0 k (x3.extract 1 x3.size) x250000 x250001 x250002) else (none)) else (newelref05_number.j1 k x3 x250000 x250001 x250002)) else (none)) else (newelref05_number.j1 k x3 x250000 x250001 x250002)
end
def newelref05_number.f (k : Nat) (a0_0 : ByteArray) (a0_1 : Bool) (a0_2 : Bool) : Option (Int × ByteArray) := newelref05_number.l0 k a0_0 a0_0 a0_1 a0_2
theorem newelref05_number.calls (k : Nat) (a0_0 : ByteArray) (a0_1 : Bool) (a0_2 : Bool) (r1 : Int) (r2 : ByteArray) (w : World) (hG : Glob w) (h : newelref05_number.f k a0_0 a0_1 a0_2 = some (r1, r2)) :
 Calls Tryd.prog 109 #[.agg #[.string a0_0, .bool a0_1, .bool a0_2]] w fun e w' => e = .returned (.agg #[.int .i64 r1, .string r2]) ∧ Below w.heap.size w w' := by
 have hu98 := Tryd.underlying98
 have hu38 := Tryd.underlying38
 have HG := Aside0.mk hG
 clear hG
 have HB := Aside0.mk (Below.refl w.heap.size w)
 have H : (newelref05_number.l0 k a0_0 a0_0 a0_1 a0_2) = some (r1, r2) := h
 clear h
 have HC2 := Aside0.mk H
 clear H
 go_enter Tryd.func109, Tryd.ntmps109
 go_upto_block 0 with (first | (refine be 1 #[.string a0_0, .bool a0_1, .bool a0_2] 98 ?_; intro gb249 hg w3 hbox hb; have BK249 := Aside0.mk (hbox); have GW249 := gW hg; have GE249 := gW hg; replace HB := sB hb; clear hb hbox hg) | (refine be 2 #[.int .i64 0, .string (⟨#[]⟩ : ByteArray)] 38 ?_; intro gb250 hg w4 hbox hb; have BK250 := Aside0.mk (hbox); have GW250 := gW hg; have GE250 := gW hg; replace HB := sB hb; have NB249_250 := nL BK249 hg; have NB250_249 := nG BK249 hg; replace BK249 := kB BK249 hb; clear hb hbox hg; have hnb5 := NB249_250.out; have hnc5 := NB250_249.out; have hcz6_0 : w4.cell? ⟨gb249, 0, none⟩ = some (.string a0_0) := (blk_cell BK249.out 0).trans rfl; have hcz6_1 : w4.cell? ⟨gb249, 1, none⟩ = some (.bool a0_1) := (blk_cell BK249.out 1).trans rfl; have hcz6_2 : w4.cell? ⟨gb249, 2, none⟩ = some (.bool a0_2) := (blk_cell BK249.out 2).trans rfl; have hfz6_0 := blk_frozen BK249.out 0; have hfz6_1 := blk_frozen BK249.out 1; have hfz6_2 := blk_frozen BK249.out 2))
 (try simp only [Act.put, List.setIfInBounds_toArray, List.set_cons_zero, List.set_cons_succ])
 go_cut [3] (fun v3 wc => ∃ (kq : Nat) (x3_1 : ByteArray), v3 = .string x3_1 ∧ Aside0 (newelref05_number.j1 kq x3_1 a0_0 a0_1 a0_2 = some (r1, r2)) ∧ Aside0 (kq ≤ k) ∧ Aside0 (wc.heap[gb249]? = some (.cells #[.string a0_0, .bool a0_1, .bool a0_2] 98 (0, 0))) ∧ Aside0 (wc.heap[gb250]? = some (.cells #[.int .i64 0, .string (⟨#[]⟩ : ByteArray)] 38 (0, 0))) ∧ Aside0 (Below w.heap.size w wc))
 case first =>
  have H := HC2.out
  clear HC2
  have H' := Aside0.mk H
  clear H
  go_wp2
  go_loopg [3] k (fun kq v3 w' => ∃ (x3_1 : ByteArray), v3 = .string x3_1 ∧ Aside0 (newelref05_number.l0 kq x3_1 a0_0 a0_1 a0_2 = some (r1, r2)) ∧ Aside0 (kq ≤ k) ∧ Aside0 (w'.heap[gb249]? = some (.cells #[.string a0_0, .bool a0_1, .bool a0_2] 98 (0, 0))) ∧ Aside0 (w'.heap[gb250]? = some (.cells #[.int .i64 0, .string (⟨#[]⟩ : ByteArray)] 38 (0, 0))) ∧ Aside0 (Below w.heap.size w w'))
  case atStart => exact ⟨(a0_0), cA, H', ⟨Nat.le_refl _⟩, ⟨bK BK249⟩, ⟨bK BK250⟩, ⟨bG⟩⟩
  clear H'
  try clear c1
  try clear p2
  try clear c5
  try clear hcz6_0
  try clear hcz6_1
  try clear hcz6_2
  try clear hfz6_0
  try clear hfz6_1
  try clear hfz6_2
  obtain ⟨x3_1, rfl, HA, HK1, BK249, BK250, HB⟩ := hrel
  cases gk with
  | zero => exact absurd HA.out (by simp [newelref05_number.l0])
  | succ k1 =>
   have H := HA.out
   clear HA
   simp only [newelref05_number.l0] at H
   (try simp only [toList_lit] at H)
   by_cases c7 : (x3_1.size : Int) > 0
   rotate_left
   ·rw [if_neg c7] at H
    have c7b0 := dF c7
    have c7b1 : decide (0 < x3_1.size) = false := decide_eq_false (by omega)
    clear c7
    (first | rw [c7b0] | (simp only [i64_w, i32_w]; rw [c7b0]) | skip)
    have H' := Aside0.mk H
    clear H
    go_wp2
    go_meet
    case rel => exact ⟨_, (x3_1), cA, H', ⟨by have := HK1.out; first | omega | exact Nat.le_refl _⟩, ⟨bK BK249⟩, ⟨bK BK250⟩, ⟨bG⟩⟩
   rw [if_pos c7] at H
   have c7b0 := dT c7
   have c7b1 : decide (0 < x3_1.size) = true := decide_eq_true (by omega)
   clear c7
   (first | rw [c7b0] | (simp only [i64_w, i32_w]; rw [c7b0]) | skip)
   obtain ⟨c8, H⟩ := gp H
   have c8b0 := dT c8
   have c8b1 : decide (0 < x3_1.size) = true := decide_eq_true (by omega)
   clear c8
   by_cases c10 : (bt x3_1 0) = 48
   rotate_left
   ·rw [if_neg c10] at H
    obtain ⟨c10b0, c10b1⟩ := eqF c10
    have H' := Aside0.mk H
    clear H
    have p9 : 0 ≤ (0 : Int) := (by omega)
    have q9 : 0 < x3_1.size := (by have : (0 : Int) < (x3_1.size : Int) := dA; omega)
    have hx9 : ∀ h : 0 < x3_1.size, ((x3_1[0]'h).toNat : Int) = bt x3_1 0 := bt_at x3_1 0
    clear p9
    have qi9 : (0 < (x3_1.size : Int)) = True := eq_true (dA)
    replace q9 := eq_true q9
    go_wp2
    go_meet
    case rel => exact ⟨_, (x3_1), cA, H', ⟨by have := HK1.out; first | omega | exact Nat.le_refl _⟩, ⟨bK BK249⟩, ⟨bK BK250⟩, ⟨bG⟩⟩
   rw [if_pos c10] at H
   obtain ⟨c10b0, c10b1⟩ := eqT c10
   clear c10
   obtain ⟨c11, H⟩ := gp H
   have c11b0 := eq_true c11
   have c11b1 := dT c11
   clear c11
   have H' := Aside0.mk H
   clear H
   have p9 : 0 ≤ (0 : Int) := (by omega)
   have q9 : 0 < x3_1.size := (by have : (0 : Int) < (x3_1.size : Int) := dA; omega)
   have hx9 : ∀ h : 0 < x3_1.size, ((x3_1[0]'h).toNat : Int) = bt x3_1 0 := bt_at x3_1 0
   clear p9
   have qi9 : (0 < (x3_1.size : Int)) = True := eq_true (dA)
   replace q9 := eq_true q9
   go_wp2
   go_roundg k1
   case measure => have := HK1.out; omega
   case rel => exact ⟨(x3_1.extract 1 x3_1.size), cA, H', ⟨by have := HK1.out; omega⟩, ⟨bK BK249⟩, ⟨bK BK250⟩, ⟨bG⟩⟩
 clear HC2
 try clear c1
 try clear p2
 try clear c5
 try clear c7
 try clear c7b0
 try clear c7b1
 try clear c8
 try clear c8b0
 try clear c8b1
 try clear p9
 try clear q9
 try clear hx9
 try clear qi9
 try clear c10
 try clear c10b0
 try clear c10b1
 try clear c11
 try clear c11b0
 try clear c11b1
 try clear hcz6_0
 try clear hcz6_1
 try clear hcz6_2
 try clear hfz6_0
 try clear hfz6_1
 try clear hfz6_2
 try clear p2
 try clear p9
 try clear q9
 obtain ⟨kq, x3_1, rfl, HA, HJ1, BK249, BK250, HB⟩ := hcut
 cases kq with
 | zero => exact absurd HA.out (by simp [newelref05_number.j1])
 | succ kj1 =>
  have H := HA.out
  clear HA
  simp only [newelref05_number.j1] at H
  (try simp only [toList_lit] at H)
  by_cases c12 : x3_1.toList = ([] : List UInt8)
  ·rw [if_pos c12] at H
   obtain ⟨c12b0, c12b1⟩ := eqT c12
   (try (have c12b2 : x3_1.toList.isEmpty = true := by simpa using c12))
   clear c12
   simp only [Option.some.injEq, Prod.mk.injEq] at H
   obtain ⟨rfl, rfl⟩ := H
   have hnb13 := NB250_249.out
   have hnc13 := NB249_250.out
   obtain ⟨hcz14_0, hcz14_1, hfz14_0, hfz14_1⟩ := cells2 BK250
   go_wp2
   refine bodyPost_ret (results_cell_row rfl _ _ gb250 38 #[.int .i64 6, .string (⟨#[]⟩ : ByteArray)] (0, 0) _ rfl (bP BK250) Tryd.underlying38 rfl (by kernel_rfl)) rfl ?_
   exact ⟨eA, bG⟩
  rw [if_neg c12] at H
  obtain ⟨c12b0, c12b1⟩ := eqF c12
  (try (have c12b2 : x3_1.toList.isEmpty = false := by simpa using c12))
  by_cases c15 : a0_1 = true
  ·subst c15
   replace H : (some (9, x3_1)) = some (r1, r2) := by rw [if_pos rfl] at H; exact H
   simp only [Option.some.injEq, Prod.mk.injEq] at H
   obtain ⟨rfl, rfl⟩ := H
   have hnb16 := NB249_250.out
   have hnc16 := NB250_249.out
   obtain ⟨hcz17_0, hcz17_1, hcz17_2, hfz17_0, hfz17_1, hfz17_2⟩ := cells3 BK249
   obtain ⟨hcz18_0, hcz18_1, hfz18_0, hfz18_1⟩ := cells2 BK250
   go_wp2
   refine bodyPost_ret (results_cell_row rfl _ _ gb250 38 #[.int .i64 9, .string x3_1] (0, 0) _ rfl (bP BK250) Tryd.underlying38 rfl (by kernel_rfl)) rfl ?_
   exact ⟨eA, bG⟩
  replace c15 := Bool.eq_false_iff.mpr c15
  subst c15
  replace H : (some (10, x3_1)) = some (r1, r2) := by rw [if_neg nF] at H; exact H
  simp only [Option.some.injEq, Prod.mk.injEq] at H
  obtain ⟨rfl, rfl⟩ := H
  have hnb19 := NB249_250.out
  have hnc19 := NB250_249.out
  obtain ⟨hcz20_0, hcz20_1, hcz20_2, hfz20_0, hfz20_1, hfz20_2⟩ := cells3 BK249
  obtain ⟨hcz21_0, hcz21_1, hfz21_0, hfz21_1⟩ := cells2 BK250
  go_wp2
  refine bodyPost_ret (results_cell_row rfl _ _ gb250 38 #[.int .i64 10, .string x3_1] (0, 0) _ rfl (bP BK250) Tryd.underlying38 rfl (by kernel_rfl)) rfl ?_
  exact ⟨eA, bG⟩
mutual
def newelref05_word.j0 : Nat → Bool → ByteArray → Bool → Bool → Option (Int × ByteArray)
 | 0, _, _, _, _ => none
 | k + 1, x12, x252000, x252001, x252002 => if x12 = true then ((newelref05_number.f k x252000 x252001 x252002).bind fun bt254 => (some (bt254.1, bt254.2))) else (if x252000.toList = ([97, 108, 112, 104, 97] : List UInt8) then (newelref05_word.j3 k 1 x252000 x252001 x252002) else (if x252000.toList = ([98, 101, 116, 97] : List UInt8) then (newelref05_word.j3 k 2 x252000 x252001 x252002) else (if x252000.toList = ([109, 105, 108, 101, 115, 116, 111, 110, 101] : List UInt8) then (newelref05_word.j3 k 3 x252000 x252001 x252002) else (if x252000.toList = ([114, 99] : List UInt8) then (newelref05_word.j1 k 8 x252000 (x252000.toList == ([114, 99] : List UInt8)) x252000 x252001 x252002) else (newelref05_word.j1 k 8 x252000 (x252000.toList == ([99, 114] : List UInt8)) x252000 x252001 x252002)))))
def newelref05_word.j3 : Nat → Int → ByteArray → Bool → Bool → Option (Int × ByteArray)
 | 0, _, _, _, _ => none
 | k + 1, x3, x252000, x252001, x252002 => if x252002 = true then (if x252000.toList = ([97] : List UInt8) then (some (1, (⟨#[]⟩ : ByteArray))) else (if x252000.toList = ([98] : List UInt8) then (some (2, (⟨#[]⟩ : ByteArray))) else (if x252000.toList = ([109] : List UInt8) then (some (3, (⟨#[]⟩ : ByteArray))) else (if x3 = 8 then (some (x3, x252000)) else (some (x3, (⟨#[]⟩ : ByteArray))))))) else (if x3 = 8 then (some (x3, x252000)) else (some (x3, (⟨#[]⟩ : ByteArray))))
def newelref05_word.j1 : Nat → Int → ByteArray → Bool → ByteArray → Bool → Bool → Option (Int × ByteArray)
 | 0, _, _, _, _, _, _ => none
 | k + 1, x3, x16, x23, x252000, x252001, x252002 => if x23 = true then (newelref05_word.j3 k 4 x252000 x252001 x252002) else (if x16.toList = ([115, 110, 97, 112, 115, 104, 111, 116] : List UInt8) then (newelref05_word.j3 k 5 x252000 x252001 x252002) else (if x16.toList = ([103, 97] : List UInt8) then (newelref05_word.j2 k x3 x16 (x16.toList == ([103, 97] : List UInt8)) x252000 x252001 x252002) else (if x16.toList = ([102, 105, 110, 97, 108] : List UInt8) then (newelref05_word.j2 k x3 x16 (x16.toList == ([102, 105, 110, 97, 108] : List UInt8)) x252000 x252001 x252002) else (newelref05_word.j2 k x3 x16 (x16.toList == ([114, 101, 108, 101, 97, 115, 101] : List UInt8)) x252000 x252001 x252002))))
def newelref05_word.j2 : Nat → Int → ByteArray → Bool → ByteArray → Bool → Bool → Option (Int × ByteArray)
 | 0, _, _, _, _, _, _ => none
 | k + 1, x3, x16, x28, x252000, x252001, x252002 => if x28 = true then (newelref05_word.j3 k 6 x252000 x252001 x252002) else (if x16.toList = ([115, 112] : List UInt8) then (newelref05_word.j3 k 7 x252000 x252001 x252002) else (newelref05_word.j3 k x3 x252000 x252001 x252002))
end
def newelref05_word.f (k : Nat) (a0_0 : ByteArray) (a0_1 : Bool) (a0_2 : Bool) : Option (Int × ByteArray) := if a0_0.toList = ([] : List UInt8) then (newelref05_word.j0 k true a0_0 a0_1 a0_2) else (if 0 < (a0_0.size : Int) then ((newelref01_Digit.f (bt a0_0 0)).bind fun t253 => (newelref05_word.j0 k t253 a0_0 a0_1 a0_2)) else (none))
theorem newelref05_word.calls (k : Nat) (a0_0 : ByteArray) (a0_1 : Bool) (a0_2 : Bool) (r1 : Int) (r2 : ByteArray) (w : World) (hG : Glob w) (h : newelref05_word.f k a0_0 a0_1 a0_2 = some (r1, r2)) :
 Calls Tryd.prog 77 #[.agg #[.string a0_0, .bool a0_1, .bool a0_2]] w fun e w' => e = .returned (.agg #[.int .i64 r1, .string r2]) ∧ Below w.heap.size w w' := by
 have hu98 := Tryd.underlying98
 have hu38 := Tryd.underlying38
 have HG := Aside0.mk hG
 clear hG
 have HB := Aside0.mk (Below.refl w.heap.size w)
 have H : (if a0_0.toList = ([] : List UInt8) then (newelref05_word.j0 k true a0_0 a0_1 a0_2) else (if 0 < (a0_0.size : Int) then ((newelref01_Digit.f (bt a0_0 0)).bind fun t253 => (newelref05_word.j0 k t253 a0_0 a0_1 a0_2)) else (none))) = some (r1, r2) := h
 clear h
 have HC2 := Aside0.mk H
 clear H
 go_enter Tryd.func77, Tryd.ntmps77
 go_upto_region 1 with (first | (refine be 1 #[.string a0_0, .bool a0_1, .bool a0_2] 98 ?_; intro gb251 hg w3 hbox hb; have BK251 := Aside0.mk (hbox); have GW251 := gW hg; have GE251 := gW hg; replace HB := sB hb; clear hb hbox hg) | (refine be 2 #[.int .i64 0, .string (⟨#[]⟩ : ByteArray)] 38 ?_; intro gb252 hg w4 hbox hb; have BK252 := Aside0.mk (hbox); have GW252 := gW hg; have GE252 := gW hg; replace HB := sB hb; have NB251_252 := nL BK251 hg; have NB252_251 := nG BK251 hg; replace BK251 := kB BK251 hb; clear hb hbox hg))
 (try simp only [Act.put, List.setIfInBounds_toArray, List.set_cons_zero, List.set_cons_succ])
 go_cut [12] (fun v12 wc => ∃ (kq : Nat) (x12_1 : Bool), v12 = .bool x12_1 ∧ Aside0 (newelref05_word.j0 kq x12_1 a0_0 a0_1 a0_2 = some (r1, r2)) ∧ Aside0 (kq ≤ k) ∧ Aside0 (wc.heap[gb251]? = some (.cells #[.string a0_0, .bool a0_1, .bool a0_2] 98 (0, 0))) ∧ Aside0 (wc.heap[gb252]? = some (.cells #[.int .i64 0, .string (⟨#[]⟩ : ByteArray)] 38 (0, 0))) ∧ Aside0 (Below w.heap.size w wc))
 case first =>
  have H := HC2.out
  clear HC2
  by_cases c5 : a0_0.toList = ([] : List UInt8)
  ·rw [if_pos c5] at H
   obtain ⟨c5b0, c5b1⟩ := eqT c5
   (try (have c5b2 : a0_0.toList.isEmpty = true := by simpa using c5))
   clear c5
   (first | rw [c5b0] | rw [c5b2] | (simp only [i64_w, i32_w]; rw [c5b0]) | skip)
   have H' := Aside0.mk H
   clear H
   have hnb6 := NB251_252.out
   have hnc6 := NB252_251.out
   obtain ⟨hcz7_0, hcz7_1, hcz7_2, hfz7_0, hfz7_1, hfz7_2⟩ := cells3 BK251
   go_wp2
   go_meet
   case rel => exact ⟨_, (true), cA, H', ⟨by first | omega | exact Nat.le_refl _⟩, ⟨bK BK251⟩, ⟨bK BK252⟩, ⟨bG⟩⟩
  rw [if_neg c5] at H
  obtain ⟨c5b0, c5b1⟩ := eqF c5
  (try (have c5b2 : a0_0.toList.isEmpty = false := by simpa using c5))
  (first | rw [c5b0] | rw [c5b2] | (simp only [i64_w, i32_w]; rw [c5b0]) | skip)
  obtain ⟨c8, H⟩ := gp H
  have c8b0 := dT c8
  have c8b1 : decide (0 < a0_0.size) = true := decide_eq_true (by omega)
  clear c8
  replace H := bi H
  obtain ⟨t253, A100, H⟩ := H
  try dsimp only at H
  have A10 := Aside0.mk A100
  clear A100
  have H' := Aside0.mk H
  clear H
  have hnb11 := NB251_252.out
  have hnc11 := NB252_251.out
  obtain ⟨hcz12_0, hcz12_1, hcz12_2, hfz12_0, hfz12_1, hfz12_2⟩ := cells3 BK251
  have p9 : 0 ≤ (0 : Int) := (by omega)
  have q9 : 0 < a0_0.size := (by have : (0 : Int) < (a0_0.size : Int) := dA; omega)
  have hx9 : ∀ h : 0 < a0_0.size, ((a0_0[0]'h).toNat : Int) = bt a0_0 0 := bt_at a0_0 0
  clear p9
  have qi9 : (0 < (a0_0.size : Int)) = True := eq_true (dA)
  replace q9 := eq_true q9
  go_wp2_with (first | (go_at_call 78; (with_reducible refine (newelref01_Digit.calls (bt a0_0 0) t253 _ (gS HG) A10.out).mono ?_); rintro e w' ⟨rfl, ⟨nd, rfl⟩⟩))
  go_meet
  case rel => exact ⟨_, (t253), cA, H', ⟨by first | omega | exact Nat.le_refl _⟩, ⟨bK BK251⟩, ⟨bK BK252⟩, ⟨bG⟩⟩
 clear HC2
 try clear c1
 try clear p2
 try clear c5
 try clear c5b0
 try clear c5b1
 try clear c5b2
 try clear c6
 try clear c7
 try clear c8
 try clear c8b0
 try clear c8b1
 try clear p9
 try clear q9
 try clear hx9
 try clear qi9
 try clear c11
 try clear hcz12_0
 try clear hcz12_1
 try clear hcz12_2
 try clear hcz7_0
 try clear hcz7_1
 try clear hcz7_2
 try clear hfz12_0
 try clear hfz12_1
 try clear hfz12_2
 try clear hfz7_0
 try clear hfz7_1
 try clear hfz7_2
 try clear p9
 try clear q9
 obtain ⟨kq, x12_1, rfl, HA, HJ1, BK251, BK252, HB⟩ := hcut
 cases kq with
 | zero => exact absurd HA.out (by simp [newelref05_word.j0])
 | succ kj1 =>
  have H := HA.out
  clear HA
  simp only [newelref05_word.j0] at H
  (try simp only [toList_lit] at H)
  by_cases c13 : x12_1 = true
  ·subst c13
   replace H : ((newelref05_number.f kj1 a0_0 a0_1 a0_2).bind fun bt254 => (some (bt254.1, bt254.2))) = some (r1, r2) := by rw [if_pos rfl] at H; exact H
   replace H := bi H
   obtain ⟨⟨t254, t255⟩, A140, H⟩ := H
   try dsimp only at H
   have A14 := Aside0.mk A140
   clear A140
   simp only [Option.some.injEq, Prod.mk.injEq] at H
   obtain ⟨rfl, rfl⟩ := H
   have hnb15 := NB251_252.out
   have hnc15 := NB252_251.out
   obtain ⟨hcz16_0, hcz16_1, hcz16_2, hfz16_0, hfz16_1, hfz16_2⟩ := cells3 BK251
   go_wp2_with (first | (refine gl (some 14) Tryd.func109 #[.agg #[.string a0_0, .bool a0_1, .bool a0_2]] ?_; (with_reducible refine (newelref05_number.calls kj1 a0_0 a0_1 a0_2 t254 t255 _ (gS HG) A14.out).mono ?_); rintro e w17 ⟨rfl, hb⟩; refine ⟨_, rfl, ?_⟩; replace BK251 := kB BK251 hb; replace BK252 := kB BK252 hb; replace HB := sB hb; (try clear hb); have hcz18_0 : w17.cell? ⟨gb252, 0, none⟩ = some (.int .i64 0) := (blk_cell BK252.out 0).trans rfl; have hcz18_1 : w17.cell? ⟨gb252, 1, none⟩ = some (.string (⟨#[]⟩ : ByteArray)) := (blk_cell BK252.out 1).trans rfl; have hfz18_0 := blk_frozen BK252.out 0; have hfz18_1 := blk_frozen BK252.out 1))
   refine bodyPost_ret (results_cell_row rfl _ _ gb252 38 #[.int .i64 t254, .string t255] (0, 0) _ rfl (bP BK252) Tryd.underlying38 rfl (by kernel_rfl)) rfl ?_
   exact ⟨eA, bG⟩
  replace c13 := Bool.eq_false_iff.mpr c13
  subst c13
  replace H : (if a0_0.toList = ([97, 108, 112, 104, 97] : List UInt8) then (newelref05_word.j3 kj1 1 a0_0 a0_1 a0_2) else (if a0_0.toList = ([98, 101, 116, 97] : List UInt8) then (newelref05_word.j3 kj1 2 a0_0 a0_1 a0_2) else (if a0_0.toList = ([109, 105, 108, 101, 115, 116, 111, 110, 101] : List UInt8) then (newelref05_word.j3 kj1 3 a0_0 a0_1 a0_2) else (if a0_0.toList = ([114, 99] : List UInt8) then (newelref05_word.j1 kj1 8 a0_0 (a0_0.toList == ([114, 99] : List UInt8)) a0_0 a0_1 a0_2) else (newelref05_word.j1 kj1 8 a0_0 (a0_0.toList == ([99, 114] : List UInt8)) a0_0 a0_1 a0_2))))) = some (r1, r2) := by rw [if_neg nF] at H; exact H
  have HC19 := Aside0.mk H
  clear H
  have hnb20 := NB251_252.out
  have hnc20 := NB252_251.out
  obtain ⟨hcz21_0, hcz21_1, hcz21_2, hfz21_0, hfz21_1, hfz21_2⟩ := cells3 BK251
  go_upto_block 0 with (fail)
  go_cut [3] (fun v3 wc => ∃ (kq : Nat) (x3_18 : Int), v3 = .int .i64 x3_18 ∧ Aside0 (newelref05_word.j3 kq x3_18 a0_0 a0_1 a0_2 = some (r1, r2)) ∧ Aside0 (kq ≤ kj1) ∧ Aside0 (wc.heap[gb251]? = some (.cells #[.string a0_0, .bool a0_1, .bool a0_2] 98 (0, 0))) ∧ Aside0 (wc.heap[gb252]? = some (.cells #[.int .i64 0, .string (⟨#[]⟩ : ByteArray)] 38 (0, 0))) ∧ Aside0 (Below w.heap.size w wc))
  case first =>
   have H := HC19.out
   clear HC19
   by_cases c22 : a0_0.toList = ([97, 108, 112, 104, 97] : List UInt8)
   ·rw [if_pos c22] at H
    obtain ⟨c22b0, c22b1⟩ := eqT c22
    clear c22
    (first | rw [c22b0] | (simp only [i64_w, i32_w]; rw [c22b0]) | skip)
    have H' := Aside0.mk H
    clear H
    go_wp2
    go_meet
    case rel => exact ⟨_, (1), cA, H', ⟨by have := HJ1.out; first | omega | exact Nat.le_refl _⟩, ⟨bK BK251⟩, ⟨bK BK252⟩, ⟨bG⟩⟩
   rw [if_neg c22] at H
   obtain ⟨c22b0, c22b1⟩ := eqF c22
   (first | rw [c22b0] | (simp only [i64_w, i32_w]; rw [c22b0]) | skip)
   by_cases c23 : a0_0.toList = ([98, 101, 116, 97] : List UInt8)
   ·rw [if_pos c23] at H
    obtain ⟨c23b0, c23b1⟩ := eqT c23
    clear c23
    have H' := Aside0.mk H
    clear H
    go_wp2
    go_meet
    case rel => exact ⟨_, (2), cA, H', ⟨by have := HJ1.out; first | omega | exact Nat.le_refl _⟩, ⟨bK BK251⟩, ⟨bK BK252⟩, ⟨bG⟩⟩
   rw [if_neg c23] at H
   obtain ⟨c23b0, c23b1⟩ := eqF c23
   by_cases c24 : a0_0.toList = ([109, 105, 108, 101, 115, 116, 111, 110, 101] : List UInt8)
   ·rw [if_pos c24] at H
    obtain ⟨c24b0, c24b1⟩ := eqT c24
    clear c24
    have H' := Aside0.mk H
    clear H
    go_wp2
    go_meet
    case rel => exact ⟨_, (3), cA, H', ⟨by have := HJ1.out; first | omega | exact Nat.le_refl _⟩, ⟨bK BK251⟩, ⟨bK BK252⟩, ⟨bG⟩⟩
   rw [if_neg c24] at H
   obtain ⟨c24b0, c24b1⟩ := eqF c24
   have HC25 := Aside0.mk H
   clear H
   go_upto_if 23 with (fail)
   go_cut [23] (fun v23 wc => ∃ (kq : Nat) (x23_24 : Bool), v23 = .bool x23_24 ∧ Aside0 (newelref05_word.j1 kq 8 a0_0 x23_24 a0_0 a0_1 a0_2 = some (r1, r2)) ∧ Aside0 (kq ≤ kj1) ∧ Aside0 (wc.heap[gb251]? = some (.cells #[.string a0_0, .bool a0_1, .bool a0_2] 98 (0, 0))) ∧ Aside0 (wc.heap[gb252]? = some (.cells #[.int .i64 0, .string (⟨#[]⟩ : ByteArray)] 38 (0, 0))) ∧ Aside0 (Below w.heap.size w wc))
   case first =>
    have H := HC25.out
    clear HC25
    by_cases c26 : a0_0.toList = ([114, 99] : List UInt8)
    rotate_left
    ·rw [if_neg c26] at H
     obtain ⟨c26b0, c26b1⟩ := eqF c26
     (first | rw [c26b0] | (simp only [i64_w, i32_w]; rw [c26b0]) | skip)
     have H' := Aside0.mk H
     clear H
     go_wp2
     go_meet
     case rel => exact ⟨_, ((a0_0.toList == ([99, 114] : List UInt8))), cA, H', ⟨by have := HJ1.out; first | omega | exact Nat.le_refl _⟩, ⟨bK BK251⟩, ⟨bK BK252⟩, ⟨bG⟩⟩
    rw [if_pos c26] at H
    obtain ⟨c26b0, c26b1⟩ := eqT c26
    clear c26
    (first | rw [c26b0] | (simp only [i64_w, i32_w]; rw [c26b0]) | skip)
    have H' := Aside0.mk H
    clear H
    go_wp2
    go_meet
    case rel => exact ⟨_, ((a0_0.toList == ([114, 99] : List UInt8))), cA, H', ⟨by have := HJ1.out; first | omega | exact Nat.le_refl _⟩, ⟨bK BK251⟩, ⟨bK BK252⟩, ⟨bG⟩⟩
   clear HC25
   try clear c1
   try clear c2
   try clear p2
   try clear c5
   try clear c5b0
   try clear c5b1
   try clear c5b2
   try clear c6
   try clear c7
   try clear c8
   try clear c8b0
   try clear c8b1
   try clear p9
   try clear q9
   try clear hx9
   try clear qi9
   try clear c10
   try clear c11
   try clear c13
   try clear c15
   try clear c20
   try clear c22
   try clear c22b0
   try clear c22b1
   try clear c23
   try clear c23b0
   try clear c23b1
   try clear c24
   try clear c24b0
   try clear c24b1
   try clear c26
   try clear c26b0
   try clear c26b1
   try clear hcz12_0
   try clear hcz12_1
   try clear hcz12_2
   try clear hcz16_0
   try clear hcz16_1
   try clear hcz16_2
   try clear hcz18_0
   try clear hcz18_1
   try clear hcz21_0
   try clear hcz21_1
   try clear hcz21_2
   try clear hcz7_0
   try clear hcz7_1
   try clear hcz7_2
   try clear hfz12_0
   try clear hfz12_1
   try clear hfz12_2
   try clear hfz16_0
   try clear hfz16_1
   try clear hfz16_2
   try clear hfz18_0
   try clear hfz18_1
   try clear hfz21_0
   try clear hfz21_1
   try clear hfz21_2
   try clear hfz7_0
   try clear hfz7_1
   try clear hfz7_2
   try clear p2
   try clear p9
   try clear q9
   obtain ⟨kq, x23_24, rfl, HA, HJ24, BK251, BK252, HB⟩ := hcut
   cases kq with
   | zero => exact absurd HA.out (by simp [newelref05_word.j1])
   | succ kj24 =>
    have H := HA.out
    clear HA
    simp only [newelref05_word.j1] at H
    (try simp only [toList_lit] at H)
    by_cases c27 : x23_24 = true
    ·subst c27
     replace H : (newelref05_word.j3 kj24 4 a0_0 a0_1 a0_2) = some (r1, r2) := by rw [if_pos rfl] at H; exact H
     have H' := Aside0.mk H
     clear H
     go_wp2
     go_meet
     case rel => exact ⟨_, (4), cA, H', ⟨by have := HJ1.out; have := HJ24.out; first | omega | exact Nat.le_refl _⟩, ⟨bK BK251⟩, ⟨bK BK252⟩, ⟨bG⟩⟩
    replace c27 := Bool.eq_false_iff.mpr c27
    subst c27
    replace H : (if a0_0.toList = ([115, 110, 97, 112, 115, 104, 111, 116] : List UInt8) then (newelref05_word.j3 kj24 5 a0_0 a0_1 a0_2) else (if a0_0.toList = ([103, 97] : List UInt8) then (newelref05_word.j2 kj24 8 a0_0 (a0_0.toList == ([103, 97] : List UInt8)) a0_0 a0_1 a0_2) else (if a0_0.toList = ([102, 105, 110, 97, 108] : List UInt8) then (newelref05_word.j2 kj24 8 a0_0 (a0_0.toList == ([102, 105, 110, 97, 108] : List UInt8)) a0_0 a0_1 a0_2) else (newelref05_word.j2 kj24 8 a0_0 (a0_0.toList == ([114, 101, 108, 101, 97, 115, 101] : List UInt8)) a0_0 a0_1 a0_2)))) = some (r1, r2) := by rw [if_neg nF] at H; exact H
    by_cases c28 : a0_0.toList = ([115, 110, 97, 112, 115, 104, 111, 116] : List UInt8)
    ·rw [if_pos c28] at H
     obtain ⟨c28b0, c28b1⟩ := eqT c28
     clear c28
     have H' := Aside0.mk H
     clear H
     go_wp2
     go_meet
     case rel => exact ⟨_, (5), cA, H', ⟨by have := HJ1.out; have := HJ24.out; first | omega | exact Nat.le_refl _⟩, ⟨bK BK251⟩, ⟨bK BK252⟩, ⟨bG⟩⟩
    rw [if_neg c28] at H
    obtain ⟨c28b0, c28b1⟩ := eqF c28
    have HC29 := Aside0.mk H
    clear H
    go_upto_if 28 with (fail)
    go_cut [28] (fun v28 wc => ∃ (kq : Nat) (x28_28 : Bool), v28 = .bool x28_28 ∧ Aside0 (newelref05_word.j2 kq 8 a0_0 x28_28 a0_0 a0_1 a0_2 = some (r1, r2)) ∧ Aside0 (kq ≤ kj24) ∧ Aside0 (wc.heap[gb251]? = some (.cells #[.string a0_0, .bool a0_1, .bool a0_2] 98 (0, 0))) ∧ Aside0 (wc.heap[gb252]? = some (.cells #[.int .i64 0, .string (⟨#[]⟩ : ByteArray)] 38 (0, 0))) ∧ Aside0 (Below w.heap.size w wc))
    case first =>
     have H := HC29.out
     clear HC29
     by_cases c30 : a0_0.toList = ([103, 97] : List UInt8)
     ·rw [if_pos c30] at H
      obtain ⟨c30b0, c30b1⟩ := eqT c30
      clear c30
      (first | rw [c30b0] | (simp only [i64_w, i32_w]; rw [c30b0]) | skip)
      have H' := Aside0.mk H
      clear H
      go_wp2
      go_meet
      case rel => exact ⟨_, ((a0_0.toList == ([103, 97] : List UInt8))), cA, H', ⟨by have := HJ1.out; have := HJ24.out; first | omega | exact Nat.le_refl _⟩, ⟨bK BK251⟩, ⟨bK BK252⟩, ⟨bG⟩⟩
     rw [if_neg c30] at H
     obtain ⟨c30b0, c30b1⟩ := eqF c30
     (first | rw [c30b0] | (simp only [i64_w, i32_w]; rw [c30b0]) | skip)
     by_cases c31 : a0_0.toList = ([102, 105, 110, 97, 108] : List UInt8)
     rotate_left
     ·rw [if_neg c31] at H
      obtain ⟨c31b0, c31b1⟩ := eqF c31
      have H' := Aside0.mk H
      clear H
      go_wp2
      go_meet
      case rel => exact ⟨_, ((a0_0.toList == ([114, 101, 108, 101, 97, 115, 101] : List UInt8))), cA, H', ⟨by have := HJ1.out; have := HJ24.out; first | omega | exact Nat.le_refl _⟩, ⟨bK BK251⟩, ⟨bK BK252⟩, ⟨bG⟩⟩
     rw [if_pos c31] at H
     obtain ⟨c31b0, c31b1⟩ := eqT c31
     clear c31
     have H' := Aside0.mk H
     clear H
     go_wp2
     go_meet
     case rel => exact ⟨_, ((a0_0.toList == ([102, 105, 110, 97, 108] : List UInt8))), cA, H', ⟨by have := HJ1.out; have := HJ24.out; first | omega | exact Nat.le_refl _⟩, ⟨bK BK251⟩, ⟨bK BK252⟩, ⟨bG⟩⟩
    clear HC29
    try clear c1
    try clear c2
    try clear p2
    try clear c3
    try clear c5
    try clear c5b0
    try clear c5b1
    try clear c5b2
    try clear c6
    try clear c7
    try clear c8
    try clear c8b0
    try clear c8b1
    try clear p9
    try clear q9
    try clear hx9
    try clear qi9
    try clear c10
    try clear c11
    try clear c13
    try clear c15
    try clear c20
    try clear c22
    try clear c22b0
    try clear c22b1
    try clear c23
    try clear c23b0
    try clear c23b1
    try clear c24
    try clear c24b0
    try clear c24b1
    try clear c26
    try clear c26b0
    try clear c26b1
    try clear c27
    try clear c28
    try clear c28b0
    try clear c28b1
    try clear c30
    try clear c30b0
    try clear c30b1
    try clear c31
    try clear c31b0
    try clear c31b1
    try clear hcz12_0
    try clear hcz12_1
    try clear hcz12_2
    try clear hcz16_0
    try clear hcz16_1
    try clear hcz16_2
    try clear hcz18_0
    try clear hcz18_1
    try clear hcz21_0
    try clear hcz21_1
    try clear hcz21_2
    try clear hcz7_0
    try clear hcz7_1
    try clear hcz7_2
    try clear hfz12_0
    try clear hfz12_1
    try clear hfz12_2
    try clear hfz16_0
    try clear hfz16_1
    try clear hfz16_2
    try clear hfz18_0
    try clear hfz18_1
    try clear hfz21_0
    try clear hfz21_1
    try clear hfz21_2
    try clear hfz7_0
    try clear hfz7_1
    try clear hfz7_2
    try clear p2
    try clear p9
    try clear q9
    obtain ⟨kq, x28_28, rfl, HA, HJ28, BK251, BK252, HB⟩ := hcut
    cases kq with
    | zero => exact absurd HA.out (by simp [newelref05_word.j2])
    | succ kj28 =>
     have H := HA.out
     clear HA
     simp only [newelref05_word.j2] at H
     (try simp only [toList_lit] at H)
     by_cases c32 : x28_28 = true
     ·subst c32
      replace H : (newelref05_word.j3 kj28 6 a0_0 a0_1 a0_2) = some (r1, r2) := by rw [if_pos rfl] at H; exact H
      have H' := Aside0.mk H
      clear H
      go_wp2
      go_meet
      case rel => exact ⟨_, (6), cA, H', ⟨by have := HJ1.out; have := HJ24.out; have := HJ28.out; first | omega | exact Nat.le_refl _⟩, ⟨bK BK251⟩, ⟨bK BK252⟩, ⟨bG⟩⟩
     replace c32 := Bool.eq_false_iff.mpr c32
     subst c32
     replace H : (if a0_0.toList = ([115, 112] : List UInt8) then (newelref05_word.j3 kj28 7 a0_0 a0_1 a0_2) else (newelref05_word.j3 kj28 8 a0_0 a0_1 a0_2)) = some (r1, r2) := by rw [if_neg nF] at H; exact H
     by_cases c33 : a0_0.toList = ([115, 112] : List UInt8)
     rotate_left
     ·rw [if_neg c33] at H
      obtain ⟨c33b0, c33b1⟩ := eqF c33
      have H' := Aside0.mk H
      clear H
      go_wp2
      go_meet
      case rel => exact ⟨_, (8), cA, H', ⟨by have := HJ1.out; have := HJ24.out; have := HJ28.out; first | omega | exact Nat.le_refl _⟩, ⟨bK BK251⟩, ⟨bK BK252⟩, ⟨bG⟩⟩
     rw [if_pos c33] at H
     obtain ⟨c33b0, c33b1⟩ := eqT c33
     clear c33
     have H' := Aside0.mk H
     clear H
     go_wp2
     go_meet
     case rel => exact ⟨_, (7), cA, H', ⟨by have := HJ1.out; have := HJ24.out; have := HJ28.out; first | omega | exact Nat.le_refl _⟩, ⟨bK BK251⟩, ⟨bK BK252⟩, ⟨bG⟩⟩
  clear HC19
  try clear c1
  try clear c2
  try clear p2
  try clear c3
  try clear c5
  try clear c5b0
  try clear c5b1
  try clear c5b2
  try clear c6
  try clear c7
  try clear c8
  try clear c8b0
  try clear c8b1
  try clear p9
  try clear q9
  try clear hx9
  try clear qi9
  try clear c10
  try clear c11
  try clear c13
  try clear c15
  try clear c20
  try clear c22
  try clear c22b0
  try clear c22b1
  try clear c23
  try clear c23b0
  try clear c23b1
  try clear c24
  try clear c24b0
  try clear c24b1
  try clear c26
  try clear c26b0
  try clear c26b1
  try clear c27
  try clear c28
  try clear c28b0
  try clear c28b1
  try clear c30
  try clear c30b0
  try clear c30b1
  try clear c31
  try clear c31b0
  try clear c31b1
  try clear c32
  try clear c33
  try clear c33b0
  try clear c33b1
  try clear hcz12_0
  try clear hcz12_1
  try clear hcz12_2
  try clear hcz16_0
  try clear hcz16_1
  try clear hcz16_2
  try clear hcz18_0
  try clear hcz18_1
  try clear hcz21_0
  try clear hcz21_1
  try clear hcz21_2
  try clear hcz7_0
  try clear hcz7_1
  try clear hcz7_2
  try clear hfz12_0
  try clear hfz12_1
  try clear hfz12_2
  try clear hfz16_0
  try clear hfz16_1
  try clear hfz16_2
  try clear hfz18_0
  try clear hfz18_1
  try clear hfz21_0
  try clear hfz21_1
  try clear hfz21_2
  try clear hfz7_0
  try clear hfz7_1
  try clear hfz7_2
  try clear p2
  try clear p9
  try clear q9
  obtain ⟨kq, x3_18, rfl, HA, HJ18, BK251, BK252, HB⟩ := hcut
  cases kq with
  | zero => exact absurd HA.out (by simp [newelref05_word.j3])
  | succ kj18 =>
   have H := HA.out
   clear HA
   simp only [newelref05_word.j3] at H
   (try simp only [toList_lit] at H)
   by_cases c34 : a0_2 = true
   rotate_left
   ·replace c34 := Bool.eq_false_iff.mpr c34
    subst c34
    replace H : (if x3_18 = 8 then (some (x3_18, a0_0)) else (some (x3_18, (⟨#[]⟩ : ByteArray)))) = some (r1, r2) := by rw [if_neg nF] at H; exact H
    by_cases c54 : x3_18 = 8
    rotate_left
    ·rw [if_neg c54] at H
     obtain ⟨c54b0, c54b1⟩ := eqF c54
     simp only [Option.some.injEq, Prod.mk.injEq] at H
     obtain ⟨rfl, rfl⟩ := H
     have hnb58 := NB251_252.out
     have hnc58 := NB252_251.out
     obtain ⟨hcz59_0, hcz59_1, hcz59_2, hfz59_0, hfz59_1, hfz59_2⟩ := cells3 BK251
     obtain ⟨hcz60_0, hcz60_1, hfz60_0, hfz60_1⟩ := cells2 BK252
     go_wp2
     refine bodyPost_ret (results_cell_row rfl _ _ gb252 38 #[.int .i64 x3_18, .string (⟨#[]⟩ : ByteArray)] (0, 0) _ rfl (bP BK252) Tryd.underlying38 rfl (by kernel_rfl)) rfl ?_
     exact ⟨eA, bG⟩
    rw [if_pos c54] at H
    obtain ⟨c54b0, c54b1⟩ := eqT c54
    clear c54
    simp only [Option.some.injEq, Prod.mk.injEq] at H
    obtain ⟨rfl, rfl⟩ := H
    have hnb55 := NB251_252.out
    have hnc55 := NB252_251.out
    obtain ⟨hcz56_0, hcz56_1, hcz56_2, hfz56_0, hfz56_1, hfz56_2⟩ := cells3 BK251
    obtain ⟨hcz57_0, hcz57_1, hfz57_0, hfz57_1⟩ := cells2 BK252
    go_wp2
    refine bodyPost_ret (results_cell_row rfl _ _ gb252 38 #[.int .i64 x3_18, .string a0_0] (0, 0) _ rfl (bP BK252) Tryd.underlying38 rfl (by kernel_rfl)) rfl ?_
    exact ⟨eA, bG⟩
   subst c34
   replace H : (if a0_0.toList = ([97] : List UInt8) then (some (1, (⟨#[]⟩ : ByteArray))) else (if a0_0.toList = ([98] : List UInt8) then (some (2, (⟨#[]⟩ : ByteArray))) else (if a0_0.toList = ([109] : List UInt8) then (some (3, (⟨#[]⟩ : ByteArray))) else (if x3_18 = 8 then (some (x3_18, a0_0)) else (some (x3_18, (⟨#[]⟩ : ByteArray))))))) = some (r1, r2) := by rw [if_pos rfl] at H; exact H
   by_cases c35 : a0_0.toList = ([97] : List UInt8)
   ·rw [if_pos c35] at H
    obtain ⟨c35b0, c35b1⟩ := eqT c35
    clear c35
    simp only [Option.some.injEq, Prod.mk.injEq] at H
    obtain ⟨rfl, rfl⟩ := H
    have hnb36 := NB251_252.out
    have hnc36 := NB252_251.out
    obtain ⟨hcz37_0, hcz37_1, hcz37_2, hfz37_0, hfz37_1, hfz37_2⟩ := cells3 BK251
    obtain ⟨hcz38_0, hcz38_1, hfz38_0, hfz38_1⟩ := cells2 BK252
    go_wp2
    refine bodyPost_ret (results_cell_row rfl _ _ gb252 38 #[.int .i64 1, .string (⟨#[]⟩ : ByteArray)] (0, 0) _ rfl (bP BK252) Tryd.underlying38 rfl (by kernel_rfl)) rfl ?_
    exact ⟨eA, bG⟩
   rw [if_neg c35] at H
   obtain ⟨c35b0, c35b1⟩ := eqF c35
   by_cases c39 : a0_0.toList = ([98] : List UInt8)
   ·rw [if_pos c39] at H
    obtain ⟨c39b0, c39b1⟩ := eqT c39
    clear c39
    simp only [Option.some.injEq, Prod.mk.injEq] at H
    obtain ⟨rfl, rfl⟩ := H
    have hnb40 := NB251_252.out
    have hnc40 := NB252_251.out
    obtain ⟨hcz41_0, hcz41_1, hcz41_2, hfz41_0, hfz41_1, hfz41_2⟩ := cells3 BK251
    obtain ⟨hcz42_0, hcz42_1, hfz42_0, hfz42_1⟩ := cells2 BK252
    go_wp2
    refine bodyPost_ret (results_cell_row rfl _ _ gb252 38 #[.int .i64 2, .string (⟨#[]⟩ : ByteArray)] (0, 0) _ rfl (bP BK252) Tryd.underlying38 rfl (by kernel_rfl)) rfl ?_
    exact ⟨eA, bG⟩
   rw [if_neg c39] at H
   obtain ⟨c39b0, c39b1⟩ := eqF c39
   by_cases c43 : a0_0.toList = ([109] : List UInt8)
   ·rw [if_pos c43] at H
    obtain ⟨c43b0, c43b1⟩ := eqT c43
    clear c43
    simp only [Option.some.injEq, Prod.mk.injEq] at H
    obtain ⟨rfl, rfl⟩ := H
    have hnb44 := NB251_252.out
    have hnc44 := NB252_251.out
    obtain ⟨hcz45_0, hcz45_1, hcz45_2, hfz45_0, hfz45_1, hfz45_2⟩ := cells3 BK251
    obtain ⟨hcz46_0, hcz46_1, hfz46_0, hfz46_1⟩ := cells2 BK252
    go_wp2
    refine bodyPost_ret (results_cell_row rfl _ _ gb252 38 #[.int .i64 3, .string (⟨#[]⟩ : ByteArray)] (0, 0) _ rfl (bP BK252) Tryd.underlying38 rfl (by kernel_rfl)) rfl ?_
    exact ⟨eA, bG⟩
   rw [if_neg c43] at H
   obtain ⟨c43b0, c43b1⟩ := eqF c43
   by_cases c47 : x3_18 = 8
   rotate_left
   ·rw [if_neg c47] at H
    obtain ⟨c47b0, c47b1⟩ := eqF c47
    simp only [Option.some.injEq, Prod.mk.injEq] at H
    obtain ⟨rfl, rfl⟩ := H
    have hnb51 := NB251_252.out
    have hnc51 := NB252_251.out
    obtain ⟨hcz52_0, hcz52_1, hcz52_2, hfz52_0, hfz52_1, hfz52_2⟩ := cells3 BK251
    obtain ⟨hcz53_0, hcz53_1, hfz53_0, hfz53_1⟩ := cells2 BK252
    go_wp2
    refine bodyPost_ret (results_cell_row rfl _ _ gb252 38 #[.int .i64 x3_18, .string (⟨#[]⟩ : ByteArray)] (0, 0) _ rfl (bP BK252) Tryd.underlying38 rfl (by kernel_rfl)) rfl ?_
    exact ⟨eA, bG⟩
   rw [if_pos c47] at H
   obtain ⟨c47b0, c47b1⟩ := eqT c47
   clear c47
   simp only [Option.some.injEq, Prod.mk.injEq] at H
   obtain ⟨rfl, rfl⟩ := H
   have hnb48 := NB251_252.out
   have hnc48 := NB252_251.out
   obtain ⟨hcz49_0, hcz49_1, hcz49_2, hfz49_0, hfz49_1, hfz49_2⟩ := cells3 BK251
   obtain ⟨hcz50_0, hcz50_1, hfz50_0, hfz50_1⟩ := cells2 BK252
   go_wp2
   refine bodyPost_ret (results_cell_row rfl _ _ gb252 38 #[.int .i64 x3_18, .string a0_0] (0, 0) _ rfl (bP BK252) Tryd.underlying38 rfl (by kernel_rfl)) rfl ?_
   exact ⟨eA, bG⟩
def newelref05_Split.l0 : Nat → List (S98) → List (S38) → Int → Option ((List (S38)))
 | 0, _, _, _ => none
 | k + 1, x3, x4, x5 => if x5 ≥ 0 then (if 0 ≤ x5 then (if x5 < (x3.length : Int) then ((newelref05_word.f k ((rd_T98 x3 x5).f0) ((rd_T98 x3 x5).f1) ((rd_T98 x3 x5).f2)).bind fun bt261 => (if (x4.length : Int) > 0 then (if 0 < (x4.length : Int) then (if ((rd_T38 x4 0).f0) = 6 then (if bt261.1 = 6 then ((some (([(⟨bt261.1, bt261.2⟩ : S38)] : List (S38)) : List (S38))).bind fun y265 => (if y265.length + x4.length < 5864062014805 then (newelref05_Split.l0 k x3 (y265 ++ x4) (wrap64 (x5 - 1))) else (none))) else ((some (([(⟨bt261.1, bt261.2⟩ : S38)] : List (S38)) : List (S38))).bind fun y271 => (if y271.length + x4.length < 5864062014805 then (newelref05_Split.l0 k x3 (y271 ++ x4) (wrap64 (x5 - 1))) else (none)))) else (if bt261.1 = 6 then (if (((rd_T38 x4 0).f0) = 10) then ((some (([(⟨bt261.1, bt261.2⟩ : S38)] : List (S38)) : List (S38))).bind fun y278 => (if y278.length + x4.length < 5864062014805 then (newelref05_Split.l0 k x3 (y278 ++ x4) (wrap64 (x5 - 1))) else (none))) else (newelref05_Split.l0 k x3 x4 (wrap64 (x5 - 1)))) else ((some (([(⟨bt261.1, bt261.2⟩ : S38)] : List (S38)) : List (S38))).bind fun y284 => (if y284.length + x4.length < 5864062014805 then (newelref05_Split.l0 k x3 (y284 ++ x4) (wrap64 (x5 - 1))) else (none))))) else (none)) else (if bt261.1 = 6 then (newelref05_Split.l0 k x3 x4 (wrap64 (x5 - 1))) else ((some (([(⟨bt261.1, bt261.2⟩ : S38)] : List (S38)) : List (S38))).bind fun y290 => (if y290.length + x4.length < 5864062014805 then (newelref05_Split.l0 k x3 (y290 ++ x4) (wrap64 (x5 - 1))) else (none)))))) else (none)) else (none)) else (some x4)
def newelref05_Split.f (k : Nat) (a0 : ByteArray) : Option ((List (S38))) := (newelref01_Lower.f k a0).bind fun t256 => ((newelref05_parts.f k t256).bind fun t257 => (newelref05_Split.l0 k t257 ([] : List (S38)) (wrap64 ((t257.length : Int) - 1))))
theorem newelref05_Split.calls (k : Nat) (a0 : ByteArray) (r : List (S38)) (w : World) (hG : Glob w) (h : newelref05_Split.f k a0 = some r) :
 Calls Tryd.prog 32 #[.string a0] w fun e w' => ∃ v0_ : Value, e = .returned (v0_) ∧ Kd.R k38 38 w' w.heap.size (fun _ => True) v0_ r ∧ Below w.heap.size w w' := by
 have hu98 := Tryd.underlying98
 have hu38 := Tryd.underlying38
 have HG := Aside0.mk hG
 clear hG
 have HB := Aside0.mk (Below.refl w.heap.size w)
 have H : ((newelref01_Lower.f k a0).bind fun t256 => ((newelref05_parts.f k t256).bind fun t257 => (newelref05_Split.l0 k t257 ([] : List (S38)) (wrap64 ((t257.length : Int) - 1))))) = some r := h
 clear h
 replace H := bi H
 obtain ⟨t256, A20, H⟩ := H
 try dsimp only at H
 have A2 := Aside0.mk A20
 clear A20
 replace H := bi H
 obtain ⟨t257, A30, H⟩ := H
 try dsimp only at H
 have A3 := Aside0.mk A30
 clear A30
 have H' := Aside0.mk H
 clear H
 go_enter Tryd.func32, Tryd.ntmps32
 go_wp2_with (first | (refine gl (some 9) Tryd.func76 #[.string a0] ?_; (with_reducible refine (newelref01_Lower.calls k a0 t256 _ (gS HG) A2.out).mono ?_); rintro e w4 ⟨rfl, hb⟩; refine ⟨_, rfl, ?_⟩; replace HB := sB hb; (try clear hb)) | (refine gl (some 10) Tryd.func75 #[.string t256] ?_; (with_reducible refine (newelref05_parts.calls k t256 t257 _ (gS HG) A3.out).mono ?_); rintro e w5 ⟨v258, rfl, ho0, hb⟩; refine ⟨_, rfl, ?_⟩; have HO259 := Aside0.mk (Kd.R_lower ho0 (below_size bE)); replace HB := sB hb; (try clear hb); (try clear ho0); obtain ⟨Ao6, co6, eo6⟩ := Kd.R_slice HO259.out; subst eo6))
 (try simp only [Act.put, List.setIfInBounds_toArray, List.set_cons_zero, List.set_cons_succ])
 go_loopg [4, 5] k (fun kq v4 v5 w' => ∃ (x4_1 : List (S38)) (x5_1 : Int), v5 = .int .i64 x5_1 ∧ Aside0 (newelref05_Split.l0 kq t257 x4_1 x5_1 = some r) ∧ Aside0 (kq ≤ k) ∧ Aside0 (Kd.R k98 98 w' w.heap.size (fun _ => True) (.slice Ao6 t257.length co6) t257) ∧ Aside0 (Kd.R k38 38 w' w.heap.size (fun _ => True) v4 x4_1) ∧ Aside0 (Below w.heap.size w w'))
 case atStart => exact ⟨(([] : List (S38))), (wrap64 ((t257.length : Int) - 1)), cA, H', ⟨Nat.le_refl _⟩, ⟨kR HO259⟩, ⟨by first | exact Kd.R_nil _ _ _ _ _ | exact Kd.N_nil _ _ _ _ _ | exact Kd.V_nil _ _ _ _ _ | exact Kd.Q_nil _ _ _ _ _ | exact Kd.S_nil _ _ _ _ _⟩, ⟨bE⟩⟩
 clear H'
 try clear p2
 try clear c3
 try clear p6
 obtain ⟨x4_1, x5_1, rfl, HA, HK1, HO_3, HO_4, HB⟩ := hrel
 cases gk with
 | zero => exact absurd HA.out (by simp [newelref05_Split.l0])
 | succ k1 =>
  have H := HA.out
  clear HA
  simp only [newelref05_Split.l0] at H
  by_cases c7 : x5_1 ≥ 0
  rotate_left
  ·rw [if_neg c7] at H
   have c7b0 := dF c7
   clear c7
   obtain rfl := Option.some.inj H
   go_wp2
   go_ret
   exact ⟨_, by first | rfl | (simp [errW_none, errW_some] <;> rfl) | (simp [*, errW_none, errW_some] <;> rfl), by (with_reducible repeat (first | apply Kd.R_alloc | apply Kd.R_drewN | apply Kd.R_drew)); exact HO_4.out, bE⟩
  rw [if_pos c7] at H
  have c7b0 := dT c7
  clear c7
  obtain ⟨c8, H⟩ := gp H
  have c8b0 := dT c8
  clear c8
  obtain ⟨c9, H⟩ := gp H
  have c9b0 := dT c9
  clear c9
  replace H := bi H
  obtain ⟨⟨t261, t262⟩, A100, H⟩ := H
  try dsimp only at H
  have A10 := Aside0.mk A100
  clear A100
  by_cases c11 : (x4_1.length : Int) > 0
  rotate_left
  ·rw [if_neg c11] at H
   have c11b0 := dF c11
   have c11b1 : decide (0 < x4_1.length) = false := decide_eq_false (by omega)
   clear c11
   by_cases c53 : t261 = 6
   ·rw [if_pos c53] at H
    obtain ⟨c53b0, c53b1⟩ := eqT c53
    clear c53
    have H' := Aside0.mk H
    clear H
    have p260 : 0 ≤ (x5_1 : Int) := dA
    have q260 : x5_1 < (t257.length : Int) := dA
    obtain ⟨ad260, e260, hx260_0, hx260_1, hx260_2⟩ := at_T98 (Kd.R_reads' HO_3.out).2.2 x5_1 p260 q260
    cases e260
    replace p260 := eq_true p260
    replace q260 := eq_true q260
    go_wp2_with (first | (refine gl (some 22) Tryd.func77 #[.agg #[.string ((rd_T98 t257 x5_1).f0), .bool ((rd_T98 t257 x5_1).f1), .bool ((rd_T98 t257 x5_1).f2)]] ?_; (with_reducible refine (newelref05_word.calls k1 ((rd_T98 t257 x5_1).f0) ((rd_T98 t257 x5_1).f1) ((rd_T98 t257 x5_1).f2) t261 t262 _ (gS HG) A10.out).mono ?_); rintro e w54 ⟨rfl, hb⟩; refine ⟨_, rfl, ?_⟩; replace HO_3 := rB HO_3 hb; replace HO_4 := rB HO_4 hb; replace HB := sB hb; (try clear hb)) | (refine be 6 #[.int .i64 0, .string (⟨#[]⟩ : ByteArray)] 38 ?_; intro gb263 hg w55 hbox hb; replace HO_3 := rB HO_3 hb; replace HO_4 := Aside0.mk (Kd.R_below (Kd.R_elderB (kR HO_4) gb263 (Nat.le_of_eq hg.symm)) hb); have BK263 := Aside0.mk (hbox); have GW263 := gW hg; have GE263 := gW hg; replace HB := sB hb; clear hb hbox hg; have hcz56_0 : w55.cell? ⟨gb263, 0, none⟩ = some (.int .i64 0) := (blk_cell BK263.out 0).trans rfl; have hcz56_1 : w55.cell? ⟨gb263, 1, none⟩ = some (.string (⟨#[]⟩ : ByteArray)) := (blk_cell BK263.out 1).trans rfl; have hfz56_0 := blk_frozen BK263.out 0; have hfz56_1 := blk_frozen BK263.out 1; obtain ⟨Ao57, co57, eo57⟩ := Kd.R_slice HO_4.out; subst eo57))
    go_roundg k1
    case measure => have := HK1.out; omega
    case rel => exact ⟨(x4_1), (wrap64 (x5_1 - 1)), cA, H', ⟨by have := HK1.out; omega⟩, ⟨by (with_reducible repeat (first | apply Kd.R_alloc | apply Kd.R_drewN | apply Kd.R_drew)); exact Kd.R_mono (Kd.R_far (p := ⟨gb263, 1, none⟩) (Kd.R_far (p := ⟨gb263, 0, none⟩) (Kd.R_types HO_3.out BK263.out (by decide)) (fun _ hk => hk.2) (.int .i64 t261)) (fun _ hk => hk.2) (.string t262)) (fun _ hk => trivial)⟩, ⟨by (with_reducible repeat (first | apply Kd.R_alloc | apply Kd.R_drewN | apply Kd.R_drew)); exact Kd.R_mono (Kd.R_far (p := ⟨gb263, 1, none⟩) (Kd.R_far (p := ⟨gb263, 0, none⟩) (Kd.R_mono HO_4.out (fun k_ hk => (⟨hk, hk.2⟩ : _ ∧ k_ ≠ gb263))) (fun _ hk => hk.2) (.int .i64 t261)) (fun _ hk => hk.2) (.string t262)) (fun _ hk => trivial)⟩, ⟨bG⟩⟩
   rw [if_neg c53] at H
   obtain ⟨c53b0, c53b1⟩ := eqF c53
   obtain ⟨y290, hy290⟩ : ∃ y_ : List (S38), y_ = (([(⟨t261, t262⟩ : S38)] : List (S38))) := ⟨_, rfl⟩
   replace H : (if y290.length + x4_1.length < 5864062014805 then (newelref05_Split.l0 k1 t257 (y290 ++ x4_1) (wrap64 (x5_1 - 1))) else (none)) = some r := by first | (rw [hy290]; with_reducible exact H) | (have H2_ := (Option.bind_some _ _).symm.trans H; rw [hy290]; with_reducible exact H2_) | (have H2_ := (Option.bind_some _ _).symm.trans H; with_reducible exact H2_) | with_reducible exact H | (rw [hy290]; exact H) | exact H
   have Ny290 := Aside0.mk hy290
   clear hy290
   obtain ⟨c58, H⟩ := gp H
   have LMc58 := Aside0.mk c58
   clear c58
   obtain ⟨y293, hy293⟩ : ∃ y_ : List (S38), y_ = (y290 ++ x4_1) := ⟨_, rfl⟩
   replace H : (newelref05_Split.l0 k1 t257 y293 (wrap64 (x5_1 - 1))) = some r := by first | (rw [hy293]; with_reducible exact H) | (have H2_ := (Option.bind_some _ _).symm.trans H; rw [hy293]; with_reducible exact H2_) | (have H2_ := (Option.bind_some _ _).symm.trans H; with_reducible exact H2_) | with_reducible exact H | (rw [hy293]; exact H) | exact H
   have Ny293 := Aside0.mk hy293
   clear hy293
   have H' := Aside0.mk H
   clear H
   have p260 : 0 ≤ (x5_1 : Int) := dA
   have q260 : x5_1 < (t257.length : Int) := dA
   obtain ⟨ad260, e260, hx260_0, hx260_1, hx260_2⟩ := at_T98 (Kd.R_reads' HO_3.out).2.2 x5_1 p260 q260
   cases e260
   replace p260 := eq_true p260
   replace q260 := eq_true q260
   go_wp2_with (first | (refine gl (some 22) Tryd.func77 #[.agg #[.string ((rd_T98 t257 x5_1).f0), .bool ((rd_T98 t257 x5_1).f1), .bool ((rd_T98 t257 x5_1).f2)]] ?_; (with_reducible refine (newelref05_word.calls k1 ((rd_T98 t257 x5_1).f0) ((rd_T98 t257 x5_1).f1) ((rd_T98 t257 x5_1).f2) t261 t262 _ (gS HG) A10.out).mono ?_); rintro e w59 ⟨rfl, hb⟩; refine ⟨_, rfl, ?_⟩; replace HO_3 := rB HO_3 hb; replace HO_4 := rB HO_4 hb; replace HB := sB hb; (try clear hb)) | (refine be 6 #[.int .i64 0, .string (⟨#[]⟩ : ByteArray)] 38 ?_; intro gb263 hg w60 hbox hb; replace HO_3 := rB HO_3 hb; replace HO_4 := Aside0.mk (Kd.R_below (Kd.R_elderB (kR HO_4) gb263 (Nat.le_of_eq hg.symm)) hb); have BK263 := Aside0.mk (hbox); have GW263 := gW hg; have GE263 := gW hg; replace HB := sB hb; clear hb hbox hg; have hcz61_0 : w60.cell? ⟨gb263, 0, none⟩ = some (.int .i64 0) := (blk_cell BK263.out 0).trans rfl; have hcz61_1 : w60.cell? ⟨gb263, 1, none⟩ = some (.string (⟨#[]⟩ : ByteArray)) := (blk_cell BK263.out 1).trans rfl; have hfz61_0 := blk_frozen BK263.out 0; have hfz61_1 := blk_frozen BK263.out 1; obtain ⟨Ao62, co62, eo62⟩ := Kd.R_slice HO_4.out; subst eo62) | ((with_reducible refine gate_dst (N := 48) rfl ?_); refine Kd.R_lit k38 _ 38 ?hg (N := 48) ?hd (xs := ([(⟨t261, t262⟩ : S38)] : List (S38))) (inner := [.int .i64 t261, .string t262]) (ok := fun _ => True) (okp := fun _ => True) ?hr ?hp (fun _ hk => hk) trivial (Below.refl _ _) (Nat.le_refl _) (by simp) ?_; (case hd => rfl); (case hg => rfl); (case hr => first | (go_simp; done) | (go_simp; rfl)); (case hp => exact (Reps.c2 (show Kd.M k38 _ _ _ (⟨t261, t262⟩ : S38) [.int .i64 t261, .string t262] from (k38_mkM _ _ _ (⟨t261, t262⟩ : S38) )) (Reps.none _ _))); intro v291 w63 ho64 hb hg_ hnew_; clear hg_ hnew_; (first | rw [← Ny290.out] at ho64 | (simp only [Int.reduceToNat] at ho64; rw [← Ny290.out] at ho64)); replace HO_3 := Aside0.mk (Kd.R_below (by (with_reducible repeat (first | apply Kd.R_alloc | apply Kd.R_drewN | apply Kd.R_drew)); exact (Kd.R_mono (Kd.R_far (p := ⟨gb263, 1, none⟩) (Kd.R_far (p := ⟨gb263, 0, none⟩) (Kd.R_types HO_3.out BK263.out (by decide)) (fun _ hk => hk.2) (.int .i64 t261)) (fun _ hk => hk.2) (.string t262)) (fun _ h_ => h_.1))) hb); have HO292 := Aside0.mk (Kd.R_lower (Kd.R_newB (Kd.R_new' ho64 (Kd.R_lt (by (with_reducible repeat (first | apply Kd.R_alloc | apply Kd.R_drewN | apply Kd.R_drew)); exact (Kd.R_mono (Kd.R_far (p := ⟨gb263, 1, none⟩) (Kd.R_far (p := ⟨gb263, 0, none⟩) (Kd.R_mono HO_4.out (fun k_ hk => (⟨hk, hk.2⟩ : _ ∧ k_ ≠ gb263))) (fun _ hk => hk.2) (.int .i64 t261)) (fun _ hk => hk.2) (.string t262)) (fun _ h_ => h_.1))))) (g := gb263) (o := .cells #[.int .i64 t261, .string t262] 38 (0, 0)) (bP BK263)) (below_size bG)); replace HO_4 := Aside0.mk (Kd.R_elder' (by (with_reducible repeat (first | apply Kd.R_alloc | apply Kd.R_drewN | apply Kd.R_drew)); exact (Kd.R_mono (Kd.R_far (p := ⟨gb263, 1, none⟩) (Kd.R_far (p := ⟨gb263, 0, none⟩) (Kd.R_mono HO_4.out (fun k_ hk => (⟨hk, hk.2⟩ : _ ∧ k_ ≠ gb263))) (fun _ hk => hk.2) (.int .i64 t261)) (fun _ hk => hk.2) (.string t262)) (fun _ h_ => h_.1))) (Kd.R_base ho64) hb); replace BK263 := Aside0.mk (blk_below (g := gb263) (o := .cells #[.int .i64 t261, .string t262] 38 (0, 0)) (bP BK263) hb); replace HB := sB hb; clear hb ho64) | ((with_reducible refine gate_builtin (b := .append) (xs := #[.tmp 48, .tmp 49]) rfl ?_); at_builtin; refine Kd.R_append_rows k38 (w0 := w) w.heap.size rfl (.tmp 48) (.tmp 49) 39 38 (.agg #[(.int .i64 0), (.string ⟨#[]⟩)]) 24 rfl Tryd.underlying39 info38 rfl (by decide) (by omega) v291 y290 x4_1 _ _ _ (fun k_ => some k_ ≠ (.slice Ao62 x4_1.length co62 : Value).ownBlock ∧ k_ ≠ gb263) (fun _ => False) rfl rfl ?aO ?aR (fun _ _ h => h) (fun _ h => h.elim) ?aF ?aB ?aS ?aL ?_; (case aR => repeat (first | exact (Kd.R_reads' HO_4.out).2.2 | (with_reducible refine Kd.C_alloc ?_ _) | (with_reducible refine Kd.C_drewN ?_ _) | (with_reducible refine Kd.C_drew ?_))); (case aB => exact bG); (case aF => exact (fun k_ hk => ⟨Kd.fresh' (Kd.R_lt (kR HO_4)) k_ hk, Kd.freshB (g := gb263) (o := .cells #[.int .i64 t261, .string t262] 38 (0, 0)) (bK BK263) k_ hk⟩)); (case aO => exact (by (with_reducible repeat (first | apply Kd.R_alloc | apply Kd.R_drewN | apply Kd.R_drew)); exact Kd.R_mono HO292.out (fun _ hk => ⟨hk.1.2, hk.2⟩))); (case aS => exact (below_size bG)); (case aL => have := LMc58.out; omega); intro v294 w65 ho hb hg hat; rw [← Ny293.out] at ho; replace HO_3 := Aside0.mk (Kd.R_over' (kR HO_3) (Kd.R_typed (kR HO292)) (by decide) hg); replace HO_4 := Aside0.mk (Kd.R_after (ok := (fun k_ => k_ ≠ gb263)) (by (with_reducible repeat (first | apply Kd.R_alloc | apply Kd.R_drewN | apply Kd.R_drew)); exact Kd.R_mono HO_4.out (fun _ hk => ⟨hk.1.2, hk.2⟩)) hg hat); replace BK263 := Aside0.mk (blk_grown (g := gb263) (o := .cells #[.int .i64 t261, .string t262] 38 (0, 0)) (bK BK263) hg (Kd.R_away HO292.out (fun _ hk => hk.2))); replace HB := Aside0.mk (hb); have HO295 := Aside0.mk (ho); clear HO292; clear ho hb hg hat))
   go_roundg k1
   case measure => have := HK1.out; omega
   case rel => exact ⟨(y293), (wrap64 (x5_1 - 1)), cA, H', ⟨by have := HK1.out; omega⟩, ⟨kR HO_3⟩, ⟨by (with_reducible repeat (first | apply Kd.R_alloc | apply Kd.R_drewN | apply Kd.R_drew)); exact Kd.R_mono HO295.out (fun _ hk => trivial)⟩, ⟨bG⟩⟩
  rw [if_pos c11] at H
  have c11b0 := dT c11
  have c11b1 : decide (0 < x4_1.length) = true := decide_eq_true (by omega)
  clear c11
  obtain ⟨c12, H⟩ := gp H
  have c12b0 := dT c12
  have c12b1 : decide (0 < x4_1.length) = true := decide_eq_true (by omega)
  clear c12
  by_cases c13 : ((rd_T38 x4_1 0).f0) = 6
  ·rw [if_pos c13] at H
   obtain ⟨c13b0, c13b1⟩ := eqT c13
   clear c13
   by_cases c14 : t261 = 6
   rotate_left
   ·rw [if_neg c14] at H
    obtain ⟨c14b0, c14b1⟩ := eqF c14
    obtain ⟨y271, hy271⟩ : ∃ y_ : List (S38), y_ = (([(⟨t261, t262⟩ : S38)] : List (S38))) := ⟨_, rfl⟩
    replace H : (if y271.length + x4_1.length < 5864062014805 then (newelref05_Split.l0 k1 t257 (y271 ++ x4_1) (wrap64 (x5_1 - 1))) else (none)) = some r := by first | (rw [hy271]; with_reducible exact H) | (have H2_ := (Option.bind_some _ _).symm.trans H; rw [hy271]; with_reducible exact H2_) | (have H2_ := (Option.bind_some _ _).symm.trans H; with_reducible exact H2_) | with_reducible exact H | (rw [hy271]; exact H) | exact H
    have Ny271 := Aside0.mk hy271
    clear hy271
    obtain ⟨c23, H⟩ := gp H
    have LMc23 := Aside0.mk c23
    clear c23
    obtain ⟨y274, hy274⟩ : ∃ y_ : List (S38), y_ = (y271 ++ x4_1) := ⟨_, rfl⟩
    replace H : (newelref05_Split.l0 k1 t257 y274 (wrap64 (x5_1 - 1))) = some r := by first | (rw [hy274]; with_reducible exact H) | (have H2_ := (Option.bind_some _ _).symm.trans H; rw [hy274]; with_reducible exact H2_) | (have H2_ := (Option.bind_some _ _).symm.trans H; with_reducible exact H2_) | with_reducible exact H | (rw [hy274]; exact H) | exact H
    have Ny274 := Aside0.mk hy274
    clear hy274
    have H' := Aside0.mk H
    clear H
    have p260 : 0 ≤ (x5_1 : Int) := dA
    have q260 : x5_1 < (t257.length : Int) := dA
    obtain ⟨ad260, e260, hx260_0, hx260_1, hx260_2⟩ := at_T98 (Kd.R_reads' HO_3.out).2.2 x5_1 p260 q260
    cases e260
    replace p260 := eq_true p260
    replace q260 := eq_true q260
    go_wp2_with (first | (refine gl (some 22) Tryd.func77 #[.agg #[.string ((rd_T98 t257 x5_1).f0), .bool ((rd_T98 t257 x5_1).f1), .bool ((rd_T98 t257 x5_1).f2)]] ?_; (with_reducible refine (newelref05_word.calls k1 ((rd_T98 t257 x5_1).f0) ((rd_T98 t257 x5_1).f1) ((rd_T98 t257 x5_1).f2) t261 t262 _ (gS HG) A10.out).mono ?_); rintro e w24 ⟨rfl, hb⟩; refine ⟨_, rfl, ?_⟩; replace HO_3 := rB HO_3 hb; replace HO_4 := rB HO_4 hb; replace HB := sB hb; (try clear hb)) | (refine be 6 #[.int .i64 0, .string (⟨#[]⟩ : ByteArray)] 38 ?_; intro gb263 hg w25 hbox hb; replace HO_3 := rB HO_3 hb; replace HO_4 := Aside0.mk (Kd.R_below (Kd.R_elderB (kR HO_4) gb263 (Nat.le_of_eq hg.symm)) hb); have BK263 := Aside0.mk (hbox); have GW263 := gW hg; have GE263 := gW hg; replace HB := sB hb; clear hb hbox hg; have hcz26_0 : w25.cell? ⟨gb263, 0, none⟩ = some (.int .i64 0) := (blk_cell BK263.out 0).trans rfl; have hcz26_1 : w25.cell? ⟨gb263, 1, none⟩ = some (.string (⟨#[]⟩ : ByteArray)) := (blk_cell BK263.out 1).trans rfl; have hfz26_0 := blk_frozen BK263.out 0; have hfz26_1 := blk_frozen BK263.out 1; obtain ⟨Ao27, co27, eo27⟩ := Kd.R_slice HO_4.out; subst eo27; have p264 : 0 ≤ (0 : Int) := (by omega); have q264 : 0 < (x4_1.length : Int) := dA; obtain ⟨ad264, e264, hx264_0, hx264_1⟩ := at_T38 (Kd.R_reads' HO_4.out).2.2 0 p264 q264; cases e264; have qi264 : (0 < x4_1.length) = True := eq_true (by omega); (try rw [show ((0 : Int)).toNat = 0 from rfl] at hx264_0); (try rw [show 0 * 2 = 0 from rfl] at hx264_0); (try rw [Addr.add_zero'] at hx264_0); (try rw [show ((0 : Int)).toNat = 0 from rfl] at hx264_1); (try rw [show 0 * 2 = 0 from rfl] at hx264_1); (try rw [Addr.add_zero'] at hx264_1); have hn264_0 : ad264.block ≠ gb263 := Kd.own_blk (Kd.R_away HO_4.out (fun _ hk => hk.2)); have hn264_1 : ad264.block ≠ gb263 := Kd.own_blk (Kd.R_away HO_4.out (fun _ hk => hk.2)); replace hx264_0 := (cell_far (p := ⟨gb263, 0, none⟩) (by first | (rw [add_block]; exact hn264_0) | (show (Addr.add _ _).block ≠ _; rw [add_block]; exact hn264_0) | exact hn264_0) (.int .i64 t261)).trans hx264_0; replace hx264_1 := (cell_far (p := ⟨gb263, 0, none⟩) (by first | (rw [add_block]; exact hn264_0) | (show (Addr.add _ _).block ≠ _; rw [add_block]; exact hn264_0) | exact hn264_0) (.int .i64 t261)).trans hx264_1; replace hx264_0 := (cell_far (p := ⟨gb263, 1, none⟩) (by first | (rw [add_block]; exact hn264_1) | (show (Addr.add _ _).block ≠ _; rw [add_block]; exact hn264_1) | exact hn264_1) (.string t262)).trans hx264_0; replace hx264_1 := (cell_far (p := ⟨gb263, 1, none⟩) (by first | (rw [add_block]; exact hn264_1) | (show (Addr.add _ _).block ≠ _; rw [add_block]; exact hn264_1) | exact hn264_1) (.string t262)).trans hx264_1; clear hn264_0; clear hn264_1; replace p264 := eq_true p264; replace q264 := eq_true q264) | ((with_reducible refine gate_dst (N := 48) rfl ?_); refine Kd.R_lit k38 _ 38 ?hg (N := 48) ?hd (xs := ([(⟨t261, t262⟩ : S38)] : List (S38))) (inner := [.int .i64 t261, .string t262]) (ok := fun _ => True) (okp := fun _ => True) ?hr ?hp (fun _ hk => hk) trivial (Below.refl _ _) (Nat.le_refl _) (by simp) ?_; (case hd => rfl); (case hg => rfl); (case hr => first | (go_simp; done) | (go_simp; rfl)); (case hp => exact (Reps.c2 (show Kd.M k38 _ _ _ (⟨t261, t262⟩ : S38) [.int .i64 t261, .string t262] from (k38_mkM _ _ _ (⟨t261, t262⟩ : S38) )) (Reps.none _ _))); intro v272 w28 ho29 hb hg_ hnew_; clear hg_ hnew_; (first | rw [← Ny271.out] at ho29 | (simp only [Int.reduceToNat] at ho29; rw [← Ny271.out] at ho29)); replace HO_3 := Aside0.mk (Kd.R_below (by (with_reducible repeat (first | apply Kd.R_alloc | apply Kd.R_drewN | apply Kd.R_drew)); exact (Kd.R_mono (Kd.R_far (p := ⟨gb263, 1, none⟩) (Kd.R_far (p := ⟨gb263, 0, none⟩) (Kd.R_types HO_3.out BK263.out (by decide)) (fun _ hk => hk.2) (.int .i64 t261)) (fun _ hk => hk.2) (.string t262)) (fun _ h_ => h_.1))) hb); have HO273 := Aside0.mk (Kd.R_lower (Kd.R_newB (Kd.R_new' ho29 (Kd.R_lt (by (with_reducible repeat (first | apply Kd.R_alloc | apply Kd.R_drewN | apply Kd.R_drew)); exact (Kd.R_mono (Kd.R_far (p := ⟨gb263, 1, none⟩) (Kd.R_far (p := ⟨gb263, 0, none⟩) (Kd.R_mono HO_4.out (fun k_ hk => (⟨hk, hk.2⟩ : _ ∧ k_ ≠ gb263))) (fun _ hk => hk.2) (.int .i64 t261)) (fun _ hk => hk.2) (.string t262)) (fun _ h_ => h_.1))))) (g := gb263) (o := .cells #[.int .i64 t261, .string t262] 38 (0, 0)) (bP BK263)) (below_size bG)); replace HO_4 := Aside0.mk (Kd.R_elder' (by (with_reducible repeat (first | apply Kd.R_alloc | apply Kd.R_drewN | apply Kd.R_drew)); exact (Kd.R_mono (Kd.R_far (p := ⟨gb263, 1, none⟩) (Kd.R_far (p := ⟨gb263, 0, none⟩) (Kd.R_mono HO_4.out (fun k_ hk => (⟨hk, hk.2⟩ : _ ∧ k_ ≠ gb263))) (fun _ hk => hk.2) (.int .i64 t261)) (fun _ hk => hk.2) (.string t262)) (fun _ h_ => h_.1))) (Kd.R_base ho29) hb); replace BK263 := Aside0.mk (blk_below (g := gb263) (o := .cells #[.int .i64 t261, .string t262] 38 (0, 0)) (bP BK263) hb); replace HB := sB hb; clear hb ho29) | ((with_reducible refine gate_builtin (b := .append) (xs := #[.tmp 48, .tmp 49]) rfl ?_); at_builtin; refine Kd.R_append_rows k38 (w0 := w) w.heap.size rfl (.tmp 48) (.tmp 49) 39 38 (.agg #[(.int .i64 0), (.string ⟨#[]⟩)]) 24 rfl Tryd.underlying39 info38 rfl (by decide) (by omega) v272 y271 x4_1 _ _ _ (fun k_ => some k_ ≠ (.slice (some ad264) x4_1.length co27 : Value).ownBlock ∧ k_ ≠ gb263) (fun _ => False) rfl rfl ?aO ?aR (fun _ _ h => h) (fun _ h => h.elim) ?aF ?aB ?aS ?aL ?_; (case aR => repeat (first | exact (Kd.R_reads' HO_4.out).2.2 | (with_reducible refine Kd.C_alloc ?_ _) | (with_reducible refine Kd.C_drewN ?_ _) | (with_reducible refine Kd.C_drew ?_))); (case aB => exact bG); (case aF => exact (fun k_ hk => ⟨Kd.fresh' (Kd.R_lt (kR HO_4)) k_ hk, Kd.freshB (g := gb263) (o := .cells #[.int .i64 t261, .string t262] 38 (0, 0)) (bK BK263) k_ hk⟩)); (case aO => exact (by (with_reducible repeat (first | apply Kd.R_alloc | apply Kd.R_drewN | apply Kd.R_drew)); exact Kd.R_mono HO273.out (fun _ hk => ⟨hk.1.2, hk.2⟩))); (case aS => exact (below_size bG)); (case aL => have := LMc23.out; omega); intro v275 w30 ho hb hg hat; rw [← Ny274.out] at ho; replace HO_3 := Aside0.mk (Kd.R_over' (kR HO_3) (Kd.R_typed (kR HO273)) (by decide) hg); replace HO_4 := Aside0.mk (Kd.R_after (ok := (fun k_ => k_ ≠ gb263)) (by (with_reducible repeat (first | apply Kd.R_alloc | apply Kd.R_drewN | apply Kd.R_drew)); exact Kd.R_mono HO_4.out (fun _ hk => ⟨hk.1.2, hk.2⟩)) hg hat); replace BK263 := Aside0.mk (blk_grown (g := gb263) (o := .cells #[.int .i64 t261, .string t262] 38 (0, 0)) (bK BK263) hg (Kd.R_away HO273.out (fun _ hk => hk.2))); replace HB := Aside0.mk (hb); have HO276 := Aside0.mk (ho); clear HO273; clear ho hb hg hat))
    go_roundg k1
    case measure => have := HK1.out; omega
    case rel => exact ⟨(y274), (wrap64 (x5_1 - 1)), cA, H', ⟨by have := HK1.out; omega⟩, ⟨kR HO_3⟩, ⟨by (with_reducible repeat (first | apply Kd.R_alloc | apply Kd.R_drewN | apply Kd.R_drew)); exact Kd.R_mono HO276.out (fun _ hk => trivial)⟩, ⟨bG⟩⟩
   rw [if_pos c14] at H
   obtain ⟨c14b0, c14b1⟩ := eqT c14
   clear c14
   obtain ⟨y265, hy265⟩ : ∃ y_ : List (S38), y_ = (([(⟨t261, t262⟩ : S38)] : List (S38))) := ⟨_, rfl⟩
   replace H : (if y265.length + x4_1.length < 5864062014805 then (newelref05_Split.l0 k1 t257 (y265 ++ x4_1) (wrap64 (x5_1 - 1))) else (none)) = some r := by first | (rw [hy265]; with_reducible exact H) | (have H2_ := (Option.bind_some _ _).symm.trans H; rw [hy265]; with_reducible exact H2_) | (have H2_ := (Option.bind_some _ _).symm.trans H; with_reducible exact H2_) | with_reducible exact H | (rw [hy265]; exact H) | exact H
   have Ny265 := Aside0.mk hy265
   clear hy265
   obtain ⟨c15, H⟩ := gp H
   have LMc15 := Aside0.mk c15
   clear c15
   obtain ⟨y268, hy268⟩ : ∃ y_ : List (S38), y_ = (y265 ++ x4_1) := ⟨_, rfl⟩
   replace H : (newelref05_Split.l0 k1 t257 y268 (wrap64 (x5_1 - 1))) = some r := by first | (rw [hy268]; with_reducible exact H) | (have H2_ := (Option.bind_some _ _).symm.trans H; rw [hy268]; with_reducible exact H2_) | (have H2_ := (Option.bind_some _ _).symm.trans H; with_reducible exact H2_) | with_reducible exact H | (rw [hy268]; exact H) | exact H
   have Ny268 := Aside0.mk hy268
   clear hy268
   have H' := Aside0.mk H
   clear H
   have p260 : 0 ≤ (x5_1 : Int) := dA
   have q260 : x5_1 < (t257.length : Int) := dA
   obtain ⟨ad260, e260, hx260_0, hx260_1, hx260_2⟩ := at_T98 (Kd.R_reads' HO_3.out).2.2 x5_1 p260 q260
   cases e260
   replace p260 := eq_true p260
   replace q260 := eq_true q260
   go_wp2_with (first | (refine gl (some 22) Tryd.func77 #[.agg #[.string ((rd_T98 t257 x5_1).f0), .bool ((rd_T98 t257 x5_1).f1), .bool ((rd_T98 t257 x5_1).f2)]] ?_; (with_reducible refine (newelref05_word.calls k1 ((rd_T98 t257 x5_1).f0) ((rd_T98 t257 x5_1).f1) ((rd_T98 t257 x5_1).f2) t261 t262 _ (gS HG) A10.out).mono ?_); rintro e w16 ⟨rfl, hb⟩; refine ⟨_, rfl, ?_⟩; replace HO_3 := rB HO_3 hb; replace HO_4 := rB HO_4 hb; replace HB := sB hb; (try clear hb)) | (refine be 6 #[.int .i64 0, .string (⟨#[]⟩ : ByteArray)] 38 ?_; intro gb263 hg w17 hbox hb; replace HO_3 := rB HO_3 hb; replace HO_4 := Aside0.mk (Kd.R_below (Kd.R_elderB (kR HO_4) gb263 (Nat.le_of_eq hg.symm)) hb); have BK263 := Aside0.mk (hbox); have GW263 := gW hg; have GE263 := gW hg; replace HB := sB hb; clear hb hbox hg; have hcz18_0 : w17.cell? ⟨gb263, 0, none⟩ = some (.int .i64 0) := (blk_cell BK263.out 0).trans rfl; have hcz18_1 : w17.cell? ⟨gb263, 1, none⟩ = some (.string (⟨#[]⟩ : ByteArray)) := (blk_cell BK263.out 1).trans rfl; have hfz18_0 := blk_frozen BK263.out 0; have hfz18_1 := blk_frozen BK263.out 1; obtain ⟨Ao19, co19, eo19⟩ := Kd.R_slice HO_4.out; subst eo19; have p264 : 0 ≤ (0 : Int) := (by omega); have q264 : 0 < (x4_1.length : Int) := dA; obtain ⟨ad264, e264, hx264_0, hx264_1⟩ := at_T38 (Kd.R_reads' HO_4.out).2.2 0 p264 q264; cases e264; have qi264 : (0 < x4_1.length) = True := eq_true (by omega); (try rw [show ((0 : Int)).toNat = 0 from rfl] at hx264_0); (try rw [show 0 * 2 = 0 from rfl] at hx264_0); (try rw [Addr.add_zero'] at hx264_0); (try rw [show ((0 : Int)).toNat = 0 from rfl] at hx264_1); (try rw [show 0 * 2 = 0 from rfl] at hx264_1); (try rw [Addr.add_zero'] at hx264_1); have hn264_0 : ad264.block ≠ gb263 := Kd.own_blk (Kd.R_away HO_4.out (fun _ hk => hk.2)); have hn264_1 : ad264.block ≠ gb263 := Kd.own_blk (Kd.R_away HO_4.out (fun _ hk => hk.2)); replace hx264_0 := (cell_far (p := ⟨gb263, 0, none⟩) (by first | (rw [add_block]; exact hn264_0) | (show (Addr.add _ _).block ≠ _; rw [add_block]; exact hn264_0) | exact hn264_0) (.int .i64 t261)).trans hx264_0; replace hx264_1 := (cell_far (p := ⟨gb263, 0, none⟩) (by first | (rw [add_block]; exact hn264_0) | (show (Addr.add _ _).block ≠ _; rw [add_block]; exact hn264_0) | exact hn264_0) (.int .i64 t261)).trans hx264_1; replace hx264_0 := (cell_far (p := ⟨gb263, 1, none⟩) (by first | (rw [add_block]; exact hn264_1) | (show (Addr.add _ _).block ≠ _; rw [add_block]; exact hn264_1) | exact hn264_1) (.string t262)).trans hx264_0; replace hx264_1 := (cell_far (p := ⟨gb263, 1, none⟩) (by first | (rw [add_block]; exact hn264_1) | (show (Addr.add _ _).block ≠ _; rw [add_block]; exact hn264_1) | exact hn264_1) (.string t262)).trans hx264_1; clear hn264_0; clear hn264_1; replace p264 := eq_true p264; replace q264 := eq_true q264) | ((with_reducible refine gate_dst (N := 48) rfl ?_); refine Kd.R_lit k38 _ 38 ?hg (N := 48) ?hd (xs := ([(⟨t261, t262⟩ : S38)] : List (S38))) (inner := [.int .i64 t261, .string t262]) (ok := fun _ => True) (okp := fun _ => True) ?hr ?hp (fun _ hk => hk) trivial (Below.refl _ _) (Nat.le_refl _) (by simp) ?_; (case hd => rfl); (case hg => rfl); (case hr => first | (go_simp; done) | (go_simp; rfl)); (case hp => exact (Reps.c2 (show Kd.M k38 _ _ _ (⟨t261, t262⟩ : S38) [.int .i64 t261, .string t262] from (k38_mkM _ _ _ (⟨t261, t262⟩ : S38) )) (Reps.none _ _))); intro v266 w20 ho21 hb hg_ hnew_; clear hg_ hnew_; (first | rw [← Ny265.out] at ho21 | (simp only [Int.reduceToNat] at ho21; rw [← Ny265.out] at ho21)); replace HO_3 := Aside0.mk (Kd.R_below (by (with_reducible repeat (first | apply Kd.R_alloc | apply Kd.R_drewN | apply Kd.R_drew)); exact (Kd.R_mono (Kd.R_far (p := ⟨gb263, 1, none⟩) (Kd.R_far (p := ⟨gb263, 0, none⟩) (Kd.R_types HO_3.out BK263.out (by decide)) (fun _ hk => hk.2) (.int .i64 t261)) (fun _ hk => hk.2) (.string t262)) (fun _ h_ => h_.1))) hb); have HO267 := Aside0.mk (Kd.R_lower (Kd.R_newB (Kd.R_new' ho21 (Kd.R_lt (by (with_reducible repeat (first | apply Kd.R_alloc | apply Kd.R_drewN | apply Kd.R_drew)); exact (Kd.R_mono (Kd.R_far (p := ⟨gb263, 1, none⟩) (Kd.R_far (p := ⟨gb263, 0, none⟩) (Kd.R_mono HO_4.out (fun k_ hk => (⟨hk, hk.2⟩ : _ ∧ k_ ≠ gb263))) (fun _ hk => hk.2) (.int .i64 t261)) (fun _ hk => hk.2) (.string t262)) (fun _ h_ => h_.1))))) (g := gb263) (o := .cells #[.int .i64 t261, .string t262] 38 (0, 0)) (bP BK263)) (below_size bG)); replace HO_4 := Aside0.mk (Kd.R_elder' (by (with_reducible repeat (first | apply Kd.R_alloc | apply Kd.R_drewN | apply Kd.R_drew)); exact (Kd.R_mono (Kd.R_far (p := ⟨gb263, 1, none⟩) (Kd.R_far (p := ⟨gb263, 0, none⟩) (Kd.R_mono HO_4.out (fun k_ hk => (⟨hk, hk.2⟩ : _ ∧ k_ ≠ gb263))) (fun _ hk => hk.2) (.int .i64 t261)) (fun _ hk => hk.2) (.string t262)) (fun _ h_ => h_.1))) (Kd.R_base ho21) hb); replace BK263 := Aside0.mk (blk_below (g := gb263) (o := .cells #[.int .i64 t261, .string t262] 38 (0, 0)) (bP BK263) hb); replace HB := sB hb; clear hb ho21) | ((with_reducible refine gate_builtin (b := .append) (xs := #[.tmp 48, .tmp 49]) rfl ?_); at_builtin; refine Kd.R_append_rows k38 (w0 := w) w.heap.size rfl (.tmp 48) (.tmp 49) 39 38 (.agg #[(.int .i64 0), (.string ⟨#[]⟩)]) 24 rfl Tryd.underlying39 info38 rfl (by decide) (by omega) v266 y265 x4_1 _ _ _ (fun k_ => some k_ ≠ (.slice (some ad264) x4_1.length co19 : Value).ownBlock ∧ k_ ≠ gb263) (fun _ => False) rfl rfl ?aO ?aR (fun _ _ h => h) (fun _ h => h.elim) ?aF ?aB ?aS ?aL ?_; (case aR => repeat (first | exact (Kd.R_reads' HO_4.out).2.2 | (with_reducible refine Kd.C_alloc ?_ _) | (with_reducible refine Kd.C_drewN ?_ _) | (with_reducible refine Kd.C_drew ?_))); (case aB => exact bG); (case aF => exact (fun k_ hk => ⟨Kd.fresh' (Kd.R_lt (kR HO_4)) k_ hk, Kd.freshB (g := gb263) (o := .cells #[.int .i64 t261, .string t262] 38 (0, 0)) (bK BK263) k_ hk⟩)); (case aO => exact (by (with_reducible repeat (first | apply Kd.R_alloc | apply Kd.R_drewN | apply Kd.R_drew)); exact Kd.R_mono HO267.out (fun _ hk => ⟨hk.1.2, hk.2⟩))); (case aS => exact (below_size bG)); (case aL => have := LMc15.out; omega); intro v269 w22 ho hb hg hat; rw [← Ny268.out] at ho; replace HO_3 := Aside0.mk (Kd.R_over' (kR HO_3) (Kd.R_typed (kR HO267)) (by decide) hg); replace HO_4 := Aside0.mk (Kd.R_after (ok := (fun k_ => k_ ≠ gb263)) (by (with_reducible repeat (first | apply Kd.R_alloc | apply Kd.R_drewN | apply Kd.R_drew)); exact Kd.R_mono HO_4.out (fun _ hk => ⟨hk.1.2, hk.2⟩)) hg hat); replace BK263 := Aside0.mk (blk_grown (g := gb263) (o := .cells #[.int .i64 t261, .string t262] 38 (0, 0)) (bK BK263) hg (Kd.R_away HO267.out (fun _ hk => hk.2))); replace HB := Aside0.mk (hb); have HO270 := Aside0.mk (ho); clear HO267; clear ho hb hg hat))
   go_roundg k1
   case measure => have := HK1.out; omega
   case rel => exact ⟨(y268), (wrap64 (x5_1 - 1)), cA, H', ⟨by have := HK1.out; omega⟩, ⟨kR HO_3⟩, ⟨by (with_reducible repeat (first | apply Kd.R_alloc | apply Kd.R_drewN | apply Kd.R_drew)); exact Kd.R_mono HO270.out (fun _ hk => trivial)⟩, ⟨bG⟩⟩
  rw [if_neg c13] at H
  obtain ⟨c13b0, c13b1⟩ := eqF c13
  by_cases c31 : t261 = 6
  rotate_left
  ·rw [if_neg c31] at H
   obtain ⟨c31b0, c31b1⟩ := eqF c31
   obtain ⟨y284, hy284⟩ : ∃ y_ : List (S38), y_ = (([(⟨t261, t262⟩ : S38)] : List (S38))) := ⟨_, rfl⟩
   replace H : (if y284.length + x4_1.length < 5864062014805 then (newelref05_Split.l0 k1 t257 (y284 ++ x4_1) (wrap64 (x5_1 - 1))) else (none)) = some r := by first | (rw [hy284]; with_reducible exact H) | (have H2_ := (Option.bind_some _ _).symm.trans H; rw [hy284]; with_reducible exact H2_) | (have H2_ := (Option.bind_some _ _).symm.trans H; with_reducible exact H2_) | with_reducible exact H | (rw [hy284]; exact H) | exact H
   have Ny284 := Aside0.mk hy284
   clear hy284
   obtain ⟨c45, H⟩ := gp H
   have LMc45 := Aside0.mk c45
   clear c45
   obtain ⟨y287, hy287⟩ : ∃ y_ : List (S38), y_ = (y284 ++ x4_1) := ⟨_, rfl⟩
   replace H : (newelref05_Split.l0 k1 t257 y287 (wrap64 (x5_1 - 1))) = some r := by first | (rw [hy287]; with_reducible exact H) | (have H2_ := (Option.bind_some _ _).symm.trans H; rw [hy287]; with_reducible exact H2_) | (have H2_ := (Option.bind_some _ _).symm.trans H; with_reducible exact H2_) | with_reducible exact H | (rw [hy287]; exact H) | exact H
   have Ny287 := Aside0.mk hy287
   clear hy287
   have H' := Aside0.mk H
   clear H
   have p260 : 0 ≤ (x5_1 : Int) := dA
   have q260 : x5_1 < (t257.length : Int) := dA
   obtain ⟨ad260, e260, hx260_0, hx260_1, hx260_2⟩ := at_T98 (Kd.R_reads' HO_3.out).2.2 x5_1 p260 q260
   cases e260
   replace p260 := eq_true p260
   replace q260 := eq_true q260
   go_wp2_with (first | (refine gl (some 22) Tryd.func77 #[.agg #[.string ((rd_T98 t257 x5_1).f0), .bool ((rd_T98 t257 x5_1).f1), .bool ((rd_T98 t257 x5_1).f2)]] ?_; (with_reducible refine (newelref05_word.calls k1 ((rd_T98 t257 x5_1).f0) ((rd_T98 t257 x5_1).f1) ((rd_T98 t257 x5_1).f2) t261 t262 _ (gS HG) A10.out).mono ?_); rintro e w46 ⟨rfl, hb⟩; refine ⟨_, rfl, ?_⟩; replace HO_3 := rB HO_3 hb; replace HO_4 := rB HO_4 hb; replace HB := sB hb; (try clear hb)) | (refine be 6 #[.int .i64 0, .string (⟨#[]⟩ : ByteArray)] 38 ?_; intro gb263 hg w47 hbox hb; replace HO_3 := rB HO_3 hb; replace HO_4 := Aside0.mk (Kd.R_below (Kd.R_elderB (kR HO_4) gb263 (Nat.le_of_eq hg.symm)) hb); have BK263 := Aside0.mk (hbox); have GW263 := gW hg; have GE263 := gW hg; replace HB := sB hb; clear hb hbox hg; have hcz48_0 : w47.cell? ⟨gb263, 0, none⟩ = some (.int .i64 0) := (blk_cell BK263.out 0).trans rfl; have hcz48_1 : w47.cell? ⟨gb263, 1, none⟩ = some (.string (⟨#[]⟩ : ByteArray)) := (blk_cell BK263.out 1).trans rfl; have hfz48_0 := blk_frozen BK263.out 0; have hfz48_1 := blk_frozen BK263.out 1; obtain ⟨Ao49, co49, eo49⟩ := Kd.R_slice HO_4.out; subst eo49; have p264 : 0 ≤ (0 : Int) := (by omega); have q264 : 0 < (x4_1.length : Int) := dA; obtain ⟨ad264, e264, hx264_0, hx264_1⟩ := at_T38 (Kd.R_reads' HO_4.out).2.2 0 p264 q264; cases e264; have qi264 : (0 < x4_1.length) = True := eq_true (by omega); (try rw [show ((0 : Int)).toNat = 0 from rfl] at hx264_0); (try rw [show 0 * 2 = 0 from rfl] at hx264_0); (try rw [Addr.add_zero'] at hx264_0); (try rw [show ((0 : Int)).toNat = 0 from rfl] at hx264_1); (try rw [show 0 * 2 = 0 from rfl] at hx264_1); (try rw [Addr.add_zero'] at hx264_1); have hn264_0 : ad264.block ≠ gb263 := Kd.own_blk (Kd.R_away HO_4.out (fun _ hk => hk.2)); have hn264_1 : ad264.block ≠ gb263 := Kd.own_blk (Kd.R_away HO_4.out (fun _ hk => hk.2)); replace hx264_0 := (cell_far (p := ⟨gb263, 0, none⟩) (by first | (rw [add_block]; exact hn264_0) | (show (Addr.add _ _).block ≠ _; rw [add_block]; exact hn264_0) | exact hn264_0) (.int .i64 t261)).trans hx264_0; replace hx264_1 := (cell_far (p := ⟨gb263, 0, none⟩) (by first | (rw [add_block]; exact hn264_0) | (show (Addr.add _ _).block ≠ _; rw [add_block]; exact hn264_0) | exact hn264_0) (.int .i64 t261)).trans hx264_1; replace hx264_0 := (cell_far (p := ⟨gb263, 1, none⟩) (by first | (rw [add_block]; exact hn264_1) | (show (Addr.add _ _).block ≠ _; rw [add_block]; exact hn264_1) | exact hn264_1) (.string t262)).trans hx264_0; replace hx264_1 := (cell_far (p := ⟨gb263, 1, none⟩) (by first | (rw [add_block]; exact hn264_1) | (show (Addr.add _ _).block ≠ _; rw [add_block]; exact hn264_1) | exact hn264_1) (.string t262)).trans hx264_1; clear hn264_0; clear hn264_1; replace p264 := eq_true p264; replace q264 := eq_true q264; have p277 : 0 ≤ (0 : Int) := (by omega); have q277 : 0 < (x4_1.length : Int) := dA; obtain ⟨ad277, e277, hx277_0, hx277_1⟩ := at_T38 (Kd.R_reads' HO_4.out).2.2 0 p277 q277; obtain rfl : ad264 = ad277 := (by injection e277); have qi277 : (0 < x4_1.length) = True := eq_true (by omega); (try rw [show ((0 : Int)).toNat = 0 from rfl] at hx277_0); (try rw [show 0 * 2 = 0 from rfl] at hx277_0); (try rw [Addr.add_zero'] at hx277_0); (try rw [show ((0 : Int)).toNat = 0 from rfl] at hx277_1); (try rw [show 0 * 2 = 0 from rfl] at hx277_1); (try rw [Addr.add_zero'] at hx277_1); have hn277_0 : ad264.block ≠ gb263 := Kd.own_blk (Kd.R_away HO_4.out (fun _ hk => hk.2)); have hn277_1 : ad264.block ≠ gb263 := Kd.own_blk (Kd.R_away HO_4.out (fun _ hk => hk.2)); replace hx277_0 := (cell_far (p := ⟨gb263, 0, none⟩) (by first | (rw [add_block]; exact hn277_0) | (show (Addr.add _ _).block ≠ _; rw [add_block]; exact hn277_0) | exact hn277_0) (.int .i64 t261)).trans hx277_0; replace hx277_1 := (cell_far (p := ⟨gb263, 0, none⟩) (by first | (rw [add_block]; exact hn277_0) | (show (Addr.add _ _).block ≠ _; rw [add_block]; exact hn277_0) | exact hn277_0) (.int .i64 t261)).trans hx277_1; replace hx277_0 := (cell_far (p := ⟨gb263, 1, none⟩) (by first | (rw [add_block]; exact hn277_1) | (show (Addr.add _ _).block ≠ _; rw [add_block]; exact hn277_1) | exact hn277_1) (.string t262)).trans hx277_0; replace hx277_1 := (cell_far (p := ⟨gb263, 1, none⟩) (by first | (rw [add_block]; exact hn277_1) | (show (Addr.add _ _).block ≠ _; rw [add_block]; exact hn277_1) | exact hn277_1) (.string t262)).trans hx277_1; clear hn277_0; clear hn277_1; replace p277 := eq_true p277; replace q277 := eq_true q277) | ((with_reducible refine gate_dst (N := 48) rfl ?_); refine Kd.R_lit k38 _ 38 ?hg (N := 48) ?hd (xs := ([(⟨t261, t262⟩ : S38)] : List (S38))) (inner := [.int .i64 t261, .string t262]) (ok := fun _ => True) (okp := fun _ => True) ?hr ?hp (fun _ hk => hk) trivial (Below.refl _ _) (Nat.le_refl _) (by simp) ?_; (case hd => rfl); (case hg => rfl); (case hr => first | (go_simp; done) | (go_simp; rfl)); (case hp => exact (Reps.c2 (show Kd.M k38 _ _ _ (⟨t261, t262⟩ : S38) [.int .i64 t261, .string t262] from (k38_mkM _ _ _ (⟨t261, t262⟩ : S38) )) (Reps.none _ _))); intro v285 w50 ho51 hb hg_ hnew_; clear hg_ hnew_; (first | rw [← Ny284.out] at ho51 | (simp only [Int.reduceToNat] at ho51; rw [← Ny284.out] at ho51)); replace HO_3 := Aside0.mk (Kd.R_below (by (with_reducible repeat (first | apply Kd.R_alloc | apply Kd.R_drewN | apply Kd.R_drew)); exact (Kd.R_mono (Kd.R_far (p := ⟨gb263, 1, none⟩) (Kd.R_far (p := ⟨gb263, 0, none⟩) (Kd.R_types HO_3.out BK263.out (by decide)) (fun _ hk => hk.2) (.int .i64 t261)) (fun _ hk => hk.2) (.string t262)) (fun _ h_ => h_.1))) hb); have HO286 := Aside0.mk (Kd.R_lower (Kd.R_newB (Kd.R_new' ho51 (Kd.R_lt (by (with_reducible repeat (first | apply Kd.R_alloc | apply Kd.R_drewN | apply Kd.R_drew)); exact (Kd.R_mono (Kd.R_far (p := ⟨gb263, 1, none⟩) (Kd.R_far (p := ⟨gb263, 0, none⟩) (Kd.R_mono HO_4.out (fun k_ hk => (⟨hk, hk.2⟩ : _ ∧ k_ ≠ gb263))) (fun _ hk => hk.2) (.int .i64 t261)) (fun _ hk => hk.2) (.string t262)) (fun _ h_ => h_.1))))) (g := gb263) (o := .cells #[.int .i64 t261, .string t262] 38 (0, 0)) (bP BK263)) (below_size bG)); replace HO_4 := Aside0.mk (Kd.R_elder' (by (with_reducible repeat (first | apply Kd.R_alloc | apply Kd.R_drewN | apply Kd.R_drew)); exact (Kd.R_mono (Kd.R_far (p := ⟨gb263, 1, none⟩) (Kd.R_far (p := ⟨gb263, 0, none⟩) (Kd.R_mono HO_4.out (fun k_ hk => (⟨hk, hk.2⟩ : _ ∧ k_ ≠ gb263))) (fun _ hk => hk.2) (.int .i64 t261)) (fun _ hk => hk.2) (.string t262)) (fun _ h_ => h_.1))) (Kd.R_base ho51) hb); replace BK263 := Aside0.mk (blk_below (g := gb263) (o := .cells #[.int .i64 t261, .string t262] 38 (0, 0)) (bP BK263) hb); replace HB := sB hb; clear hb ho51) | ((with_reducible refine gate_builtin (b := .append) (xs := #[.tmp 48, .tmp 49]) rfl ?_); at_builtin; refine Kd.R_append_rows k38 (w0 := w) w.heap.size rfl (.tmp 48) (.tmp 49) 39 38 (.agg #[(.int .i64 0), (.string ⟨#[]⟩)]) 24 rfl Tryd.underlying39 info38 rfl (by decide) (by omega) v285 y284 x4_1 _ _ _ (fun k_ => some k_ ≠ (.slice (some ad264) x4_1.length co49 : Value).ownBlock ∧ k_ ≠ gb263) (fun _ => False) rfl rfl ?aO ?aR (fun _ _ h => h) (fun _ h => h.elim) ?aF ?aB ?aS ?aL ?_; (case aR => repeat (first | exact (Kd.R_reads' HO_4.out).2.2 | (with_reducible refine Kd.C_alloc ?_ _) | (with_reducible refine Kd.C_drewN ?_ _) | (with_reducible refine Kd.C_drew ?_))); (case aB => exact bG); (case aF => exact (fun k_ hk => ⟨Kd.fresh' (Kd.R_lt (kR HO_4)) k_ hk, Kd.freshB (g := gb263) (o := .cells #[.int .i64 t261, .string t262] 38 (0, 0)) (bK BK263) k_ hk⟩)); (case aO => exact (by (with_reducible repeat (first | apply Kd.R_alloc | apply Kd.R_drewN | apply Kd.R_drew)); exact Kd.R_mono HO286.out (fun _ hk => ⟨hk.1.2, hk.2⟩))); (case aS => exact (below_size bG)); (case aL => have := LMc45.out; omega); intro v288 w52 ho hb hg hat; rw [← Ny287.out] at ho; replace HO_3 := Aside0.mk (Kd.R_over' (kR HO_3) (Kd.R_typed (kR HO286)) (by decide) hg); replace HO_4 := Aside0.mk (Kd.R_after (ok := (fun k_ => k_ ≠ gb263)) (by (with_reducible repeat (first | apply Kd.R_alloc | apply Kd.R_drewN | apply Kd.R_drew)); exact Kd.R_mono HO_4.out (fun _ hk => ⟨hk.1.2, hk.2⟩)) hg hat); replace BK263 := Aside0.mk (blk_grown (g := gb263) (o := .cells #[.int .i64 t261, .string t262] 38 (0, 0)) (bK BK263) hg (Kd.R_away HO286.out (fun _ hk => hk.2))); replace HB := Aside0.mk (hb); have HO289 := Aside0.mk (ho); clear HO286; clear ho hb hg hat))
   go_roundg k1
   case measure => have := HK1.out; omega
   case rel => exact ⟨(y287), (wrap64 (x5_1 - 1)), cA, H', ⟨by have := HK1.out; omega⟩, ⟨kR HO_3⟩, ⟨by (with_reducible repeat (first | apply Kd.R_alloc | apply Kd.R_drewN | apply Kd.R_drew)); exact Kd.R_mono HO289.out (fun _ hk => trivial)⟩, ⟨bG⟩⟩
  rw [if_pos c31] at H
  obtain ⟨c31b0, c31b1⟩ := eqT c31
  clear c31
  by_cases c32 : (((rd_T38 x4_1 0).f0) = 10)
  rotate_left
  ·rw [if_neg c32] at H
   obtain ⟨c32b0, c32b1⟩ := eqF c32
   have H' := Aside0.mk H
   clear H
   have p260 : 0 ≤ (x5_1 : Int) := dA
   have q260 : x5_1 < (t257.length : Int) := dA
   obtain ⟨ad260, e260, hx260_0, hx260_1, hx260_2⟩ := at_T98 (Kd.R_reads' HO_3.out).2.2 x5_1 p260 q260
   cases e260
   replace p260 := eq_true p260
   replace q260 := eq_true q260
   go_wp2_with (first | (refine gl (some 22) Tryd.func77 #[.agg #[.string ((rd_T98 t257 x5_1).f0), .bool ((rd_T98 t257 x5_1).f1), .bool ((rd_T98 t257 x5_1).f2)]] ?_; (with_reducible refine (newelref05_word.calls k1 ((rd_T98 t257 x5_1).f0) ((rd_T98 t257 x5_1).f1) ((rd_T98 t257 x5_1).f2) t261 t262 _ (gS HG) A10.out).mono ?_); rintro e w41 ⟨rfl, hb⟩; refine ⟨_, rfl, ?_⟩; replace HO_3 := rB HO_3 hb; replace HO_4 := rB HO_4 hb; replace HB := sB hb; (try clear hb)) | (refine be 6 #[.int .i64 0, .string (⟨#[]⟩ : ByteArray)] 38 ?_; intro gb263 hg w42 hbox hb; replace HO_3 := rB HO_3 hb; replace HO_4 := Aside0.mk (Kd.R_below (Kd.R_elderB (kR HO_4) gb263 (Nat.le_of_eq hg.symm)) hb); have BK263 := Aside0.mk (hbox); have GW263 := gW hg; have GE263 := gW hg; replace HB := sB hb; clear hb hbox hg; have hcz43_0 : w42.cell? ⟨gb263, 0, none⟩ = some (.int .i64 0) := (blk_cell BK263.out 0).trans rfl; have hcz43_1 : w42.cell? ⟨gb263, 1, none⟩ = some (.string (⟨#[]⟩ : ByteArray)) := (blk_cell BK263.out 1).trans rfl; have hfz43_0 := blk_frozen BK263.out 0; have hfz43_1 := blk_frozen BK263.out 1; obtain ⟨Ao44, co44, eo44⟩ := Kd.R_slice HO_4.out; subst eo44; have p264 : 0 ≤ (0 : Int) := (by omega); have q264 : 0 < (x4_1.length : Int) := dA; obtain ⟨ad264, e264, hx264_0, hx264_1⟩ := at_T38 (Kd.R_reads' HO_4.out).2.2 0 p264 q264; cases e264; have qi264 : (0 < x4_1.length) = True := eq_true (by omega); (try rw [show ((0 : Int)).toNat = 0 from rfl] at hx264_0); (try rw [show 0 * 2 = 0 from rfl] at hx264_0); (try rw [Addr.add_zero'] at hx264_0); (try rw [show ((0 : Int)).toNat = 0 from rfl] at hx264_1); (try rw [show 0 * 2 = 0 from rfl] at hx264_1); (try rw [Addr.add_zero'] at hx264_1); have hn264_0 : ad264.block ≠ gb263 := Kd.own_blk (Kd.R_away HO_4.out (fun _ hk => hk.2)); have hn264_1 : ad264.block ≠ gb263 := Kd.own_blk (Kd.R_away HO_4.out (fun _ hk => hk.2)); replace hx264_0 := (cell_far (p := ⟨gb263, 0, none⟩) (by first | (rw [add_block]; exact hn264_0) | (show (Addr.add _ _).block ≠ _; rw [add_block]; exact hn264_0) | exact hn264_0) (.int .i64 t261)).trans hx264_0; replace hx264_1 := (cell_far (p := ⟨gb263, 0, none⟩) (by first | (rw [add_block]; exact hn264_0) | (show (Addr.add _ _).block ≠ _; rw [add_block]; exact hn264_0) | exact hn264_0) (.int .i64 t261)).trans hx264_1; replace hx264_0 := (cell_far (p := ⟨gb263, 1, none⟩) (by first | (rw [add_block]; exact hn264_1) | (show (Addr.add _ _).block ≠ _; rw [add_block]; exact hn264_1) | exact hn264_1) (.string t262)).trans hx264_0; replace hx264_1 := (cell_far (p := ⟨gb263, 1, none⟩) (by first | (rw [add_block]; exact hn264_1) | (show (Addr.add _ _).block ≠ _; rw [add_block]; exact hn264_1) | exact hn264_1) (.string t262)).trans hx264_1; clear hn264_0; clear hn264_1; replace p264 := eq_true p264; replace q264 := eq_true q264; have p277 : 0 ≤ (0 : Int) := (by omega); have q277 : 0 < (x4_1.length : Int) := dA; obtain ⟨ad277, e277, hx277_0, hx277_1⟩ := at_T38 (Kd.R_reads' HO_4.out).2.2 0 p277 q277; obtain rfl : ad264 = ad277 := (by injection e277); have qi277 : (0 < x4_1.length) = True := eq_true (by omega); (try rw [show ((0 : Int)).toNat = 0 from rfl] at hx277_0); (try rw [show 0 * 2 = 0 from rfl] at hx277_0); (try rw [Addr.add_zero'] at hx277_0); (try rw [show ((0 : Int)).toNat = 0 from rfl] at hx277_1); (try rw [show 0 * 2 = 0 from rfl] at hx277_1); (try rw [Addr.add_zero'] at hx277_1); have hn277_0 : ad264.block ≠ gb263 := Kd.own_blk (Kd.R_away HO_4.out (fun _ hk => hk.2)); have hn277_1 : ad264.block ≠ gb263 := Kd.own_blk (Kd.R_away HO_4.out (fun _ hk => hk.2)); replace hx277_0 := (cell_far (p := ⟨gb263, 0, none⟩) (by first | (rw [add_block]; exact hn277_0) | (show (Addr.add _ _).block ≠ _; rw [add_block]; exact hn277_0) | exact hn277_0) (.int .i64 t261)).trans hx277_0; replace hx277_1 := (cell_far (p := ⟨gb263, 0, none⟩) (by first | (rw [add_block]; exact hn277_0) | (show (Addr.add _ _).block ≠ _; rw [add_block]; exact hn277_0) | exact hn277_0) (.int .i64 t261)).trans hx277_1; replace hx277_0 := (cell_far (p := ⟨gb263, 1, none⟩) (by first | (rw [add_block]; exact hn277_1) | (show (Addr.add _ _).block ≠ _; rw [add_block]; exact hn277_1) | exact hn277_1) (.string t262)).trans hx277_0; replace hx277_1 := (cell_far (p := ⟨gb263, 1, none⟩) (by first | (rw [add_block]; exact hn277_1) | (show (Addr.add _ _).block ≠ _; rw [add_block]; exact hn277_1) | exact hn277_1) (.string t262)).trans hx277_1; clear hn277_0; clear hn277_1; replace p277 := eq_true p277; replace q277 := eq_true q277))
   go_roundg k1
   case measure => have := HK1.out; omega
   case rel => exact ⟨(x4_1), (wrap64 (x5_1 - 1)), cA, H', ⟨by have := HK1.out; omega⟩, ⟨by (with_reducible repeat (first | apply Kd.R_alloc | apply Kd.R_drewN | apply Kd.R_drew)); exact Kd.R_mono (Kd.R_far (p := ⟨gb263, 1, none⟩) (Kd.R_far (p := ⟨gb263, 0, none⟩) (Kd.R_types HO_3.out BK263.out (by decide)) (fun _ hk => hk.2) (.int .i64 t261)) (fun _ hk => hk.2) (.string t262)) (fun _ hk => trivial)⟩, ⟨by (with_reducible repeat (first | apply Kd.R_alloc | apply Kd.R_drewN | apply Kd.R_drew)); exact Kd.R_mono (Kd.R_far (p := ⟨gb263, 1, none⟩) (Kd.R_far (p := ⟨gb263, 0, none⟩) (Kd.R_mono HO_4.out (fun k_ hk => (⟨hk, hk.2⟩ : _ ∧ k_ ≠ gb263))) (fun _ hk => hk.2) (.int .i64 t261)) (fun _ hk => hk.2) (.string t262)) (fun _ hk => trivial)⟩, ⟨bG⟩⟩
  rw [if_pos c32] at H
  obtain ⟨c32b0, c32b1⟩ := eqT c32
  clear c32
  obtain ⟨y278, hy278⟩ : ∃ y_ : List (S38), y_ = (([(⟨t261, t262⟩ : S38)] : List (S38))) := ⟨_, rfl⟩
  replace H : (if y278.length + x4_1.length < 5864062014805 then (newelref05_Split.l0 k1 t257 (y278 ++ x4_1) (wrap64 (x5_1 - 1))) else (none)) = some r := by first | (rw [hy278]; with_reducible exact H) | (have H2_ := (Option.bind_some _ _).symm.trans H; rw [hy278]; with_reducible exact H2_) | (have H2_ := (Option.bind_some _ _).symm.trans H; with_reducible exact H2_) | with_reducible exact H | (rw [hy278]; exact H) | exact H
  have Ny278 := Aside0.mk hy278
  clear hy278
  obtain ⟨c33, H⟩ := gp H
  have LMc33 := Aside0.mk c33
  clear c33
  obtain ⟨y281, hy281⟩ : ∃ y_ : List (S38), y_ = (y278 ++ x4_1) := ⟨_, rfl⟩
  replace H : (newelref05_Split.l0 k1 t257 y281 (wrap64 (x5_1 - 1))) = some r := by first | (rw [hy281]; with_reducible exact H) | (have H2_ := (Option.bind_some _ _).symm.trans H; rw [hy281]; with_reducible exact H2_) | (have H2_ := (Option.bind_some _ _).symm.trans H; with_reducible exact H2_) | with_reducible exact H | (rw [hy281]; exact H) | exact H
  have Ny281 := Aside0.mk hy281
  clear hy281
  have H' := Aside0.mk H
  clear H
  have p260 : 0 ≤ (x5_1 : Int) := dA
  have q260 : x5_1 < (t257.length : Int) := dA
  obtain ⟨ad260, e260, hx260_0, hx260_1, hx260_2⟩ := at_T98 (Kd.R_reads' HO_3.out).2.2 x5_1 p260 q260
  cases e260
  replace p260 := eq_true p260
  replace q260 := eq_true q260
  go_wp2_with (first | (refine gl (some 22) Tryd.func77 #[.agg #[.string ((rd_T98 t257 x5_1).f0), .bool ((rd_T98 t257 x5_1).f1), .bool ((rd_T98 t257 x5_1).f2)]] ?_; (with_reducible refine (newelref05_word.calls k1 ((rd_T98 t257 x5_1).f0) ((rd_T98 t257 x5_1).f1) ((rd_T98 t257 x5_1).f2) t261 t262 _ (gS HG) A10.out).mono ?_); rintro e w34 ⟨rfl, hb⟩; refine ⟨_, rfl, ?_⟩; replace HO_3 := rB HO_3 hb; replace HO_4 := rB HO_4 hb; replace HB := sB hb; (try clear hb)) | (refine be 6 #[.int .i64 0, .string (⟨#[]⟩ : ByteArray)] 38 ?_; intro gb263 hg w35 hbox hb; replace HO_3 := rB HO_3 hb; replace HO_4 := Aside0.mk (Kd.R_below (Kd.R_elderB (kR HO_4) gb263 (Nat.le_of_eq hg.symm)) hb); have BK263 := Aside0.mk (hbox); have GW263 := gW hg; have GE263 := gW hg; replace HB := sB hb; clear hb hbox hg; have hcz36_0 : w35.cell? ⟨gb263, 0, none⟩ = some (.int .i64 0) := (blk_cell BK263.out 0).trans rfl; have hcz36_1 : w35.cell? ⟨gb263, 1, none⟩ = some (.string (⟨#[]⟩ : ByteArray)) := (blk_cell BK263.out 1).trans rfl; have hfz36_0 := blk_frozen BK263.out 0; have hfz36_1 := blk_frozen BK263.out 1; obtain ⟨Ao37, co37, eo37⟩ := Kd.R_slice HO_4.out; subst eo37; have p264 : 0 ≤ (0 : Int) := (by omega); have q264 : 0 < (x4_1.length : Int) := dA; obtain ⟨ad264, e264, hx264_0, hx264_1⟩ := at_T38 (Kd.R_reads' HO_4.out).2.2 0 p264 q264; cases e264; have qi264 : (0 < x4_1.length) = True := eq_true (by omega); (try rw [show ((0 : Int)).toNat = 0 from rfl] at hx264_0); (try rw [show 0 * 2 = 0 from rfl] at hx264_0); (try rw [Addr.add_zero'] at hx264_0); (try rw [show ((0 : Int)).toNat = 0 from rfl] at hx264_1); (try rw [show 0 * 2 = 0 from rfl] at hx264_1); (try rw [Addr.add_zero'] at hx264_1); have hn264_0 : ad264.block ≠ gb263 := Kd.own_blk (Kd.R_away HO_4.out (fun _ hk => hk.2)); have hn264_1 : ad264.block ≠ gb263 := Kd.own_blk (Kd.R_away HO_4.out (fun _ hk => hk.2)); replace hx264_0 := (cell_far (p := ⟨gb263, 0, none⟩) (by first | (rw [add_block]; exact hn264_0) | (show (Addr.add _ _).block ≠ _; rw [add_block]; exact hn264_0) | exact hn264_0) (.int .i64 t261)).trans hx264_0; replace hx264_1 := (cell_far (p := ⟨gb263, 0, none⟩) (by first | (rw [add_block]; exact hn264_0) | (show (Addr.add _ _).block ≠ _; rw [add_block]; exact hn264_0) | exact hn264_0) (.int .i64 t261)).trans hx264_1; replace hx264_0 := (cell_far (p := ⟨gb263, 1, none⟩) (by first | (rw [add_block]; exact hn264_1) | (show (Addr.add _ _).block ≠ _; rw [add_block]; exact hn264_1) | exact hn264_1) (.string t262)).trans hx264_0; replace hx264_1 := (cell_far (p := ⟨gb263, 1, none⟩) (by first | (rw [add_block]; exact hn264_1) | (show (Addr.add _ _).block ≠ _; rw [add_block]; exact hn264_1) | exact hn264_1) (.string t262)).trans hx264_1; clear hn264_0; clear hn264_1; replace p264 := eq_true p264; replace q264 := eq_true q264; have p277 : 0 ≤ (0 : Int) := (by omega); have q277 : 0 < (x4_1.length : Int) := dA; obtain ⟨ad277, e277, hx277_0, hx277_1⟩ := at_T38 (Kd.R_reads' HO_4.out).2.2 0 p277 q277; obtain rfl : ad264 = ad277 := (by injection e277); have qi277 : (0 < x4_1.length) = True := eq_true (by omega); (try rw [show ((0 : Int)).toNat = 0 from rfl] at hx277_0); (try rw [show 0 * 2 = 0 from rfl] at hx277_0); (try rw [Addr.add_zero'] at hx277_0); (try rw [show ((0 : Int)).toNat = 0 from rfl] at hx277_1); (try rw [show 0 * 2 = 0 from rfl] at hx277_1); (try rw [Addr.add_zero'] at hx277_1); have hn277_0 : ad264.block ≠ gb263 := Kd.own_blk (Kd.R_away HO_4.out (fun _ hk => hk.2)); have hn277_1 : ad264.block ≠ gb263 := Kd.own_blk (Kd.R_away HO_4.out (fun _ hk => hk.2)); replace hx277_0 := (cell_far (p := ⟨gb263, 0, none⟩) (by first | (rw [add_block]; exact hn277_0) | (show (Addr.add _ _).block ≠ _; rw [add_block]; exact hn277_0) | exact hn277_0) (.int .i64 t261)).trans hx277_0; replace hx277_1 := (cell_far (p := ⟨gb263, 0, none⟩) (by first | (rw [add_block]; exact hn277_0) | (show (Addr.add _ _).block ≠ _; rw [add_block]; exact hn277_0) | exact hn277_0) (.int .i64 t261)).trans hx277_1; replace hx277_0 := (cell_far (p := ⟨gb263, 1, none⟩) (by first | (rw [add_block]; exact hn277_1) | (show (Addr.add _ _).block ≠ _; rw [add_block]; exact hn277_1) | exact hn277_1) (.string t262)).trans hx277_0; replace hx277_1 := (cell_far (p := ⟨gb263, 1, none⟩) (by first | (rw [add_block]; exact hn277_1) | (show (Addr.add _ _).block ≠ _; rw [add_block]; exact hn277_1) | exact hn277_1) (.string t262)).trans hx277_1; clear hn277_0; clear hn277_1; replace p277 := eq_true p277; replace q277 := eq_true q277) | ((with_reducible refine gate_dst (N := 48) rfl ?_); refine Kd.R_lit k38 _ 38 ?hg (N := 48) ?hd (xs := ([(⟨t261, t262⟩ : S38)] : List (S38))) (inner := [.int .i64 t261, .string t262]) (ok := fun _ => True) (okp := fun _ => True) ?hr ?hp (fun _ hk => hk) trivial (Below.refl _ _) (Nat.le_refl _) (by simp) ?_; (case hd => rfl); (case hg => rfl); (case hr => first | (go_simp; done) | (go_simp; rfl)); (case hp => exact (Reps.c2 (show Kd.M k38 _ _ _ (⟨t261, t262⟩ : S38) [.int .i64 t261, .string t262] from (k38_mkM _ _ _ (⟨t261, t262⟩ : S38) )) (Reps.none _ _))); intro v279 w38 ho39 hb hg_ hnew_; clear hg_ hnew_; (first | rw [← Ny278.out] at ho39 | (simp only [Int.reduceToNat] at ho39; rw [← Ny278.out] at ho39)); replace HO_3 := Aside0.mk (Kd.R_below (by (with_reducible repeat (first | apply Kd.R_alloc | apply Kd.R_drewN | apply Kd.R_drew)); exact (Kd.R_mono (Kd.R_far (p := ⟨gb263, 1, none⟩) (Kd.R_far (p := ⟨gb263, 0, none⟩) (Kd.R_types HO_3.out BK263.out (by decide)) (fun _ hk => hk.2) (.int .i64 t261)) (fun _ hk => hk.2) (.string t262)) (fun _ h_ => h_.1))) hb); have HO280 := Aside0.mk (Kd.R_lower (Kd.R_newB (Kd.R_new' ho39 (Kd.R_lt (by (with_reducible repeat (first | apply Kd.R_alloc | apply Kd.R_drewN | apply Kd.R_drew)); exact (Kd.R_mono (Kd.R_far (p := ⟨gb263, 1, none⟩) (Kd.R_far (p := ⟨gb263, 0, none⟩) (Kd.R_mono HO_4.out (fun k_ hk => (⟨hk, hk.2⟩ : _ ∧ k_ ≠ gb263))) (fun _ hk => hk.2) (.int .i64 t261)) (fun _ hk => hk.2) (.string t262)) (fun _ h_ => h_.1))))) (g := gb263) (o := .cells #[.int .i64 t261, .string t262] 38 (0, 0)) (bP BK263)) (below_size bG)); replace HO_4 := Aside0.mk (Kd.R_elder' (by (with_reducible repeat (first | apply Kd.R_alloc | apply Kd.R_drewN | apply Kd.R_drew)); exact (Kd.R_mono (Kd.R_far (p := ⟨gb263, 1, none⟩) (Kd.R_far (p := ⟨gb263, 0, none⟩) (Kd.R_mono HO_4.out (fun k_ hk => (⟨hk, hk.2⟩ : _ ∧ k_ ≠ gb263))) (fun _ hk => hk.2) (.int .i64 t261)) (fun _ hk => hk.2) (.string t262)) (fun _ h_ => h_.1))) (Kd.R_base ho39) hb); replace BK263 := Aside0.mk (blk_below (g := gb263) (o := .cells #[.int .i64 t261, .string t262] 38 (0, 0)) (bP BK263) hb); replace HB := sB hb; clear hb ho39) | ((with_reducible refine gate_builtin (b := .append) (xs := #[.tmp 48, .tmp 49]) rfl ?_); at_builtin; refine Kd.R_append_rows k38 (w0 := w) w.heap.size rfl (.tmp 48) (.tmp 49) 39 38 (.agg #[(.int .i64 0), (.string ⟨#[]⟩)]) 24 rfl Tryd.underlying39 info38 rfl (by decide) (by omega) v279 y278 x4_1 _ _ _ (fun k_ => some k_ ≠ (.slice (some ad264) x4_1.length co37 : Value).ownBlock ∧ k_ ≠ gb263) (fun _ => False) rfl rfl ?aO ?aR (fun _ _ h => h) (fun _ h => h.elim) ?aF ?aB ?aS ?aL ?_; (case aR => repeat (first | exact (Kd.R_reads' HO_4.out).2.2 | (with_reducible refine Kd.C_alloc ?_ _) | (with_reducible refine Kd.C_drewN ?_ _) | (with_reducible refine Kd.C_drew ?_))); (case aB => exact bG); (case aF => exact (fun k_ hk => ⟨Kd.fresh' (Kd.R_lt (kR HO_4)) k_ hk, Kd.freshB (g := gb263) (o := .cells #[.int .i64 t261, .string t262] 38 (0, 0)) (bK BK263) k_ hk⟩)); (case aO => exact (by (with_reducible repeat (first | apply Kd.R_alloc | apply Kd.R_drewN | apply Kd.R_drew)); exact Kd.R_mono HO280.out (fun _ hk => ⟨hk.1.2, hk.2⟩))); (case aS => exact (below_size bG)); (case aL => have := LMc33.out; omega); intro v282 w40 ho hb hg hat; rw [← Ny281.out] at ho; replace HO_3 := Aside0.mk (Kd.R_over' (kR HO_3) (Kd.R_typed (kR HO280)) (by decide) hg); replace HO_4 := Aside0.mk (Kd.R_after (ok := (fun k_ => k_ ≠ gb263)) (by (with_reducible repeat (first | apply Kd.R_alloc | apply Kd.R_drewN | apply Kd.R_drew)); exact Kd.R_mono HO_4.out (fun _ hk => ⟨hk.1.2, hk.2⟩)) hg hat); replace BK263 := Aside0.mk (blk_grown (g := gb263) (o := .cells #[.int .i64 t261, .string t262] 38 (0, 0)) (bK BK263) hg (Kd.R_away HO280.out (fun _ hk => hk.2))); replace HB := Aside0.mk (hb); have HO283 := Aside0.mk (ho); clear HO280; clear ho hb hg hat))
  go_roundg k1
  case measure => have := HK1.out; omega
  case rel => exact ⟨(y281), (wrap64 (x5_1 - 1)), cA, H', ⟨by have := HK1.out; omega⟩, ⟨kR HO_3⟩, ⟨by (with_reducible repeat (first | apply Kd.R_alloc | apply Kd.R_drewN | apply Kd.R_drew)); exact Kd.R_mono HO283.out (fun _ hk => trivial)⟩, ⟨bG⟩⟩
section
theorem bytesLess_turn_r : ∀ x y : List UInt8, (!(Op.bytesLess x y || x == y)) = Op.bytesLess y x
 | [], [] => rfl
 | [], _ :: _ => rfl
 | _ :: _, [] => rfl
 | a :: x, b :: y => by
  have ih := bytesLess_turn_r x y
  rcases Nat.lt_trichotomy a.toNat b.toNat with h | h | h
  ·have h1 : decide (a < b) = true := decide_eq_true (UInt8.lt_iff_toNat_lt.2 h)
   have h2 : decide (b < a) = false := decide_eq_false (fun g => by have := UInt8.lt_iff_toNat_lt.1 g; omega)
   have h3 : (b == a) = false := by rw [Bool.eq_false_iff]; intro g; rw [beq_iff_eq] at g; rw [g] at h; omega
   simp [Op.bytesLess, h1, h2, h3]
  ·obtain rfl : a = b := UInt8.toNat_inj.1 h
   have h1 : decide (a < a) = false := decide_eq_false (fun g => by have := UInt8.lt_iff_toNat_lt.1 g; omega)
   simp only [Op.bytesLess, h1, beq_self_eq_true, Bool.true_and, Bool.false_or]
   rw [← ih]
   simp
  ·have h1 : decide (b < a) = true := decide_eq_true (UInt8.lt_iff_toNat_lt.2 h)
   have h2 : decide (a < b) = false := decide_eq_false (fun g => by have := UInt8.lt_iff_toNat_lt.1 g; omega)
   have h3 : (a == b) = false := by rw [Bool.eq_false_iff]; intro g; rw [beq_iff_eq] at g; rw [g] at h; omega
   have h4 : ¬ a = b := by simpa using h3
   simp [Op.bytesLess, h1, h2, h3, h4]
theorem binOp_gtr_turned_r (t : TypeId) (a b : ByteArray) : binOp .gtr t (.string a) (.string b) = pure (.bool (Op.bytesLess b.toList a.toList)) := by
 rw [← bytesLess_turn_r]
 simp [binOp, Op.stringOp]
attribute [local go_sem] binOp_gtr_turned_r
def newelref05_text.f (a0 : ByteArray) (a1 : ByteArray) : Option (Int) := if (Op.bytesLess a0.toList a1.toList) = true then (some (-1)) else (if (Op.bytesLess a1.toList a0.toList) = true then (some 1) else (some 0))
theorem newelref05_text.calls (a0 : ByteArray) (a1 : ByteArray) (r : Int) (w : World) (hG : Glob w) (h : newelref05_text.f a0 a1 = some r) :
 Calls Tryd.prog 143 #[.string a0, .string a1] w fun e w' => e = .returned (.int .i64 r) ∧ Drawn0 w w' := by
 have HG := Aside0.mk hG
 clear hG
 have H : (if (Op.bytesLess a0.toList a1.toList) = true then (some (-1)) else (if (Op.bytesLess a1.toList a0.toList) = true then (some 1) else (some 0))) = some r := h
 clear h
 by_cases c3 : (Op.bytesLess a0.toList a1.toList) = true
 ·rw [if_pos c3] at H
  have c3b0 : (Op.bytesLess a0.toList a1.toList) = true := c3
  clear c3
  obtain rfl := Option.some.inj H
  go_enter Tryd.func143, Tryd.ntmps143
  go_wp2
  go_ret
  exact ⟨by first | rfl | (simp; done) | (simp [*]; done), by repeat (first | exact Drawn0.refl _ | apply Drawn0.step)⟩
 rw [if_neg c3] at H
 have c3b0 : (Op.bytesLess a0.toList a1.toList) = false := by simpa using c3
 clear c3
 by_cases c4 : (Op.bytesLess a1.toList a0.toList) = true
 rotate_left
 ·rw [if_neg c4] at H
  have c4b0 : (Op.bytesLess a1.toList a0.toList) = false := by simpa using c4
  clear c4
  obtain rfl := Option.some.inj H
  go_enter Tryd.func143, Tryd.ntmps143
  go_wp2
  go_ret
  exact ⟨by first | rfl | (simp; done) | (simp [*]; done), by repeat (first | exact Drawn0.refl _ | apply Drawn0.step)⟩
 rw [if_pos c4] at H
 have c4b0 : (Op.bytesLess a1.toList a0.toList) = true := c4
 clear c4
 obtain rfl := Option.some.inj H
 go_enter Tryd.func143, Tryd.ntmps143
 go_wp2
 go_ret
 exact ⟨by first | rfl | (simp; done) | (simp [*]; done), by repeat (first | exact Drawn0.refl _ | apply Drawn0.step)⟩
end
def newelref05_one.j0 : Nat → Bool → Int → ByteArray → Int → ByteArray → Option (Int)
 | 0, _, _, _, _, _ => none
 | k + 1, x26, x416000, x416001, x417000, x417001 => if x26 = true then (if (x416001.size : Int) = (x417001.size : Int) then ((newelref05_text.f x416001 x417001).bind fun t418 => (some t418)) else (if (x416001.size : Int) < (x417001.size : Int) then (some (-1)) else (some 1))) else (some 0)
def newelref05_one.f (k : Nat) (a0_0 : Int) (a0_1 : ByteArray) (a1_0 : Int) (a1_1 : ByteArray) : Option (Int) := if a0_0 < a1_0 then (some (-1)) else (if a0_0 > a1_0 then (some 1) else (if a0_0 = 8 then ((newelref05_text.f a0_1 a1_1).bind fun t417 => (some t417)) else (if a0_0 = 9 then (newelref05_one.j0 k true a0_0 a0_1 a1_0 a1_1) else (newelref05_one.j0 k (a0_0 == 10) a0_0 a0_1 a1_0 a1_1))))
theorem newelref05_one.calls (k : Nat) (a0_0 : Int) (a0_1 : ByteArray) (a1_0 : Int) (a1_1 : ByteArray) (r : Int) (w : World) (hG : Glob w) (h : newelref05_one.f k a0_0 a0_1 a1_0 a1_1 = some r) :
 Calls Tryd.prog 122 #[.agg #[.int .i64 a0_0, .string a0_1], .agg #[.int .i64 a1_0, .string a1_1]] w fun e w' => e = .returned (.int .i64 r) ∧ Below w.heap.size w w' := by
 have hu38 := Tryd.underlying38
 have HG := Aside0.mk hG
 clear hG
 have HB := Aside0.mk (Below.refl w.heap.size w)
 have H : (if a0_0 < a1_0 then (some (-1)) else (if a0_0 > a1_0 then (some 1) else (if a0_0 = 8 then ((newelref05_text.f a0_1 a1_1).bind fun t417 => (some t417)) else (if a0_0 = 9 then (newelref05_one.j0 k true a0_0 a0_1 a1_0 a1_1) else (newelref05_one.j0 k (a0_0 == 10) a0_0 a0_1 a1_0 a1_1))))) = some r := h
 clear h
 by_cases c3 : a0_0 < a1_0
 ·rw [if_pos c3] at H
  have c3b0 := dT c3
  clear c3
  obtain rfl := Option.some.inj H
  go_enter Tryd.func122, Tryd.ntmps122
  go_wp2_with (first | (refine be 2 #[.int .i64 a0_0, .string a0_1] 38 ?_; intro gb415 hg w4 hbox hb; have BK415 := Aside0.mk (hbox); have GW415 := gW hg; have GE415 := gW hg; replace HB := sB hb; clear hb hbox hg) | (refine be 3 #[.int .i64 a1_0, .string a1_1] 38 ?_; intro gb416 hg w5 hbox hb; have BK416 := Aside0.mk (hbox); have GW416 := gW hg; have GE416 := gW hg; replace HB := sB hb; have NB415_416 := nL BK415 hg; have NB416_415 := nG BK415 hg; replace BK415 := kB BK415 hb; clear hb hbox hg; have hnb6 := NB415_416.out; have hnc6 := NB416_415.out; have hcz7_0 : w5.cell? ⟨gb415, 0, none⟩ = some (.int .i64 a0_0) := (blk_cell BK415.out 0).trans rfl; have hcz7_1 : w5.cell? ⟨gb415, 1, none⟩ = some (.string a0_1) := (blk_cell BK415.out 1).trans rfl; have hfz7_0 := blk_frozen BK415.out 0; have hfz7_1 := blk_frozen BK415.out 1; have hcz8_0 : w5.cell? ⟨gb416, 0, none⟩ = some (.int .i64 a1_0) := (blk_cell BK416.out 0).trans rfl; have hcz8_1 : w5.cell? ⟨gb416, 1, none⟩ = some (.string a1_1) := (blk_cell BK416.out 1).trans rfl; have hfz8_0 := blk_frozen BK416.out 0; have hfz8_1 := blk_frozen BK416.out 1))
  go_ret
  exact ⟨eA, bG⟩
 rw [if_neg c3] at H
 have c3b0 := dF c3
 clear c3
 by_cases c9 : a0_0 > a1_0
 ·rw [if_pos c9] at H
  have c9b0 := dT c9
  clear c9
  obtain rfl := Option.some.inj H
  go_enter Tryd.func122, Tryd.ntmps122
  go_wp2_with (first | (refine be 2 #[.int .i64 a0_0, .string a0_1] 38 ?_; intro gb415 hg w10 hbox hb; have BK415 := Aside0.mk (hbox); have GW415 := gW hg; have GE415 := gW hg; replace HB := sB hb; clear hb hbox hg) | (refine be 3 #[.int .i64 a1_0, .string a1_1] 38 ?_; intro gb416 hg w11 hbox hb; have BK416 := Aside0.mk (hbox); have GW416 := gW hg; have GE416 := gW hg; replace HB := sB hb; have NB415_416 := nL BK415 hg; have NB416_415 := nG BK415 hg; replace BK415 := kB BK415 hb; clear hb hbox hg; have hnb12 := NB415_416.out; have hnc12 := NB416_415.out; have hcz13_0 : w11.cell? ⟨gb415, 0, none⟩ = some (.int .i64 a0_0) := (blk_cell BK415.out 0).trans rfl; have hcz13_1 : w11.cell? ⟨gb415, 1, none⟩ = some (.string a0_1) := (blk_cell BK415.out 1).trans rfl; have hfz13_0 := blk_frozen BK415.out 0; have hfz13_1 := blk_frozen BK415.out 1; have hcz14_0 : w11.cell? ⟨gb416, 0, none⟩ = some (.int .i64 a1_0) := (blk_cell BK416.out 0).trans rfl; have hcz14_1 : w11.cell? ⟨gb416, 1, none⟩ = some (.string a1_1) := (blk_cell BK416.out 1).trans rfl; have hfz14_0 := blk_frozen BK416.out 0; have hfz14_1 := blk_frozen BK416.out 1))
  go_ret
  exact ⟨eA, bG⟩
 rw [if_neg c9] at H
 have c9b0 := dF c9
 clear c9
 by_cases c15 : a0_0 = 8
 ·rw [if_pos c15] at H
  obtain ⟨c15b0, c15b1⟩ := eqT c15
  clear c15
  replace H := bi H
  obtain ⟨t417, A160, H⟩ := H
  try dsimp only at H
  have A16 := Aside0.mk A160
  clear A160
  obtain rfl := Option.some.inj H
  go_enter Tryd.func122, Tryd.ntmps122
  go_wp2_with (first | (refine be 2 #[.int .i64 a0_0, .string a0_1] 38 ?_; intro gb415 hg w17 hbox hb; have BK415 := Aside0.mk (hbox); have GW415 := gW hg; have GE415 := gW hg; replace HB := sB hb; clear hb hbox hg) | (refine be 3 #[.int .i64 a1_0, .string a1_1] 38 ?_; intro gb416 hg w18 hbox hb; have BK416 := Aside0.mk (hbox); have GW416 := gW hg; have GE416 := gW hg; replace HB := sB hb; have NB415_416 := nL BK415 hg; have NB416_415 := nG BK415 hg; replace BK415 := kB BK415 hb; clear hb hbox hg; have hnb19 := NB415_416.out; have hnc19 := NB416_415.out; have hcz20_0 : w18.cell? ⟨gb415, 0, none⟩ = some (.int .i64 a0_0) := (blk_cell BK415.out 0).trans rfl; have hcz20_1 : w18.cell? ⟨gb415, 1, none⟩ = some (.string a0_1) := (blk_cell BK415.out 1).trans rfl; have hfz20_0 := blk_frozen BK415.out 0; have hfz20_1 := blk_frozen BK415.out 1; have hcz21_0 : w18.cell? ⟨gb416, 0, none⟩ = some (.int .i64 a1_0) := (blk_cell BK416.out 0).trans rfl; have hcz21_1 : w18.cell? ⟨gb416, 1, none⟩ = some (.string a1_1) := (blk_cell BK416.out 1).trans rfl; have hfz21_0 := blk_frozen BK416.out 0; have hfz21_1 := blk_frozen BK416.out 1) | (refine gl (some 25) Tryd.func143 #[.string a0_1, .string a1_1] ?_; (with_reducible refine (newelref05_text.calls a0_1 a1_1 t417 _ (gS HG) A16.out).mono ?_); rintro e w' ⟨rfl, ⟨nd, rfl⟩⟩; refine ⟨_, rfl, ?_⟩))
  go_ret
  exact ⟨eA, bG⟩
 rw [if_neg c15] at H
 obtain ⟨c15b0, c15b1⟩ := eqF c15
 have HC22 := Aside0.mk H
 clear H
 go_enter Tryd.func122, Tryd.ntmps122
 go_upto_region 7 with (first | (refine be 2 #[.int .i64 a0_0, .string a0_1] 38 ?_; intro gb415 hg w23 hbox hb; have BK415 := Aside0.mk (hbox); have GW415 := gW hg; have GE415 := gW hg; replace HB := sB hb; clear hb hbox hg) | (refine be 3 #[.int .i64 a1_0, .string a1_1] 38 ?_; intro gb416 hg w24 hbox hb; have BK416 := Aside0.mk (hbox); have GW416 := gW hg; have GE416 := gW hg; replace HB := sB hb; have NB415_416 := nL BK415 hg; have NB416_415 := nG BK415 hg; replace BK415 := kB BK415 hb; clear hb hbox hg; have hnb25 := NB415_416.out; have hnc25 := NB416_415.out; have hcz26_0 : w24.cell? ⟨gb415, 0, none⟩ = some (.int .i64 a0_0) := (blk_cell BK415.out 0).trans rfl; have hcz26_1 : w24.cell? ⟨gb415, 1, none⟩ = some (.string a0_1) := (blk_cell BK415.out 1).trans rfl; have hfz26_0 := blk_frozen BK415.out 0; have hfz26_1 := blk_frozen BK415.out 1; have hcz27_0 : w24.cell? ⟨gb416, 0, none⟩ = some (.int .i64 a1_0) := (blk_cell BK416.out 0).trans rfl; have hcz27_1 : w24.cell? ⟨gb416, 1, none⟩ = some (.string a1_1) := (blk_cell BK416.out 1).trans rfl; have hfz27_0 := blk_frozen BK416.out 0; have hfz27_1 := blk_frozen BK416.out 1))
 (try simp only [Act.put, List.setIfInBounds_toArray, List.set_cons_zero, List.set_cons_succ])
 go_cut [26] (fun v26 wc => ∃ (kq : Nat) (x26_21 : Bool), v26 = .bool x26_21 ∧ Aside0 (newelref05_one.j0 kq x26_21 a0_0 a0_1 a1_0 a1_1 = some r) ∧ Aside0 (kq ≤ k) ∧ Aside0 (wc.heap[gb415]? = some (.cells #[.int .i64 a0_0, .string a0_1] 38 (0, 0))) ∧ Aside0 (wc.heap[gb416]? = some (.cells #[.int .i64 a1_0, .string a1_1] 38 (0, 0))) ∧ Aside0 (Below w.heap.size w wc))
 case first =>
  have H := HC22.out
  clear HC22
  by_cases c28 : a0_0 = 9
  rotate_left
  ·rw [if_neg c28] at H
   obtain ⟨c28b0, c28b1⟩ := eqF c28
   (first | rw [c28b0] | (simp only [i64_w, i32_w]; rw [c28b0]) | skip)
   have H' := Aside0.mk H
   clear H
   have hnb31 := NB415_416.out
   have hnc31 := NB416_415.out
   obtain ⟨hcz32_0, hcz32_1, hfz32_0, hfz32_1⟩ := cells2 BK415
   go_wp2
   go_meet
   case rel => exact ⟨_, ((a0_0 == 10)), cA, H', ⟨by first | omega | exact Nat.le_refl _⟩, ⟨bK BK415⟩, ⟨bK BK416⟩, ⟨bG⟩⟩
  rw [if_pos c28] at H
  obtain ⟨c28b0, c28b1⟩ := eqT c28
  clear c28
  (first | rw [c28b0] | (simp only [i64_w, i32_w]; rw [c28b0]) | skip)
  have H' := Aside0.mk H
  clear H
  have hnb29 := NB415_416.out
  have hnc29 := NB416_415.out
  obtain ⟨hcz30_0, hcz30_1, hfz30_0, hfz30_1⟩ := cells2 BK415
  go_wp2
  go_meet
  case rel => exact ⟨_, (true), cA, H', ⟨by first | omega | exact Nat.le_refl _⟩, ⟨bK BK415⟩, ⟨bK BK416⟩, ⟨bG⟩⟩
 clear HC22
 try clear c1
 try clear c2
 try clear p2
 try clear c3
 try clear c3b0
 try clear c6
 try clear c9
 try clear c9b0
 try clear c12
 try clear c14
 try clear c15
 try clear c15b0
 try clear c15b1
 try clear c19
 try clear c25
 try clear c28
 try clear c28b0
 try clear c28b1
 try clear c29
 try clear c31
 try clear hcz13_0
 try clear hcz13_1
 try clear hcz14_0
 try clear hcz14_1
 try clear hcz20_0
 try clear hcz20_1
 try clear hcz21_0
 try clear hcz21_1
 try clear hcz26_0
 try clear hcz26_1
 try clear hcz27_0
 try clear hcz27_1
 try clear hcz30_0
 try clear hcz30_1
 try clear hcz32_0
 try clear hcz32_1
 try clear hcz7_0
 try clear hcz7_1
 try clear hcz8_0
 try clear hcz8_1
 try clear hfz13_0
 try clear hfz13_1
 try clear hfz14_0
 try clear hfz14_1
 try clear hfz20_0
 try clear hfz20_1
 try clear hfz21_0
 try clear hfz21_1
 try clear hfz26_0
 try clear hfz26_1
 try clear hfz27_0
 try clear hfz27_1
 try clear hfz30_0
 try clear hfz30_1
 try clear hfz32_0
 try clear hfz32_1
 try clear hfz7_0
 try clear hfz7_1
 try clear hfz8_0
 try clear hfz8_1
 obtain ⟨kq, x26_21, rfl, HA, HJ21, BK415, BK416, HB⟩ := hcut
 cases kq with
 | zero => exact absurd HA.out (by simp [newelref05_one.j0])
 | succ kj21 =>
  have H := HA.out
  clear HA
  simp only [newelref05_one.j0] at H
  by_cases c33 : x26_21 = true
  rotate_left
  ·replace c33 := Bool.eq_false_iff.mpr c33
   subst c33
   replace H : (some 0) = some r := by rw [if_neg nF] at H; exact H
   obtain rfl := Option.some.inj H
   go_wp2
   go_ret
   exact ⟨eA, bG⟩
  subst c33
  replace H : (if (a0_1.size : Int) = (a1_1.size : Int) then ((newelref05_text.f a0_1 a1_1).bind fun t418 => (some t418)) else (if (a0_1.size : Int) < (a1_1.size : Int) then (some (-1)) else (some 1))) = some r := by rw [if_pos rfl] at H; exact H
  by_cases c34 : (a0_1.size : Int) = (a1_1.size : Int)
  ·rw [if_pos c34] at H
   obtain ⟨c34b0, c34b1⟩ := eqT c34
   have c34b2 : (a0_1.size == a1_1.size) = true := by first | simpa using c34 | (simp at c34 ⊢; omega)
   clear c34
   replace H := bi H
   obtain ⟨t418, A350, H⟩ := H
   try dsimp only at H
   have A35 := Aside0.mk A350
   clear A350
   obtain rfl := Option.some.inj H
   have hnb36 := NB415_416.out
   have hnc36 := NB416_415.out
   obtain ⟨hcz37_0, hcz37_1, hfz37_0, hfz37_1⟩ := cells2 BK415
   obtain ⟨hcz38_0, hcz38_1, hfz38_0, hfz38_1⟩ := cells2 BK416
   go_wp2_with (first | (refine gl (some 53) Tryd.func143 #[.string a0_1, .string a1_1] ?_; (with_reducible refine (newelref05_text.calls a0_1 a1_1 t418 _ (gS HG) A35.out).mono ?_); rintro e w' ⟨rfl, ⟨nd, rfl⟩⟩; refine ⟨_, rfl, ?_⟩))
   go_ret
   exact ⟨eA, bG⟩
  rw [if_neg c34] at H
  obtain ⟨c34b0, c34b1⟩ := eqF c34
  have c34b2 : (a0_1.size == a1_1.size) = false := by first | simpa using c34 | (simp at c34 ⊢; omega)
  by_cases c39 : (a0_1.size : Int) < (a1_1.size : Int)
  rotate_left
  ·rw [if_neg c39] at H
   have c39b0 := dF c39
   have c39b1 : decide (a0_1.size < a1_1.size) = false := decide_eq_false (fun h => c39 (Int.ofNat_lt.mpr h))
   clear c39
   obtain rfl := Option.some.inj H
   have hnb43 := NB415_416.out
   have hnc43 := NB416_415.out
   obtain ⟨hcz44_0, hcz44_1, hfz44_0, hfz44_1⟩ := cells2 BK415
   obtain ⟨hcz45_0, hcz45_1, hfz45_0, hfz45_1⟩ := cells2 BK416
   go_wp2
   go_ret
   exact ⟨eA, bG⟩
  rw [if_pos c39] at H
  have c39b0 := dT c39
  have c39b1 : decide (a0_1.size < a1_1.size) = true := decide_eq_true (Int.ofNat_lt.mp c39)
  clear c39
  obtain rfl := Option.some.inj H
  have hnb40 := NB415_416.out
  have hnc40 := NB416_415.out
  obtain ⟨hcz41_0, hcz41_1, hfz41_0, hfz41_1⟩ := cells2 BK415
  obtain ⟨hcz42_0, hcz42_1, hfz42_0, hfz42_1⟩ := cells2 BK416
  go_wp2
  go_ret
  exact ⟨eA, bG⟩
mutual
def newelref05_Words.l0 : Nat → List (S38) → List (S38) → Int → Option (Int)
 | 0, _, _, _ => none
 | k + 1, x0, x1, x5 => if x5 < (x0.length : Int) then (newelref05_Words.j1 k x0 x1 x5 true) else (newelref05_Words.j1 k x0 x1 x5 (decide (x5 < (x1.length : Int))))
def newelref05_Words.j1 : Nat → List (S38) → List (S38) → Int → Bool → Option (Int)
 | 0, _, _, _, _ => none
 | k + 1, x0, x1, x5, x18 => if x18 = true then (if x5 < (x0.length : Int) then (if 0 ≤ x5 then (newelref05_Words.j2 k x0 x1 x5 ((rd_T38 x0 x5).f0) ((rd_T38 x0 x5).f1) 6 (⟨#[]⟩ : ByteArray)) else (none)) else (newelref05_Words.j2 k x0 x1 x5 6 (⟨#[]⟩ : ByteArray) 6 (⟨#[]⟩ : ByteArray))) else (some 0)
def newelref05_Words.j2 : Nat → List (S38) → List (S38) → Int → Int → ByteArray → Int → ByteArray → Option (Int)
 | 0, _, _, _, _, _, _, _ => none
 | k + 1, x0, x1, x5, x420000, x420001, x421000, x421001 => if x5 < (x1.length : Int) then (if 0 ≤ x5 then ((newelref05_one.f k x420000 x420001 ((rd_T38 x1 x5).f0) ((rd_T38 x1 x5).f1)).bind fun t423 => (if t423 = 0 then (newelref05_Words.l0 k x0 x1 (wrap64 (x5 + 1))) else (some t423))) else (none)) else ((newelref05_one.f k x420000 x420001 x421000 x421001).bind fun t424 => (if t424 = 0 then (newelref05_Words.l0 k x0 x1 (wrap64 (x5 + 1))) else (some t424)))
end
def newelref05_Words.f (k : Nat) (l0 : List (S38)) (l1 : List (S38)) : Option (Int) := newelref05_Words.l0 k l0 l1 0
theorem newelref05_Words.calls (k : Nat) (A0 : Option Addr) (c0 : Nat) (l0 : List (S38)) (A1 : Option Addr) (c1 : Nat) (l1 : List (S38)) (r : Int) (w : World) (hr0 : Kd.C k38 w A0 l0.length l0) (hc0 : l0.length ≤ c0) (hr1 : Kd.C k38 w A1 l1.length l1) (hc1 : l1.length ≤ c1) (hG : Glob w) (h : newelref05_Words.f k l0 l1 = some r) :
 Calls Tryd.prog 91 #[.slice A0 l0.length c0, .slice A1 l1.length c1] w fun e w' => e = .returned (.int .i64 r) ∧ Below w.heap.size w w' := by
 have hu38 := Tryd.underlying38
 have HG := Aside0.mk hG
 clear hG
 have HR0 := Aside0.mk hr0
 have HC0 := Aside0.mk hc0
 clear hr0 hc0
 have HR1 := Aside0.mk hr1
 have HC1 := Aside0.mk hc1
 clear hr1 hc1
 have HB := Aside0.mk (Below.refl w.heap.size w)
 have H : (newelref05_Words.l0 k l0 l1 0) = some r := h
 clear h
 have H' := Aside0.mk H
 clear H
 go_enter Tryd.func91, Tryd.ntmps91
 go_wp2
 go_loopg [5] k (fun kq v5 w' => ∃ (x5_1 : Int), v5 = .int .i64 x5_1 ∧ Aside0 (newelref05_Words.l0 kq l0 l1 x5_1 = some r) ∧ Aside0 (kq ≤ k) ∧ Aside0 (Below w.heap.size w w'))
 case atStart => exact ⟨(0), cA, H', ⟨Nat.le_refl _⟩, ⟨bE⟩⟩
 clear H'
 try clear c1
 try clear p2
 obtain ⟨x5_1, rfl, HA, HK1, HB⟩ := hrel
 cases gk with
 | zero => exact absurd HA.out (by simp [newelref05_Words.l0])
 | succ k1 =>
  have H := HA.out
  clear HA
  simp only [newelref05_Words.l0] at H
  have HC3 := Aside0.mk H
  clear H
  go_upto_region 2 with (fail)
  go_cut [18] (fun v18 wc => ∃ (kq : Nat) (x18_2 : Bool), v18 = .bool x18_2 ∧ Aside0 (newelref05_Words.j1 kq l0 l1 x5_1 x18_2 = some r) ∧ Aside0 (kq ≤ k1) ∧ Aside0 (Below w.heap.size w wc))
  case first =>
   have H := HC3.out
   clear HC3
   by_cases c4 : x5_1 < (l0.length : Int)
   rotate_left
   ·rw [if_neg c4] at H
    have c4b0 := dF c4
    clear c4
    (first | rw [c4b0] | (simp only [i64_w, i32_w]; rw [c4b0]) | skip)
    have H' := Aside0.mk H
    clear H
    go_wp2
    go_meet
    case rel => exact ⟨_, (decide (x5_1 < (l1.length : Int))), cA, H', ⟨by have := HK1.out; first | omega | exact Nat.le_refl _⟩, ⟨bE⟩⟩
   rw [if_pos c4] at H
   have c4b0 := dT c4
   clear c4
   (first | rw [c4b0] | (simp only [i64_w, i32_w]; rw [c4b0]) | skip)
   have H' := Aside0.mk H
   clear H
   go_wp2
   go_meet
   case rel => exact ⟨_, (true), cA, H', ⟨by have := HK1.out; first | omega | exact Nat.le_refl _⟩, ⟨bE⟩⟩
  clear HC3
  try clear c1
  try clear p2
  try clear c4
  try clear c4b0
  try clear p2
  obtain ⟨kq, x18_2, rfl, HA, HJ2, HB⟩ := hcut
  cases kq with
  | zero => exact absurd HA.out (by simp [newelref05_Words.j1])
  | succ kj2 =>
   have H := HA.out
   clear HA
   simp only [newelref05_Words.j1] at H
   by_cases c5 : x18_2 = true
   rotate_left
   ·replace c5 := Bool.eq_false_iff.mpr c5
    subst c5
    replace H : (some 0) = some r := by rw [if_neg nF] at H; exact H
    obtain rfl := Option.some.inj H
    go_wp2
    go_ret
    exact ⟨eA, bE⟩
   subst c5
   replace H : (if x5_1 < (l0.length : Int) then (if 0 ≤ x5_1 then (newelref05_Words.j2 kj2 l0 l1 x5_1 ((rd_T38 l0 x5_1).f0) ((rd_T38 l0 x5_1).f1) 6 (⟨#[]⟩ : ByteArray)) else (none)) else (newelref05_Words.j2 kj2 l0 l1 x5_1 6 (⟨#[]⟩ : ByteArray) 6 (⟨#[]⟩ : ByteArray))) = some r := by rw [if_pos rfl] at H; exact H
   have HC6 := Aside0.mk H
   clear H
   go_upto_if 26 with (first | ((with_reducible refine gate_dst (N := 6) rfl ?_); (try (refine gate_guard (by rfl) ?_; dsimp only)); refine be 6 #[.int .i64 0, .string (⟨#[]⟩ : ByteArray)] 38 ?_; intro gb419 hg w7 hbox hb; have BK419 := Aside0.mk (hbox); have GW419 := gW hg; have GE419 := gW hg; replace HB := sB hb; clear hb hbox hg) | ((with_reducible refine gate_dst (N := 7) rfl ?_); (try (refine gate_guard (by rfl) ?_; dsimp only)); refine be 7 #[.int .i64 0, .string (⟨#[]⟩ : ByteArray)] 38 ?_; intro gb420 hg w8 hbox hb; have BK420 := Aside0.mk (hbox); have GW420 := gW hg; have GE420 := gW hg; replace HB := sB hb; have NB419_420 := nL BK419 hg; have NB420_419 := nG BK419 hg; replace BK419 := kB BK419 hb; clear hb hbox hg; have hnb9 := NB419_420.out; have hnc9 := NB420_419.out; have hcz10_0 : w8.cell? ⟨gb419, 0, none⟩ = some (.int .i64 0) := (blk_cell BK419.out 0).trans rfl; have hcz10_1 : w8.cell? ⟨gb419, 1, none⟩ = some (.string (⟨#[]⟩ : ByteArray)) := (blk_cell BK419.out 1).trans rfl; have hfz10_0 := blk_frozen BK419.out 0; have hfz10_1 := blk_frozen BK419.out 1; have hcz11_0 : w8.cell? ⟨gb420, 0, none⟩ = some (.int .i64 0) := (blk_cell BK420.out 0).trans rfl; have hcz11_1 : w8.cell? ⟨gb420, 1, none⟩ = some (.string (⟨#[]⟩ : ByteArray)) := (blk_cell BK420.out 1).trans rfl; have hfz11_0 := blk_frozen BK420.out 0; have hfz11_1 := blk_frozen BK420.out 1))
   (try simp only [Act.put, List.setIfInBounds_toArray, List.set_cons_zero, List.set_cons_succ])
   go_cut [] (fun wc => ∃ (kq : Nat) (x420000_5 : Int) (x420001_5 : ByteArray), Aside0 (newelref05_Words.j2 kq l0 l1 x5_1 x420000_5 x420001_5 6 (⟨#[]⟩ : ByteArray) = some r) ∧ Aside0 (kq ≤ kj2) ∧ Aside0 (wc.heap[gb419]? = some (.cells #[.int .i64 x420000_5, .string x420001_5] 38 (0, 0))) ∧ Aside0 (wc.heap[gb420]? = some (.cells #[.int .i64 6, .string (⟨#[]⟩ : ByteArray)] 38 (0, 0))) ∧ Aside0 (Below w.heap.size w wc))
   case first =>
    have H := HC6.out
    clear HC6
    by_cases c12 : x5_1 < (l0.length : Int)
    rotate_left
    ·rw [if_neg c12] at H
     have c12b0 := dF c12
     clear c12
     (first | rw [c12b0] | (simp only [i64_w, i32_w]; rw [c12b0]) | skip)
     have H' := Aside0.mk H
     clear H
     go_wp2
     go_meet
     case rel => exact ⟨_, (6), ((⟨#[]⟩ : ByteArray)), H', ⟨by have := HK1.out; have := HJ2.out; first | omega | exact Nat.le_refl _⟩, ⟨by (with_reducible repeat (first | refine blk_drewN ?_ _ | refine blk_drew ?_ | refine blk_alloc ?_ _)); refine blk_far ?_ NB419_420.out _; (with_reducible repeat (first | refine blk_drewN ?_ _ | refine blk_drew ?_ | refine blk_alloc ?_ _)); refine blk_far ?_ NB419_420.out _; (with_reducible repeat (first | refine blk_drewN ?_ _ | refine blk_drew ?_ | refine blk_alloc ?_ _)); refine blk_put (cs := #[.int .i64 6, .string (⟨#[]⟩ : ByteArray)]) ?_ 1 _ rfl; (with_reducible repeat (first | refine blk_drewN ?_ _ | refine blk_drew ?_ | refine blk_alloc ?_ _)); refine blk_put (cs := #[.int .i64 0, .string (⟨#[]⟩ : ByteArray)]) ?_ 0 _ rfl; (with_reducible repeat (first | refine blk_drewN ?_ _ | refine blk_drew ?_ | refine blk_alloc ?_ _)); exact BK419.out⟩, ⟨by (with_reducible repeat (first | refine blk_drewN ?_ _ | refine blk_drew ?_ | refine blk_alloc ?_ _)); refine blk_put (cs := #[.int .i64 6, .string (⟨#[]⟩ : ByteArray)]) ?_ 1 _ rfl; (with_reducible repeat (first | refine blk_drewN ?_ _ | refine blk_drew ?_ | refine blk_alloc ?_ _)); refine blk_put (cs := #[.int .i64 0, .string (⟨#[]⟩ : ByteArray)]) ?_ 0 _ rfl; (with_reducible repeat (first | refine blk_drewN ?_ _ | refine blk_drew ?_ | refine blk_alloc ?_ _)); refine blk_far ?_ NB420_419.out _; (with_reducible repeat (first | refine blk_drewN ?_ _ | refine blk_drew ?_ | refine blk_alloc ?_ _)); refine blk_far ?_ NB420_419.out _; (with_reducible repeat (first | refine blk_drewN ?_ _ | refine blk_drew ?_ | refine blk_alloc ?_ _)); exact BK420.out⟩, ⟨bG⟩⟩
    rw [if_pos c12] at H
    have c12b0 := dT c12
    clear c12
    (first | rw [c12b0] | (simp only [i64_w, i32_w]; rw [c12b0]) | skip)
    obtain ⟨c13, H⟩ := gp H
    have c13b0 := dT c13
    clear c13
    have H' := Aside0.mk H
    clear H
    have p421 : 0 ≤ (x5_1 : Int) := dA
    have q421 : x5_1 < (l0.length : Int) := dA
    obtain ⟨ad421, e421, hx421_0, hx421_1⟩ := at_T38 HR0.out x5_1 p421 q421
    cases e421
    have hn421_0 : ad421.block ≠ gb419 := Nat.ne_of_lt (Nat.lt_of_lt_of_le (by have := World.block_lt_of_cell? _ _ hx421_0; first | rwa [add_block] at this | exact this) GW419.out)
    have hn421_1 : ad421.block ≠ gb419 := Nat.ne_of_lt (Nat.lt_of_lt_of_le (by have := World.block_lt_of_cell? _ _ hx421_0; first | rwa [add_block] at this | exact this) GW419.out)
    have hn421_2 : ad421.block ≠ gb420 := Nat.ne_of_lt (Nat.lt_of_lt_of_le (by have := World.block_lt_of_cell? _ _ hx421_0; first | rwa [add_block] at this | exact this) GW420.out)
    have hn421_3 : ad421.block ≠ gb420 := Nat.ne_of_lt (Nat.lt_of_lt_of_le (by have := World.block_lt_of_cell? _ _ hx421_0; first | rwa [add_block] at this | exact this) GW420.out)
    replace hx421_0 := (HB.out.cell (World.block_lt_of_cell? w _ hx421_0)).trans hx421_0
    replace hx421_1 := (HB.out.cell (World.block_lt_of_cell? w _ hx421_1)).trans hx421_1
    replace hx421_0 := (cell_far (p := ⟨gb419, 0, none⟩) (by first | (rw [add_block]; exact hn421_0) | (show (Addr.add _ _).block ≠ _; rw [add_block]; exact hn421_0) | exact hn421_0) (.int .i64 6)).trans hx421_0
    replace hx421_1 := (cell_far (p := ⟨gb419, 0, none⟩) (by first | (rw [add_block]; exact hn421_0) | (show (Addr.add _ _).block ≠ _; rw [add_block]; exact hn421_0) | exact hn421_0) (.int .i64 6)).trans hx421_1
    replace hx421_0 := (cell_far (p := ⟨gb419, 1, none⟩) (by first | (rw [add_block]; exact hn421_1) | (show (Addr.add _ _).block ≠ _; rw [add_block]; exact hn421_1) | exact hn421_1) (.string (⟨#[]⟩ : ByteArray))).trans hx421_0
    replace hx421_1 := (cell_far (p := ⟨gb419, 1, none⟩) (by first | (rw [add_block]; exact hn421_1) | (show (Addr.add _ _).block ≠ _; rw [add_block]; exact hn421_1) | exact hn421_1) (.string (⟨#[]⟩ : ByteArray))).trans hx421_1
    replace hx421_0 := (cell_far (p := ⟨gb420, 0, none⟩) (by first | (rw [add_block]; exact hn421_2) | (show (Addr.add _ _).block ≠ _; rw [add_block]; exact hn421_2) | exact hn421_2) (.int .i64 6)).trans hx421_0
    replace hx421_1 := (cell_far (p := ⟨gb420, 0, none⟩) (by first | (rw [add_block]; exact hn421_2) | (show (Addr.add _ _).block ≠ _; rw [add_block]; exact hn421_2) | exact hn421_2) (.int .i64 6)).trans hx421_1
    replace hx421_0 := (cell_far (p := ⟨gb420, 1, none⟩) (by first | (rw [add_block]; exact hn421_3) | (show (Addr.add _ _).block ≠ _; rw [add_block]; exact hn421_3) | exact hn421_3) (.string (⟨#[]⟩ : ByteArray))).trans hx421_0
    replace hx421_1 := (cell_far (p := ⟨gb420, 1, none⟩) (by first | (rw [add_block]; exact hn421_3) | (show (Addr.add _ _).block ≠ _; rw [add_block]; exact hn421_3) | exact hn421_3) (.string (⟨#[]⟩ : ByteArray))).trans hx421_1
    clear hn421_0
    clear hn421_1
    clear hn421_2
    clear hn421_3
    replace p421 := eq_true p421
    replace q421 := eq_true q421
    have hnb14 := NB419_420.out
    have hnc14 := NB420_419.out
    obtain ⟨hcz15_0, hcz15_1, hfz15_0, hfz15_1⟩ := cells2 BK419
    go_wp2
    go_meet
    case rel => exact ⟨_, ((rd_T38 l0 x5_1).f0), ((rd_T38 l0 x5_1).f1), H', ⟨by have := HK1.out; have := HJ2.out; first | omega | exact Nat.le_refl _⟩, ⟨by (with_reducible repeat (first | refine blk_drewN ?_ _ | refine blk_drew ?_ | refine blk_alloc ?_ _)); refine blk_put (cs := #[.int .i64 ((rd_T38 l0 x5_1).f0), .string (⟨#[]⟩ : ByteArray)]) ?_ 1 _ rfl; (with_reducible repeat (first | refine blk_drewN ?_ _ | refine blk_drew ?_ | refine blk_alloc ?_ _)); refine blk_put (cs := #[.int .i64 6, .string (⟨#[]⟩ : ByteArray)]) ?_ 0 _ rfl; (with_reducible repeat (first | refine blk_drewN ?_ _ | refine blk_drew ?_ | refine blk_alloc ?_ _)); refine blk_far ?_ NB419_420.out _; (with_reducible repeat (first | refine blk_drewN ?_ _ | refine blk_drew ?_ | refine blk_alloc ?_ _)); refine blk_far ?_ NB419_420.out _; (with_reducible repeat (first | refine blk_drewN ?_ _ | refine blk_drew ?_ | refine blk_alloc ?_ _)); refine blk_put (cs := #[.int .i64 6, .string (⟨#[]⟩ : ByteArray)]) ?_ 1 _ rfl; (with_reducible repeat (first | refine blk_drewN ?_ _ | refine blk_drew ?_ | refine blk_alloc ?_ _)); refine blk_put (cs := #[.int .i64 0, .string (⟨#[]⟩ : ByteArray)]) ?_ 0 _ rfl; (with_reducible repeat (first | refine blk_drewN ?_ _ | refine blk_drew ?_ | refine blk_alloc ?_ _)); exact BK419.out⟩, ⟨by (with_reducible repeat (first | refine blk_drewN ?_ _ | refine blk_drew ?_ | refine blk_alloc ?_ _)); refine blk_far ?_ NB420_419.out _; (with_reducible repeat (first | refine blk_drewN ?_ _ | refine blk_drew ?_ | refine blk_alloc ?_ _)); refine blk_far ?_ NB420_419.out _; (with_reducible repeat (first | refine blk_drewN ?_ _ | refine blk_drew ?_ | refine blk_alloc ?_ _)); refine blk_put (cs := #[.int .i64 6, .string (⟨#[]⟩ : ByteArray)]) ?_ 1 _ rfl; (with_reducible repeat (first | refine blk_drewN ?_ _ | refine blk_drew ?_ | refine blk_alloc ?_ _)); refine blk_put (cs := #[.int .i64 0, .string (⟨#[]⟩ : ByteArray)]) ?_ 0 _ rfl; (with_reducible repeat (first | refine blk_drewN ?_ _ | refine blk_drew ?_ | refine blk_alloc ?_ _)); refine blk_far ?_ NB420_419.out _; (with_reducible repeat (first | refine blk_drewN ?_ _ | refine blk_drew ?_ | refine blk_alloc ?_ _)); refine blk_far ?_ NB420_419.out _; (with_reducible repeat (first | refine blk_drewN ?_ _ | refine blk_drew ?_ | refine blk_alloc ?_ _)); exact BK420.out⟩, ⟨bG⟩⟩
   clear HC6
   try clear c1
   try clear p2
   try clear c4
   try clear c4b0
   try clear p4
   try clear q4
   try clear hx4
   try clear c5
   try clear c9
   try clear c12
   try clear c12b0
   try clear c13
   try clear c13b0
   try clear c14
   try clear hcz10_0
   try clear hcz10_1
   try clear hcz11_0
   try clear hcz11_1
   try clear hcz15_0
   try clear hcz15_1
   try clear hfz10_0
   try clear hfz10_1
   try clear hfz11_0
   try clear hfz11_1
   try clear hfz15_0
   try clear hfz15_1
   try clear hx421_0
   try clear hx421_1
   try clear p2
   try clear p421
   try clear q421
   obtain ⟨kq, x420000_5, x420001_5, HA, HJ5, BK419, BK420, HB⟩ := hcut
   cases kq with
   | zero => exact absurd HA.out (by simp [newelref05_Words.j2])
   | succ kj5 =>
    have H := HA.out
    clear HA
    simp only [newelref05_Words.j2] at H
    (try simp only [toList_lit] at H)
    by_cases c16 : x5_1 < (l1.length : Int)
    rotate_left
    ·rw [if_neg c16] at H
     have c16b0 := dF c16
     clear c16
     replace H := bi H
     obtain ⟨t424, A280, H⟩ := H
     try dsimp only at H
     have A28 := Aside0.mk A280
     clear A280
     by_cases c29 : t424 = 0
     rotate_left
     ·rw [if_neg c29] at H
      obtain ⟨c29b0, c29b1⟩ := eqF c29
      obtain rfl := Option.some.inj H
      have hnb34 := NB419_420.out
      have hnc34 := NB420_419.out
      obtain ⟨hcz35_0, hcz35_1, hfz35_0, hfz35_1⟩ := cells2 BK419
      obtain ⟨hcz36_0, hcz36_1, hfz36_0, hfz36_1⟩ := cells2 BK420
      go_wp2_with (first | (refine gl (some 41) Tryd.func122 #[.agg #[.int .i64 x420000_5, .string x420001_5], .agg #[.int .i64 6, .string (⟨#[]⟩ : ByteArray)]] ?_; (with_reducible refine (newelref05_one.calls kj5 x420000_5 x420001_5 6 (⟨#[]⟩ : ByteArray) t424 _ (gS HG) A28.out).mono ?_); rintro e w37 ⟨rfl, hb⟩; refine ⟨_, rfl, ?_⟩; replace BK419 := kB BK419 hb; replace BK420 := kB BK420 hb; replace HB := sB hb; (try clear hb)))
      go_ret
      exact ⟨eA, bG⟩
     rw [if_pos c29] at H
     obtain ⟨c29b0, c29b1⟩ := eqT c29
     clear c29
     have H' := Aside0.mk H
     clear H
     have hnb30 := NB419_420.out
     have hnc30 := NB420_419.out
     obtain ⟨hcz31_0, hcz31_1, hfz31_0, hfz31_1⟩ := cells2 BK419
     obtain ⟨hcz32_0, hcz32_1, hfz32_0, hfz32_1⟩ := cells2 BK420
     go_wp2_with (first | (refine gl (some 41) Tryd.func122 #[.agg #[.int .i64 x420000_5, .string x420001_5], .agg #[.int .i64 6, .string (⟨#[]⟩ : ByteArray)]] ?_; (with_reducible refine (newelref05_one.calls kj5 x420000_5 x420001_5 6 (⟨#[]⟩ : ByteArray) t424 _ (gS HG) A28.out).mono ?_); rintro e w33 ⟨rfl, hb⟩; refine ⟨_, rfl, ?_⟩; replace BK419 := kB BK419 hb; replace BK420 := kB BK420 hb; replace HB := sB hb; (try clear hb)))
     go_roundg kj5
     case measure => have := HK1.out; have := HJ2.out; have := HJ5.out; omega
     case rel => exact ⟨(wrap64 (x5_1 + 1)), cA, H', ⟨by have := HK1.out; have := HJ2.out; have := HJ5.out; omega⟩, ⟨bG⟩⟩
    rw [if_pos c16] at H
    have c16b0 := dT c16
    clear c16
    obtain ⟨c17, H⟩ := gp H
    have c17b0 := dT c17
    clear c17
    replace H := bi H
    obtain ⟨t423, A180, H⟩ := H
    try dsimp only at H
    have A18 := Aside0.mk A180
    clear A180
    by_cases c19 : t423 = 0
    rotate_left
    ·rw [if_neg c19] at H
     obtain ⟨c19b0, c19b1⟩ := eqF c19
     obtain rfl := Option.some.inj H
     have p422 : 0 ≤ (x5_1 : Int) := dA
     have q422 : x5_1 < (l1.length : Int) := dA
     obtain ⟨ad422, e422, hx422_0, hx422_1⟩ := at_T38 HR1.out x5_1 p422 q422
     cases e422
     replace hx422_0 := (HB.out.cell (World.block_lt_of_cell? w _ hx422_0)).trans hx422_0
     replace hx422_1 := (HB.out.cell (World.block_lt_of_cell? w _ hx422_1)).trans hx422_1
     replace p422 := eq_true p422
     replace q422 := eq_true q422
     have hnb24 := NB420_419.out
     have hnc24 := NB419_420.out
     obtain ⟨hcz25_0, hcz25_1, hfz25_0, hfz25_1⟩ := cells2 BK420
     obtain ⟨hcz26_0, hcz26_1, hfz26_0, hfz26_1⟩ := cells2 BK419
     go_wp2_with (first | (refine gl (some 41) Tryd.func122 #[.agg #[.int .i64 x420000_5, .string x420001_5], .agg #[.int .i64 ((rd_T38 l1 x5_1).f0), .string ((rd_T38 l1 x5_1).f1)]] ?_; (with_reducible refine (newelref05_one.calls kj5 x420000_5 x420001_5 ((rd_T38 l1 x5_1).f0) ((rd_T38 l1 x5_1).f1) t423 _ (gS HG) A18.out).mono ?_); rintro e w27 ⟨rfl, hb⟩; refine ⟨_, rfl, ?_⟩; replace BK419 := Aside0.mk (blk_below (g := gb419) (o := .cells #[.int .i64 x420000_5, .string x420001_5] 38 (0, 0)) (by (with_reducible repeat (first | refine blk_drewN ?_ _ | refine blk_drew ?_ | refine blk_alloc ?_ _)); refine blk_far ?_ NB419_420.out _; (with_reducible repeat (first | refine blk_drewN ?_ _ | refine blk_drew ?_ | refine blk_alloc ?_ _)); refine blk_far ?_ NB419_420.out _; (with_reducible repeat (first | refine blk_drewN ?_ _ | refine blk_drew ?_ | refine blk_alloc ?_ _)); exact BK419.out) hb); replace BK420 := Aside0.mk (blk_below (g := gb420) (o := .cells #[.int .i64 ((rd_T38 l1 x5_1).f0), .string ((rd_T38 l1 x5_1).f1)] 38 (0, 0)) (bP BK420) hb); replace HB := sB hb; (try clear hb)))
     go_ret
     exact ⟨eA, bG⟩
    rw [if_pos c19] at H
    obtain ⟨c19b0, c19b1⟩ := eqT c19
    clear c19
    have H' := Aside0.mk H
    clear H
    have p422 : 0 ≤ (x5_1 : Int) := dA
    have q422 : x5_1 < (l1.length : Int) := dA
    obtain ⟨ad422, e422, hx422_0, hx422_1⟩ := at_T38 HR1.out x5_1 p422 q422
    cases e422
    replace hx422_0 := (HB.out.cell (World.block_lt_of_cell? w _ hx422_0)).trans hx422_0
    replace hx422_1 := (HB.out.cell (World.block_lt_of_cell? w _ hx422_1)).trans hx422_1
    replace p422 := eq_true p422
    replace q422 := eq_true q422
    have hnb20 := NB420_419.out
    have hnc20 := NB419_420.out
    obtain ⟨hcz21_0, hcz21_1, hfz21_0, hfz21_1⟩ := cells2 BK420
    obtain ⟨hcz22_0, hcz22_1, hfz22_0, hfz22_1⟩ := cells2 BK419
    go_wp2_with (first | (refine gl (some 41) Tryd.func122 #[.agg #[.int .i64 x420000_5, .string x420001_5], .agg #[.int .i64 ((rd_T38 l1 x5_1).f0), .string ((rd_T38 l1 x5_1).f1)]] ?_; (with_reducible refine (newelref05_one.calls kj5 x420000_5 x420001_5 ((rd_T38 l1 x5_1).f0) ((rd_T38 l1 x5_1).f1) t423 _ (gS HG) A18.out).mono ?_); rintro e w23 ⟨rfl, hb⟩; refine ⟨_, rfl, ?_⟩; replace BK419 := Aside0.mk (blk_below (g := gb419) (o := .cells #[.int .i64 x420000_5, .string x420001_5] 38 (0, 0)) (by (with_reducible repeat (first | refine blk_drewN ?_ _ | refine blk_drew ?_ | refine blk_alloc ?_ _)); refine blk_far ?_ NB419_420.out _; (with_reducible repeat (first | refine blk_drewN ?_ _ | refine blk_drew ?_ | refine blk_alloc ?_ _)); refine blk_far ?_ NB419_420.out _; (with_reducible repeat (first | refine blk_drewN ?_ _ | refine blk_drew ?_ | refine blk_alloc ?_ _)); exact BK419.out) hb); replace BK420 := Aside0.mk (blk_below (g := gb420) (o := .cells #[.int .i64 ((rd_T38 l1 x5_1).f0), .string ((rd_T38 l1 x5_1).f1)] 38 (0, 0)) (bP BK420) hb); replace HB := sB hb; (try clear hb)))
    go_roundg kj5
    case measure => have := HK1.out; have := HJ2.out; have := HJ5.out; omega
    case rel => exact ⟨(wrap64 (x5_1 + 1)), cA, H', ⟨by have := HK1.out; have := HJ2.out; have := HJ5.out; omega⟩, ⟨bG⟩⟩
def newelref05_Compare.f (k : Nat) (a0 : ByteArray) (a1 : ByteArray) : Option (Int) := (newelref05_Split.f k a0).bind fun t425 => ((newelref05_Split.f k a1).bind fun t428 => ((newelref05_Words.f k t425 t428).bind fun t431 => (some t431)))
theorem newelref05_Compare.calls (k : Nat) (a0 : ByteArray) (a1 : ByteArray) (r : Int) (w : World) (hG : Glob w) (h : newelref05_Compare.f k a0 a1 = some r) :
 Calls Tryd.prog 55 #[.string a0, .string a1] w fun e w' => e = .returned (.int .i64 r) ∧ Below w.heap.size w w' := by
 have HG := Aside0.mk hG
 clear hG
 have HB := Aside0.mk (Below.refl w.heap.size w)
 have H : ((newelref05_Split.f k a0).bind fun t425 => ((newelref05_Split.f k a1).bind fun t428 => ((newelref05_Words.f k t425 t428).bind fun t431 => (some t431)))) = some r := h
 clear h
 replace H := bi H
 obtain ⟨t425, A30, H⟩ := H
 try dsimp only at H
 have A3 := Aside0.mk A30
 clear A30
 replace H := bi H
 obtain ⟨t428, A40, H⟩ := H
 try dsimp only at H
 have A4 := Aside0.mk A40
 clear A40
 replace H := bi H
 obtain ⟨t431, A50, H⟩ := H
 try dsimp only at H
 have A5 := Aside0.mk A50
 clear A50
 obtain rfl := Option.some.inj H
 go_enter Tryd.func55, Tryd.ntmps55
 go_wp2_with (first | (refine gl (some 6) Tryd.func32 #[.string a0] ?_; (with_reducible refine (newelref05_Split.calls k a0 t425 _ (gS HG) A3.out).mono ?_); rintro e w6 ⟨v426, rfl, ho0, hb⟩; refine ⟨_, rfl, ?_⟩; have HO427 := Aside0.mk (Kd.R_lower ho0 (below_size bE)); replace HB := sB hb; (try clear hb); (try clear ho0)) | (refine gl (some 8) Tryd.func32 #[.string a1] ?_; (with_reducible refine (newelref05_Split.calls k a1 t428 _ (gS HG) A4.out).mono ?_); rintro e w7 ⟨v429, rfl, ho0, hb⟩; refine ⟨_, rfl, ?_⟩; have HO430 := Aside0.mk (Kd.R_lower (Kd.R_new' ho0 (Kd.R_lt (kR HO427))) (below_size bE)); replace HO427 := Aside0.mk (Kd.R_elder' (kR HO427) (Kd.R_base ho0) hb); replace HB := sB hb; (try clear hb); (try clear ho0); obtain ⟨Ao8, co8, eo8⟩ := Kd.R_slice HO427.out; subst eo8; obtain ⟨Ao9, co9, eo9⟩ := Kd.R_slice HO430.out; subst eo9) | (refine gl (some 9) Tryd.func91 #[.slice Ao8 t425.length co8, .slice Ao9 t428.length co9] ?_; (with_reducible refine (newelref05_Words.calls k _ _ t425 _ _ t428 t431 _ ?side1 ?side2 ?side3 ?side4 (gS HG) A5.out).mono ?_); (case side1 => repeat (first | exact (Kd.R_reads' HO427.out).2.2 | (with_reducible refine Kd.C_alloc ?_ _) | (with_reducible refine Kd.C_drewN ?_ _) | (with_reducible refine Kd.C_drew ?_))); (case side2 => exact (Kd.R_reads' HO427.out).2.1); (case side3 => repeat (first | exact (Kd.R_reads' HO430.out).2.2 | (with_reducible refine Kd.C_alloc ?_ _) | (with_reducible refine Kd.C_drewN ?_ _) | (with_reducible refine Kd.C_drew ?_))); (case side4 => exact (Kd.R_reads' HO430.out).2.1); rintro e w10 ⟨rfl, hb⟩; refine ⟨_, rfl, ?_⟩; replace HO427 := rB HO427 hb; replace HO430 := rB HO430 hb; replace HB := sB hb; (try clear hb)))
 go_ret
 exact ⟨eA, bE⟩
def newelref05_before.f (k : Nat) (a0 : ByteArray) (a1 : ByteArray) : Option (Bool) := (newelref05_Compare.f k a0 a1).bind fun t585 => (if t585 < 0 then (some true) else (if t585 = 0 then (some (Op.bytesLess a0.toList a1.toList)) else (some false)))
theorem newelref05_before.calls (k : Nat) (a0 : ByteArray) (a1 : ByteArray) (r : Bool) (w : World) (hG : Glob w) (h : newelref05_before.f k a0 a1 = some r) :
 Calls Tryd.prog 83 #[.string a0, .string a1] w fun e w' => e = .returned (.bool r) ∧ Below w.heap.size w w' := by
 have HG := Aside0.mk hG
 clear hG
 have HB := Aside0.mk (Below.refl w.heap.size w)
 have H : ((newelref05_Compare.f k a0 a1).bind fun t585 => (if t585 < 0 then (some true) else (if t585 = 0 then (some (Op.bytesLess a0.toList a1.toList)) else (some false)))) = some r := h
 clear h
 replace H := bi H
 obtain ⟨t585, A30, H⟩ := H
 try dsimp only at H
 have A3 := Aside0.mk A30
 clear A30
 by_cases c4 : t585 < 0
 ·rw [if_pos c4] at H
  have c4b0 := dT c4
  clear c4
  obtain rfl := Option.some.inj H
  go_enter Tryd.func83, Tryd.ntmps83
  go_wp2_with (first | (refine gl (some 8) Tryd.func55 #[.string a0, .string a1] ?_; (with_reducible refine (newelref05_Compare.calls k a0 a1 t585 _ (gS HG) A3.out).mono ?_); rintro e w5 ⟨rfl, hb⟩; refine ⟨_, rfl, ?_⟩; replace HB := sB hb; (try clear hb)))
  go_ret
  exact ⟨eA, bE⟩
 rw [if_neg c4] at H
 have c4b0 := dF c4
 clear c4
 by_cases c6 : t585 = 0
 rotate_left
 ·rw [if_neg c6] at H
  obtain ⟨c6b0, c6b1⟩ := eqF c6
  obtain rfl := Option.some.inj H
  go_enter Tryd.func83, Tryd.ntmps83
  go_wp2_with (first | (refine gl (some 8) Tryd.func55 #[.string a0, .string a1] ?_; (with_reducible refine (newelref05_Compare.calls k a0 a1 t585 _ (gS HG) A3.out).mono ?_); rintro e w8 ⟨rfl, hb⟩; refine ⟨_, rfl, ?_⟩; replace HB := sB hb; (try clear hb)))
  go_ret
  exact ⟨eA, bE⟩
 rw [if_pos c6] at H
 obtain ⟨c6b0, c6b1⟩ := eqT c6
 clear c6
 obtain rfl := Option.some.inj H
 go_enter Tryd.func83, Tryd.ntmps83
 go_wp2_with (first | (refine gl (some 8) Tryd.func55 #[.string a0, .string a1] ?_; (with_reducible refine (newelref05_Compare.calls k a0 a1 t585 _ (gS HG) A3.out).mono ?_); rintro e w7 ⟨rfl, hb⟩; refine ⟨_, rfl, ?_⟩; replace HB := sB hb; (try clear hb)))
 go_ret
 exact ⟨eA, bE⟩
def newelref05_CoordLess.f (k : Nat) (a0_0 : ByteArray) (a0_1 : ByteArray) (a0_2 : ByteArray) (a1_0 : ByteArray) (a1_1 : ByteArray) (a1_2 : ByteArray) : Option (Bool) := if a0_0.toList = a1_0.toList then (if a0_1.toList = a1_1.toList then ((newelref05_before.f k a0_2 a1_2).bind fun t712 => (some t712)) else (some (Op.bytesLess a0_1.toList a1_1.toList))) else (some (Op.bytesLess a0_0.toList a1_0.toList))
theorem newelref05_CoordLess.calls (k : Nat) (a0_0 : ByteArray) (a0_1 : ByteArray) (a0_2 : ByteArray) (a1_0 : ByteArray) (a1_1 : ByteArray) (a1_2 : ByteArray) (r : Bool) (w : World) (hG : Glob w) (h : newelref05_CoordLess.f k a0_0 a0_1 a0_2 a1_0 a1_1 a1_2 = some r) :
 Calls Tryd.prog 42 #[.agg #[.string a0_0, .string a0_1, .string a0_2], .agg #[.string a1_0, .string a1_1, .string a1_2]] w fun e w' => e = .returned (.bool r) ∧ Below w.heap.size w w' := by
 have hu32 := Tryd.underlying32
 have HG := Aside0.mk hG
 clear hG
 have HB := Aside0.mk (Below.refl w.heap.size w)
 have H : (if a0_0.toList = a1_0.toList then (if a0_1.toList = a1_1.toList then ((newelref05_before.f k a0_2 a1_2).bind fun t712 => (some t712)) else (some (Op.bytesLess a0_1.toList a1_1.toList))) else (some (Op.bytesLess a0_0.toList a1_0.toList))) = some r := h
 clear h
 by_cases c3 : a0_0.toList = a1_0.toList
 rotate_left
 ·rw [if_neg c3] at H
  obtain ⟨c3b0, c3b1⟩ := eqF c3
  obtain rfl := Option.some.inj H
  go_enter Tryd.func42, Tryd.ntmps42
  go_wp2_with (first | (refine be 2 #[.string a0_0, .string a0_1, .string a0_2] 32 ?_; intro gb710 hg w17 hbox hb; have BK710 := Aside0.mk (hbox); have GW710 := gW hg; have GE710 := gW hg; replace HB := sB hb; clear hb hbox hg) | (refine be 3 #[.string a1_0, .string a1_1, .string a1_2] 32 ?_; intro gb711 hg w18 hbox hb; have BK711 := Aside0.mk (hbox); have GW711 := gW hg; have GE711 := gW hg; replace HB := sB hb; have NB710_711 := nL BK710 hg; have NB711_710 := nG BK710 hg; replace BK710 := kB BK710 hb; clear hb hbox hg; have hnb19 := NB710_711.out; have hnc19 := NB711_710.out; have hcz20_0 : w18.cell? ⟨gb710, 0, none⟩ = some (.string a0_0) := (blk_cell BK710.out 0).trans rfl; have hcz20_1 : w18.cell? ⟨gb710, 1, none⟩ = some (.string a0_1) := (blk_cell BK710.out 1).trans rfl; have hcz20_2 : w18.cell? ⟨gb710, 2, none⟩ = some (.string a0_2) := (blk_cell BK710.out 2).trans rfl; have hfz20_0 := blk_frozen BK710.out 0; have hfz20_1 := blk_frozen BK710.out 1; have hfz20_2 := blk_frozen BK710.out 2; have hcz21_0 : w18.cell? ⟨gb711, 0, none⟩ = some (.string a1_0) := (blk_cell BK711.out 0).trans rfl; have hcz21_1 : w18.cell? ⟨gb711, 1, none⟩ = some (.string a1_1) := (blk_cell BK711.out 1).trans rfl; have hcz21_2 : w18.cell? ⟨gb711, 2, none⟩ = some (.string a1_2) := (blk_cell BK711.out 2).trans rfl; have hfz21_0 := blk_frozen BK711.out 0; have hfz21_1 := blk_frozen BK711.out 1; have hfz21_2 := blk_frozen BK711.out 2))
  go_ret
  exact ⟨eA, bG⟩
 rw [if_pos c3] at H
 obtain ⟨c3b0, c3b1⟩ := eqT c3
 clear c3
 by_cases c4 : a0_1.toList = a1_1.toList
 rotate_left
 ·rw [if_neg c4] at H
  obtain ⟨c4b0, c4b1⟩ := eqF c4
  obtain rfl := Option.some.inj H
  go_enter Tryd.func42, Tryd.ntmps42
  go_wp2_with (first | (refine be 2 #[.string a0_0, .string a0_1, .string a0_2] 32 ?_; intro gb710 hg w12 hbox hb; have BK710 := Aside0.mk (hbox); have GW710 := gW hg; have GE710 := gW hg; replace HB := sB hb; clear hb hbox hg) | (refine be 3 #[.string a1_0, .string a1_1, .string a1_2] 32 ?_; intro gb711 hg w13 hbox hb; have BK711 := Aside0.mk (hbox); have GW711 := gW hg; have GE711 := gW hg; replace HB := sB hb; have NB710_711 := nL BK710 hg; have NB711_710 := nG BK710 hg; replace BK710 := kB BK710 hb; clear hb hbox hg; have hnb14 := NB710_711.out; have hnc14 := NB711_710.out; have hcz15_0 : w13.cell? ⟨gb710, 0, none⟩ = some (.string a0_0) := (blk_cell BK710.out 0).trans rfl; have hcz15_1 : w13.cell? ⟨gb710, 1, none⟩ = some (.string a0_1) := (blk_cell BK710.out 1).trans rfl; have hcz15_2 : w13.cell? ⟨gb710, 2, none⟩ = some (.string a0_2) := (blk_cell BK710.out 2).trans rfl; have hfz15_0 := blk_frozen BK710.out 0; have hfz15_1 := blk_frozen BK710.out 1; have hfz15_2 := blk_frozen BK710.out 2; have hcz16_0 : w13.cell? ⟨gb711, 0, none⟩ = some (.string a1_0) := (blk_cell BK711.out 0).trans rfl; have hcz16_1 : w13.cell? ⟨gb711, 1, none⟩ = some (.string a1_1) := (blk_cell BK711.out 1).trans rfl; have hcz16_2 : w13.cell? ⟨gb711, 2, none⟩ = some (.string a1_2) := (blk_cell BK711.out 2).trans rfl; have hfz16_0 := blk_frozen BK711.out 0; have hfz16_1 := blk_frozen BK711.out 1; have hfz16_2 := blk_frozen BK711.out 2))
  go_ret
  exact ⟨eA, bG⟩
 rw [if_pos c4] at H
 obtain ⟨c4b0, c4b1⟩ := eqT c4
 clear c4
 replace H := bi H
 obtain ⟨t712, A50, H⟩ := H
 try dsimp only at H
 have A5 := Aside0.mk A50
 clear A50
 obtain rfl := Option.some.inj H
 go_enter Tryd.func42, Tryd.ntmps42
 go_wp2_with (first | (refine be 2 #[.string a0_0, .string a0_1, .string a0_2] 32 ?_; intro gb710 hg w6 hbox hb; have BK710 := Aside0.mk (hbox); have GW710 := gW hg; have GE710 := gW hg; replace HB := sB hb; clear hb hbox hg) | (refine be 3 #[.string a1_0, .string a1_1, .string a1_2] 32 ?_; intro gb711 hg w7 hbox hb; have BK711 := Aside0.mk (hbox); have GW711 := gW hg; have GE711 := gW hg; replace HB := sB hb; have NB710_711 := nL BK710 hg; have NB711_710 := nG BK710 hg; replace BK710 := kB BK710 hb; clear hb hbox hg; have hnb8 := NB710_711.out; have hnc8 := NB711_710.out; have hcz9_0 : w7.cell? ⟨gb710, 0, none⟩ = some (.string a0_0) := (blk_cell BK710.out 0).trans rfl; have hcz9_1 : w7.cell? ⟨gb710, 1, none⟩ = some (.string a0_1) := (blk_cell BK710.out 1).trans rfl; have hcz9_2 : w7.cell? ⟨gb710, 2, none⟩ = some (.string a0_2) := (blk_cell BK710.out 2).trans rfl; have hfz9_0 := blk_frozen BK710.out 0; have hfz9_1 := blk_frozen BK710.out 1; have hfz9_2 := blk_frozen BK710.out 2; have hcz10_0 : w7.cell? ⟨gb711, 0, none⟩ = some (.string a1_0) := (blk_cell BK711.out 0).trans rfl; have hcz10_1 : w7.cell? ⟨gb711, 1, none⟩ = some (.string a1_1) := (blk_cell BK711.out 1).trans rfl; have hcz10_2 : w7.cell? ⟨gb711, 2, none⟩ = some (.string a1_2) := (blk_cell BK711.out 2).trans rfl; have hfz10_0 := blk_frozen BK711.out 0; have hfz10_1 := blk_frozen BK711.out 1; have hfz10_2 := blk_frozen BK711.out 2) | (refine gl (some 29) Tryd.func83 #[.string a0_2, .string a1_2] ?_; (with_reducible refine (newelref05_before.calls k a0_2 a1_2 t712 _ (gS HG) A5.out).mono ?_); rintro e w11 ⟨rfl, hb⟩; refine ⟨_, rfl, ?_⟩; replace BK710 := kB BK710 hb; replace BK711 := kB BK711 hb; replace HB := sB hb; (try clear hb)))
 go_ret
 exact ⟨eA, bG⟩
end Go.Proofs.YtgdjfcmmpjcaaaaDoor.Q
