/- Texts put together: what functions of the program compute, and plain words about them. -/
import Derived.Test.YtgdjfcmmpjcaaaaGreatDoorLawSpanBothM1
import Derived.Test.YtgdjfcmmpjcaaaaGreatDoorLawSpanBothM4
namespace Go.Proofs.YtgdjfcmmpjcaaaaGreatDoor.Q
open Go.RowKit Go.Proofs.YtgdjfcmmpjcaaaaGreatDoorW.PrintWords Go.Proofs.YtgdjfcmmpjcaaaaGreatDoorW.PrintLast Go.Proofs.YtgdjfcmmpjcaaaaGreatDoorW.Own Go.Proofs.YtgdjfcmmpjcaaaaGreatDoorW.PrintMore
attribute [local go_sem] max2_int min2_int max_two min_two max_three min_three max_four min_four   -- for this text's walks alone
set_option linter.unusedVariables false
set_option linter.unusedSimpArgs false
set_option maxHeartbeats 20000000
set_option maxRecDepth 100000
def newelref05_Split.l0 : Nat → List (S91) → List (S85) → Int → Option ((List (S85)))
 | 0, _, _, _ => none
 | k + 1, x3, x4, x5 => if x5 ≥ 0 then (if 0 ≤ x5 then (if x5 < (x3.length : Int) then ((newelref05_word.f k ((rd_T91 x3 x5).f0) ((rd_T91 x3 x5).f1) ((rd_T91 x3 x5).f2)).bind fun bt327 => (if (x4.length : Int) > 0 then (if 0 < (x4.length : Int) then (if ((rd_T85 x4 0).f0) = 6 then (if bt327.1 = 6 then ((some (([(⟨bt327.1, bt327.2⟩ : S85)] : List (S85)) : List (S85))).bind fun y331 => (if y331.length + x4.length < 5864062014805 then (newelref05_Split.l0 k x3 (y331 ++ x4) (wrap64 (x5 - 1))) else (none))) else ((some (([(⟨bt327.1, bt327.2⟩ : S85)] : List (S85)) : List (S85))).bind fun y337 => (if y337.length + x4.length < 5864062014805 then (newelref05_Split.l0 k x3 (y337 ++ x4) (wrap64 (x5 - 1))) else (none)))) else (if bt327.1 = 6 then (if (((rd_T85 x4 0).f0) = 10) then ((some (([(⟨bt327.1, bt327.2⟩ : S85)] : List (S85)) : List (S85))).bind fun y344 => (if y344.length + x4.length < 5864062014805 then (newelref05_Split.l0 k x3 (y344 ++ x4) (wrap64 (x5 - 1))) else (none))) else (newelref05_Split.l0 k x3 x4 (wrap64 (x5 - 1)))) else ((some (([(⟨bt327.1, bt327.2⟩ : S85)] : List (S85)) : List (S85))).bind fun y350 => (if y350.length + x4.length < 5864062014805 then (newelref05_Split.l0 k x3 (y350 ++ x4) (wrap64 (x5 - 1))) else (none))))) else (none)) else (if bt327.1 = 6 then (newelref05_Split.l0 k x3 x4 (wrap64 (x5 - 1))) else ((some (([(⟨bt327.1, bt327.2⟩ : S85)] : List (S85)) : List (S85))).bind fun y356 => (if y356.length + x4.length < 5864062014805 then (newelref05_Split.l0 k x3 (y356 ++ x4) (wrap64 (x5 - 1))) else (none)))))) else (none)) else (none)) else (some x4)
def newelref05_Split.f (k : Nat) (a0 : ByteArray) : Option ((List (S85))) := (newelref01_Lower.f k a0).bind fun t322 => ((newelref05_parts.f k t322).bind fun t323 => (newelref05_Split.l0 k t323 ([] : List (S85)) (wrap64 ((t323.length : Int) - 1))))
theorem newelref05_Split.mono_l : ∀ k, (∀ y0 y1 y2, LeO (newelref05_Split.l0 k y0 y1 y2) (newelref05_Split.l0 (k + 1) y0 y1 y2))
 | 0 => fun _ _ _ r h => by simp [newelref05_Split.l0] at h
 | k + 1 => by
  have ih0 := newelref05_Split.mono_l k
  ·intro y0 y1 y2
   unfold newelref05_Split.l0
   have m0 := @newelref01_Lower.mono
   have m1 := @newelref05_parts.mono
   have m2 := @newelref05_word.mono
   exact mo
theorem newelref05_Split.mono : ∀ a0 k, LeO (newelref05_Split.f k a0) (newelref05_Split.f (k + 1) a0) := by
 intro a0 k
 have ih0 := newelref05_Split.mono_l k
 unfold newelref05_Split.f
 have m0 := @newelref01_Lower.mono
 have m1 := @newelref05_parts.mono
 have m2 := @newelref05_word.mono
 exact mo
theorem newelref05_Split.calls (k : Nat) (a0 : ByteArray) (r : List (S85)) (w : World) (hG : Glob w) (h : newelref05_Split.f k a0 = some r) :
 Calls Tryz.prog 47 #[.string a0] w fun e w' => ∃ v0_ : Value, e = .returned (v0_) ∧ Kd.R k85 85 w' w.heap.size (fun _ => True) v0_ r ∧ Below w.heap.size w w' := by
 have hu91 := Tryz.underlying91
 have hu85 := Tryz.underlying85
 have HG := Aside0.mk hG
 clear hG
 have HB := Aside0.mk (Below.refl w.heap.size w)
 have H : ((newelref01_Lower.f k a0).bind fun t322 => ((newelref05_parts.f k t322).bind fun t323 => (newelref05_Split.l0 k t323 ([] : List (S85)) (wrap64 ((t323.length : Int) - 1))))) = some r := h
 clear h
 replace H := bi H
 obtain ⟨t322, A20, H⟩ := H
 try dsimp only at H
 have A2 := Aside0.mk A20
 clear A20
 replace H := bi H
 obtain ⟨t323, A30, H⟩ := H
 try dsimp only at H
 have A3 := Aside0.mk A30
 clear A30
 have H' := Aside0.mk H
 clear H
 go_enter Tryz.func47, Tryz.ntmps47
 go_wp2_with (first | (refine gl (some 9) Tryz.func66 #[.string a0] ?_; (with_reducible refine (newelref01_Lower.calls k a0 t322 _ (gS HG) A2.out).mono ?_); rintro e w4 ⟨rfl, hb⟩; refine ⟨_, rfl, ?_⟩; replace HB := sB hb; (try clear hb)) | (refine gl (some 10) Tryz.func65 #[.string t322] ?_; (with_reducible refine (newelref05_parts.calls k t322 t323 _ (gS HG) A3.out).mono ?_); rintro e w5 ⟨v324, rfl, ho0, hb⟩; refine ⟨_, rfl, ?_⟩; have HO325 := Aside0.mk (Kd.R_lower ho0 (below_size bE)); replace HB := sB hb; (try clear hb); (try clear ho0); obtain ⟨Ao6, co6, eo6⟩ := Kd.R_slice HO325.out; subst eo6))
 (try simp only [Act.put, List.setIfInBounds_toArray, List.set_cons_zero, List.set_cons_succ])
 go_loopg [4, 5] k (fun kq v4 v5 w' => ∃ (x4_1 : List (S85)) (x5_1 : Int), v5 = .int .i64 x5_1 ∧ Aside0 (newelref05_Split.l0 kq t323 x4_1 x5_1 = some r) ∧ Aside0 (kq ≤ k) ∧ Aside0 (Kd.R k91 91 w' w.heap.size (fun _ => True) (.slice Ao6 t323.length co6) t323) ∧ Aside0 (Kd.R k85 85 w' w.heap.size (fun _ => True) v4 x4_1) ∧ Aside0 (Below w.heap.size w w'))
 case atStart => exact ⟨(([] : List (S85))), (wrap64 ((t323.length : Int) - 1)), cA, H', ⟨Nat.le_refl _⟩, ⟨kR HO325⟩, ⟨by first | exact Kd.R_nil _ _ _ _ _ | exact Kd.N_nil _ _ _ _ _ | exact Kd.V_nil _ _ _ _ _ | exact Kd.Q_nil _ _ _ _ _ | exact Kd.S_nil _ _ _ _ _⟩, ⟨bE⟩⟩
 clear H'
 try clear p2
 try clear c4
 try clear c6
 try clear p6
 obtain ⟨x4_1, x5_1, rfl, HA, HK1, HO_3, HO_4, HB⟩ := hrel
 cases gk with
 | zero => exact absurd HA.out (by simp [newelref05_Split.l0])
 | succ k1 =>
  have H := HA.out
  clear HA
  simp only [newelref05_Split.l0] at H
  by_cases c7 : x5_1 ≥ 0
  rotate_left
  ·rw [if_neg c7] at H
   have c7b0 := dF c7
   clear c7
   obtain rfl := Option.some.inj H
   go_wp2
   go_ret
   exact ⟨_, by first | rfl | (simp [errW_none, errW_some] <;> rfl) | (simp [*, errW_none, errW_some] <;> rfl), by (with_reducible repeat (first | apply Kd.R_alloc | apply Kd.R_drewN | apply Kd.R_drew)); exact HO_4.out, bE⟩
  rw [if_pos c7] at H
  have c7b0 := dT c7
  clear c7
  obtain ⟨c8, H⟩ := gp H
  have c8b0 := dT c8
  clear c8
  obtain ⟨c9, H⟩ := gp H
  have c9b0 := dT c9
  clear c9
  replace H := bi H
  obtain ⟨⟨t327, t328⟩, A100, H⟩ := H
  try dsimp only at H
  have A10 := Aside0.mk A100
  clear A100
  by_cases c11 : (x4_1.length : Int) > 0
  rotate_left
  ·rw [if_neg c11] at H
   have c11b0 := dF c11
   have c11b1 : decide (0 < x4_1.length) = false := decide_eq_false (by omega)
   clear c11
   by_cases c53 : t327 = 6
   ·rw [if_pos c53] at H
    obtain ⟨c53b0, c53b1⟩ := eqT c53
    clear c53
    have H' := Aside0.mk H
    clear H
    have p326 : 0 ≤ (x5_1 : Int) := dA
    have q326 : x5_1 < (t323.length : Int) := dA
    obtain ⟨ad326, e326, hx326_0, hx326_1, hx326_2⟩ := at_T91 (Kd.R_reads' HO_3.out).2.2 x5_1 p326 q326
    cases e326
    replace p326 := eq_true p326
    replace q326 := eq_true q326
    go_wp2_with (first | (refine gl (some 22) Tryz.func67 #[.agg #[.string ((rd_T91 t323 x5_1).f0), .bool ((rd_T91 t323 x5_1).f1), .bool ((rd_T91 t323 x5_1).f2)]] ?_; (with_reducible refine (newelref05_word.calls k1 ((rd_T91 t323 x5_1).f0) ((rd_T91 t323 x5_1).f1) ((rd_T91 t323 x5_1).f2) t327 t328 _ (gS HG) A10.out).mono ?_); rintro e w54 ⟨rfl, hb⟩; refine ⟨_, rfl, ?_⟩; replace HO_3 := rB HO_3 hb; replace HO_4 := rB HO_4 hb; replace HB := sB hb; (try clear hb)) | (refine be 6 #[.int .i64 0, .string (⟨#[]⟩ : ByteArray)] 85 ?_; intro gb329 hg w55 hbox hb; replace HO_3 := rB HO_3 hb; replace HO_4 := Aside0.mk (Kd.R_below (Kd.R_elderB (kR HO_4) gb329 (Nat.le_of_eq hg.symm)) hb); have BK329 := Aside0.mk (hbox); have GW329 := gW hg; have GE329 := gW hg; replace HB := sB hb; clear hb hbox hg; have hcz56_0 : w55.cell? ⟨gb329, 0, none⟩ = some (.int .i64 0) := (blk_cell BK329.out 0).trans rfl; have hcz56_1 : w55.cell? ⟨gb329, 1, none⟩ = some (.string (⟨#[]⟩ : ByteArray)) := (blk_cell BK329.out 1).trans rfl; have hfz56_0 := blk_frozen BK329.out 0; have hfz56_1 := blk_frozen BK329.out 1; obtain ⟨Ao57, co57, eo57⟩ := Kd.R_slice HO_4.out; subst eo57))
    go_roundg k1
    case measure => have := HK1.out; omega
    case rel => exact ⟨(x4_1), (wrap64 (x5_1 - 1)), cA, H', ⟨by have := HK1.out; omega⟩, ⟨by (with_reducible repeat (first | apply Kd.R_alloc | apply Kd.R_drewN | apply Kd.R_drew)); exact Kd.R_mono (Kd.R_far (p := ⟨gb329, 1, none⟩) (Kd.R_far (p := ⟨gb329, 0, none⟩) (Kd.R_types HO_3.out BK329.out (by decide)) (fun _ hk => hk.2) (.int .i64 t327)) (fun _ hk => hk.2) (.string t328)) (fun _ hk => trivial)⟩, ⟨by (with_reducible repeat (first | apply Kd.R_alloc | apply Kd.R_drewN | apply Kd.R_drew)); exact Kd.R_mono (Kd.R_far (p := ⟨gb329, 1, none⟩) (Kd.R_far (p := ⟨gb329, 0, none⟩) (Kd.R_mono HO_4.out (fun k_ hk => (⟨hk, hk.2⟩ : _ ∧ k_ ≠ gb329))) (fun _ hk => hk.2) (.int .i64 t327)) (fun _ hk => hk.2) (.string t328)) (fun _ hk => trivial)⟩, ⟨bG⟩⟩
   rw [if_neg c53] at H
   obtain ⟨c53b0, c53b1⟩ := eqF c53
   obtain ⟨y356, hy356⟩ : ∃ y_ : List (S85), y_ = (([(⟨t327, t328⟩ : S85)] : List (S85))) := ⟨_, rfl⟩
   replace H : (if y356.length + x4_1.length < 5864062014805 then (newelref05_Split.l0 k1 t323 (y356 ++ x4_1) (wrap64 (x5_1 - 1))) else (none)) = some r := by first | (rw [hy356]; with_reducible exact H) | (have H2_ := (Option.bind_some _ _).symm.trans H; rw [hy356]; with_reducible exact H2_) | (have H2_ := (Option.bind_some _ _).symm.trans H; with_reducible exact H2_) | with_reducible exact H | (rw [hy356]; exact H) | exact H
   have Ny356 := Aside0.mk hy356
   clear hy356
   obtain ⟨c58, H⟩ := gp H
   have LMc58 := Aside0.mk c58
   clear c58
   obtain ⟨y359, hy359⟩ : ∃ y_ : List (S85), y_ = (y356 ++ x4_1) := ⟨_, rfl⟩
   replace H : (newelref05_Split.l0 k1 t323 y359 (wrap64 (x5_1 - 1))) = some r := by first | (rw [hy359]; with_reducible exact H) | (have H2_ := (Option.bind_some _ _).symm.trans H; rw [hy359]; with_reducible exact H2_) | (have H2_ := (Option.bind_some _ _).symm.trans H; with_reducible exact H2_) | with_reducible exact H | (rw [hy359]; exact H) | exact H
   have Ny359 := Aside0.mk hy359
   clear hy359
   have H' := Aside0.mk H
   clear H
   have p326 : 0 ≤ (x5_1 : Int) := dA
   have q326 : x5_1 < (t323.length : Int) := dA
   obtain ⟨ad326, e326, hx326_0, hx326_1, hx326_2⟩ := at_T91 (Kd.R_reads' HO_3.out).2.2 x5_1 p326 q326
   cases e326
   replace p326 := eq_true p326
   replace q326 := eq_true q326
   go_wp2_with (first | (refine gl (some 22) Tryz.func67 #[.agg #[.string ((rd_T91 t323 x5_1).f0), .bool ((rd_T91 t323 x5_1).f1), .bool ((rd_T91 t323 x5_1).f2)]] ?_; (with_reducible refine (newelref05_word.calls k1 ((rd_T91 t323 x5_1).f0) ((rd_T91 t323 x5_1).f1) ((rd_T91 t323 x5_1).f2) t327 t328 _ (gS HG) A10.out).mono ?_); rintro e w59 ⟨rfl, hb⟩; refine ⟨_, rfl, ?_⟩; replace HO_3 := rB HO_3 hb; replace HO_4 := rB HO_4 hb; replace HB := sB hb; (try clear hb)) | (refine be 6 #[.int .i64 0, .string (⟨#[]⟩ : ByteArray)] 85 ?_; intro gb329 hg w60 hbox hb; replace HO_3 := rB HO_3 hb; replace HO_4 := Aside0.mk (Kd.R_below (Kd.R_elderB (kR HO_4) gb329 (Nat.le_of_eq hg.symm)) hb); have BK329 := Aside0.mk (hbox); have GW329 := gW hg; have GE329 := gW hg; replace HB := sB hb; clear hb hbox hg; have hcz61_0 : w60.cell? ⟨gb329, 0, none⟩ = some (.int .i64 0) := (blk_cell BK329.out 0).trans rfl; have hcz61_1 : w60.cell? ⟨gb329, 1, none⟩ = some (.string (⟨#[]⟩ : ByteArray)) := (blk_cell BK329.out 1).trans rfl; have hfz61_0 := blk_frozen BK329.out 0; have hfz61_1 := blk_frozen BK329.out 1; obtain ⟨Ao62, co62, eo62⟩ := Kd.R_slice HO_4.out; subst eo62) | ((with_reducible refine gate_dst (N := 48) rfl ?_); refine Kd.R_lit k85 _ 85 ?hg (N := 48) ?hd (xs := ([(⟨t327, t328⟩ : S85)] : List (S85))) (inner := [.int .i64 t327, .string t328]) (ok := fun _ => True) (okp := fun _ => True) ?hr ?hp (fun _ hk => hk) trivial (Below.refl _ _) (Nat.le_refl _) (by simp) ?_; (case hd => rfl); (case hg => rfl); (case hr => first | (go_simp; done) | (go_simp; rfl)); (case hp => exact (Reps.c2 (show Kd.M k85 _ _ _ (⟨t327, t328⟩ : S85) [.int .i64 t327, .string t328] from (k85_mkM _ _ _ (⟨t327, t328⟩ : S85) )) (Reps.none _ _))); intro v357 w63 ho64 hb hg_ hnew_; clear hg_ hnew_; (first | rw [← Ny356.out] at ho64 | (simp only [Int.reduceToNat] at ho64; rw [← Ny356.out] at ho64)); replace HO_3 := Aside0.mk (Kd.R_below (by (with_reducible repeat (first | apply Kd.R_alloc | apply Kd.R_drewN | apply Kd.R_drew)); exact (Kd.R_mono (Kd.R_far (p := ⟨gb329, 1, none⟩) (Kd.R_far (p := ⟨gb329, 0, none⟩) (Kd.R_types HO_3.out BK329.out (by decide)) (fun _ hk => hk.2) (.int .i64 t327)) (fun _ hk => hk.2) (.string t328)) (fun _ h_ => h_.1))) hb); have HO358 := Aside0.mk (Kd.R_lower (Kd.R_newB (Kd.R_new' ho64 (Kd.R_lt (by (with_reducible repeat (first | apply Kd.R_alloc | apply Kd.R_drewN | apply Kd.R_drew)); exact (Kd.R_mono (Kd.R_far (p := ⟨gb329, 1, none⟩) (Kd.R_far (p := ⟨gb329, 0, none⟩) (Kd.R_mono HO_4.out (fun k_ hk => (⟨hk, hk.2⟩ : _ ∧ k_ ≠ gb329))) (fun _ hk => hk.2) (.int .i64 t327)) (fun _ hk => hk.2) (.string t328)) (fun _ h_ => h_.1))))) (g := gb329) (o := .cells #[.int .i64 t327, .string t328] 85 (0, 0)) (bP BK329)) (below_size bG)); replace HO_4 := Aside0.mk (Kd.R_elder' (by (with_reducible repeat (first | apply Kd.R_alloc | apply Kd.R_drewN | apply Kd.R_drew)); exact (Kd.R_mono (Kd.R_far (p := ⟨gb329, 1, none⟩) (Kd.R_far (p := ⟨gb329, 0, none⟩) (Kd.R_mono HO_4.out (fun k_ hk => (⟨hk, hk.2⟩ : _ ∧ k_ ≠ gb329))) (fun _ hk => hk.2) (.int .i64 t327)) (fun _ hk => hk.2) (.string t328)) (fun _ h_ => h_.1))) (Kd.R_base ho64) hb); replace BK329 := Aside0.mk (blk_below (g := gb329) (o := .cells #[.int .i64 t327, .string t328] 85 (0, 0)) (bP BK329) hb); replace HB := sB hb; clear hb ho64) | ((with_reducible refine gate_builtin (b := .append) (xs := #[.tmp 48, .tmp 49]) rfl ?_); at_builtin; refine Kd.R_append_rows k85 (w0 := w) w.heap.size rfl (.tmp 48) (.tmp 49) 71 85 (.agg #[(.int .i64 0), (.string ⟨#[]⟩)]) 24 rfl Tryz.underlying71 info85 rfl (by decide) (by omega) v357 y356 x4_1 _ _ _ (fun k_ => some k_ ≠ (.slice Ao62 x4_1.length co62 : Value).ownBlock ∧ k_ ≠ gb329) (fun _ => False) rfl rfl ?aO ?aR (fun _ _ h => h) (fun _ h => h.elim) ?aF ?aB ?aS ?aL ?_; (case aR => repeat (first | exact (Kd.R_reads' HO_4.out).2.2 | (with_reducible refine Kd.C_alloc ?_ _) | (with_reducible refine Kd.C_drewN ?_ _) | (with_reducible refine Kd.C_drew ?_))); (case aB => exact bG); (case aF => exact (fun k_ hk => ⟨Kd.fresh' (Kd.R_lt (kR HO_4)) k_ hk, Kd.freshB (g := gb329) (o := .cells #[.int .i64 t327, .string t328] 85 (0, 0)) (bK BK329) k_ hk⟩)); (case aO => exact (by (with_reducible repeat (first | apply Kd.R_alloc | apply Kd.R_drewN | apply Kd.R_drew)); exact Kd.R_mono HO358.out (fun _ hk => ⟨hk.1.2, hk.2⟩))); (case aS => exact (below_size bG)); (case aL => have := LMc58.out; omega); intro v360 w65 ho hb hg hat; rw [← Ny359.out] at ho; replace HO_3 := Aside0.mk (Kd.R_over' (kR HO_3) (Kd.R_typed (kR HO358)) (by decide) hg); replace HO_4 := Aside0.mk (Kd.R_after (ok := (fun k_ => k_ ≠ gb329)) (by (with_reducible repeat (first | apply Kd.R_alloc | apply Kd.R_drewN | apply Kd.R_drew)); exact Kd.R_mono HO_4.out (fun _ hk => ⟨hk.1.2, hk.2⟩)) hg hat); replace BK329 := Aside0.mk (blk_grown (g := gb329) (o := .cells #[.int .i64 t327, .string t328] 85 (0, 0)) (bK BK329) hg (Kd.R_away HO358.out (fun _ hk => hk.2))); replace HB := Aside0.mk (hb); have HO361 := Aside0.mk (ho); clear HO358; clear ho hb hg hat))
   go_roundg k1
   case measure => have := HK1.out; omega
   case rel => exact ⟨(y359), (wrap64 (x5_1 - 1)), cA, H', ⟨by have := HK1.out; omega⟩, ⟨kR HO_3⟩, ⟨by (with_reducible repeat (first | apply Kd.R_alloc | apply Kd.R_drewN | apply Kd.R_drew)); exact Kd.R_mono HO361.out (fun _ hk => trivial)⟩, ⟨bG⟩⟩
  rw [if_pos c11] at H
  have c11b0 := dT c11
  have c11b1 : decide (0 < x4_1.length) = true := decide_eq_true (by omega)
  clear c11
  obtain ⟨c12, H⟩ := gp H
  have c12b0 := dT c12
  have c12b1 : decide (0 < x4_1.length) = true := decide_eq_true (by omega)
  clear c12
  by_cases c13 : ((rd_T85 x4_1 0).f0) = 6
  ·rw [if_pos c13] at H
   obtain ⟨c13b0, c13b1⟩ := eqT c13
   clear c13
   by_cases c14 : t327 = 6
   rotate_left
   ·rw [if_neg c14] at H
    obtain ⟨c14b0, c14b1⟩ := eqF c14
    obtain ⟨y337, hy337⟩ : ∃ y_ : List (S85), y_ = (([(⟨t327, t328⟩ : S85)] : List (S85))) := ⟨_, rfl⟩
    replace H : (if y337.length + x4_1.length < 5864062014805 then (newelref05_Split.l0 k1 t323 (y337 ++ x4_1) (wrap64 (x5_1 - 1))) else (none)) = some r := by first | (rw [hy337]; with_reducible exact H) | (have H2_ := (Option.bind_some _ _).symm.trans H; rw [hy337]; with_reducible exact H2_) | (have H2_ := (Option.bind_some _ _).symm.trans H; with_reducible exact H2_) | with_reducible exact H | (rw [hy337]; exact H) | exact H
    have Ny337 := Aside0.mk hy337
    clear hy337
    obtain ⟨c23, H⟩ := gp H
    have LMc23 := Aside0.mk c23
    clear c23
    obtain ⟨y340, hy340⟩ : ∃ y_ : List (S85), y_ = (y337 ++ x4_1) := ⟨_, rfl⟩
    replace H : (newelref05_Split.l0 k1 t323 y340 (wrap64 (x5_1 - 1))) = some r := by first | (rw [hy340]; with_reducible exact H) | (have H2_ := (Option.bind_some _ _).symm.trans H; rw [hy340]; with_reducible exact H2_) | (have H2_ := (Option.bind_some _ _).symm.trans H; with_reducible exact H2_) | with_reducible exact H | (rw [hy340]; exact H) | exact H
    have Ny340 := Aside0.mk hy340
    clear hy340
    have H' := Aside0.mk H
    clear H
    have p326 : 0 ≤ (x5_1 : Int) := dA
    have q326 : x5_1 < (t323.length : Int) := dA
    obtain ⟨ad326, e326, hx326_0, hx326_1, hx326_2⟩ := at_T91 (Kd.R_reads' HO_3.out).2.2 x5_1 p326 q326
    cases e326
    replace p326 := eq_true p326
    replace q326 := eq_true q326
    go_wp2_with (first | (refine gl (some 22) Tryz.func67 #[.agg #[.string ((rd_T91 t323 x5_1).f0), .bool ((rd_T91 t323 x5_1).f1), .bool ((rd_T91 t323 x5_1).f2)]] ?_; (with_reducible refine (newelref05_word.calls k1 ((rd_T91 t323 x5_1).f0) ((rd_T91 t323 x5_1).f1) ((rd_T91 t323 x5_1).f2) t327 t328 _ (gS HG) A10.out).mono ?_); rintro e w24 ⟨rfl, hb⟩; refine ⟨_, rfl, ?_⟩; replace HO_3 := rB HO_3 hb; replace HO_4 := rB HO_4 hb; replace HB := sB hb; (try clear hb)) | (refine be 6 #[.int .i64 0, .string (⟨#[]⟩ : ByteArray)] 85 ?_; intro gb329 hg w25 hbox hb; replace HO_3 := rB HO_3 hb; replace HO_4 := Aside0.mk (Kd.R_below (Kd.R_elderB (kR HO_4) gb329 (Nat.le_of_eq hg.symm)) hb); have BK329 := Aside0.mk (hbox); have GW329 := gW hg; have GE329 := gW hg; replace HB := sB hb; clear hb hbox hg; have hcz26_0 : w25.cell? ⟨gb329, 0, none⟩ = some (.int .i64 0) := (blk_cell BK329.out 0).trans rfl; have hcz26_1 : w25.cell? ⟨gb329, 1, none⟩ = some (.string (⟨#[]⟩ : ByteArray)) := (blk_cell BK329.out 1).trans rfl; have hfz26_0 := blk_frozen BK329.out 0; have hfz26_1 := blk_frozen BK329.out 1; obtain ⟨Ao27, co27, eo27⟩ := Kd.R_slice HO_4.out; subst eo27; have p330 : 0 ≤ (0 : Int) := (by omega); have q330 : 0 < (x4_1.length : Int) := dA; obtain ⟨ad330, e330, hx330_0, hx330_1⟩ := at_T85 (Kd.R_reads' HO_4.out).2.2 0 p330 q330; cases e330; have qi330 : (0 < x4_1.length) = True := eq_true (by omega); (try rw [show ((0 : Int)).toNat = 0 from rfl] at hx330_0); (try rw [show 0 * 2 = 0 from rfl] at hx330_0); (try rw [Addr.add_zero'] at hx330_0); (try rw [show ((0 : Int)).toNat = 0 from rfl] at hx330_1); (try rw [show 0 * 2 = 0 from rfl] at hx330_1); (try rw [Addr.add_zero'] at hx330_1); have hn330_0 : ad330.block ≠ gb329 := Kd.own_blk (Kd.R_away HO_4.out (fun _ hk => hk.2)); have hn330_1 : ad330.block ≠ gb329 := Kd.own_blk (Kd.R_away HO_4.out (fun _ hk => hk.2)); replace hx330_0 := (cell_far (p := ⟨gb329, 0, none⟩) (by first | (rw [add_block]; exact hn330_0) | (show (Addr.add _ _).block ≠ _; rw [add_block]; exact hn330_0) | exact hn330_0) (.int .i64 t327)).trans hx330_0; replace hx330_1 := (cell_far (p := ⟨gb329, 0, none⟩) (by first | (rw [add_block]; exact hn330_0) | (show (Addr.add _ _).block ≠ _; rw [add_block]; exact hn330_0) | exact hn330_0) (.int .i64 t327)).trans hx330_1; replace hx330_0 := (cell_far (p := ⟨gb329, 1, none⟩) (by first | (rw [add_block]; exact hn330_1) | (show (Addr.add _ _).block ≠ _; rw [add_block]; exact hn330_1) | exact hn330_1) (.string t328)).trans hx330_0; replace hx330_1 := (cell_far (p := ⟨gb329, 1, none⟩) (by first | (rw [add_block]; exact hn330_1) | (show (Addr.add _ _).block ≠ _; rw [add_block]; exact hn330_1) | exact hn330_1) (.string t328)).trans hx330_1; clear hn330_0; clear hn330_1; replace p330 := eq_true p330; replace q330 := eq_true q330) | ((with_reducible refine gate_dst (N := 48) rfl ?_); refine Kd.R_lit k85 _ 85 ?hg (N := 48) ?hd (xs := ([(⟨t327, t328⟩ : S85)] : List (S85))) (inner := [.int .i64 t327, .string t328]) (ok := fun _ => True) (okp := fun _ => True) ?hr ?hp (fun _ hk => hk) trivial (Below.refl _ _) (Nat.le_refl _) (by simp) ?_; (case hd => rfl); (case hg => rfl); (case hr => first | (go_simp; done) | (go_simp; rfl)); (case hp => exact (Reps.c2 (show Kd.M k85 _ _ _ (⟨t327, t328⟩ : S85) [.int .i64 t327, .string t328] from (k85_mkM _ _ _ (⟨t327, t328⟩ : S85) )) (Reps.none _ _))); intro v338 w28 ho29 hb hg_ hnew_; clear hg_ hnew_; (first | rw [← Ny337.out] at ho29 | (simp only [Int.reduceToNat] at ho29; rw [← Ny337.out] at ho29)); replace HO_3 := Aside0.mk (Kd.R_below (by (with_reducible repeat (first | apply Kd.R_alloc | apply Kd.R_drewN | apply Kd.R_drew)); exact (Kd.R_mono (Kd.R_far (p := ⟨gb329, 1, none⟩) (Kd.R_far (p := ⟨gb329, 0, none⟩) (Kd.R_types HO_3.out BK329.out (by decide)) (fun _ hk => hk.2) (.int .i64 t327)) (fun _ hk => hk.2) (.string t328)) (fun _ h_ => h_.1))) hb); have HO339 := Aside0.mk (Kd.R_lower (Kd.R_newB (Kd.R_new' ho29 (Kd.R_lt (by (with_reducible repeat (first | apply Kd.R_alloc | apply Kd.R_drewN | apply Kd.R_drew)); exact (Kd.R_mono (Kd.R_far (p := ⟨gb329, 1, none⟩) (Kd.R_far (p := ⟨gb329, 0, none⟩) (Kd.R_mono HO_4.out (fun k_ hk => (⟨hk, hk.2⟩ : _ ∧ k_ ≠ gb329))) (fun _ hk => hk.2) (.int .i64 t327)) (fun _ hk => hk.2) (.string t328)) (fun _ h_ => h_.1))))) (g := gb329) (o := .cells #[.int .i64 t327, .string t328] 85 (0, 0)) (bP BK329)) (below_size bG)); replace HO_4 := Aside0.mk (Kd.R_elder' (by (with_reducible repeat (first | apply Kd.R_alloc | apply Kd.R_drewN | apply Kd.R_drew)); exact (Kd.R_mono (Kd.R_far (p := ⟨gb329, 1, none⟩) (Kd.R_far (p := ⟨gb329, 0, none⟩) (Kd.R_mono HO_4.out (fun k_ hk => (⟨hk, hk.2⟩ : _ ∧ k_ ≠ gb329))) (fun _ hk => hk.2) (.int .i64 t327)) (fun _ hk => hk.2) (.string t328)) (fun _ h_ => h_.1))) (Kd.R_base ho29) hb); replace BK329 := Aside0.mk (blk_below (g := gb329) (o := .cells #[.int .i64 t327, .string t328] 85 (0, 0)) (bP BK329) hb); replace HB := sB hb; clear hb ho29) | ((with_reducible refine gate_builtin (b := .append) (xs := #[.tmp 48, .tmp 49]) rfl ?_); at_builtin; refine Kd.R_append_rows k85 (w0 := w) w.heap.size rfl (.tmp 48) (.tmp 49) 71 85 (.agg #[(.int .i64 0), (.string ⟨#[]⟩)]) 24 rfl Tryz.underlying71 info85 rfl (by decide) (by omega) v338 y337 x4_1 _ _ _ (fun k_ => some k_ ≠ (.slice (some ad330) x4_1.length co27 : Value).ownBlock ∧ k_ ≠ gb329) (fun _ => False) rfl rfl ?aO ?aR (fun _ _ h => h) (fun _ h => h.elim) ?aF ?aB ?aS ?aL ?_; (case aR => repeat (first | exact (Kd.R_reads' HO_4.out).2.2 | (with_reducible refine Kd.C_alloc ?_ _) | (with_reducible refine Kd.C_drewN ?_ _) | (with_reducible refine Kd.C_drew ?_))); (case aB => exact bG); (case aF => exact (fun k_ hk => ⟨Kd.fresh' (Kd.R_lt (kR HO_4)) k_ hk, Kd.freshB (g := gb329) (o := .cells #[.int .i64 t327, .string t328] 85 (0, 0)) (bK BK329) k_ hk⟩)); (case aO => exact (by (with_reducible repeat (first | apply Kd.R_alloc | apply Kd.R_drewN | apply Kd.R_drew)); exact Kd.R_mono HO339.out (fun _ hk => ⟨hk.1.2, hk.2⟩))); (case aS => exact (below_size bG)); (case aL => have := LMc23.out; omega); intro v341 w30 ho hb hg hat; rw [← Ny340.out] at ho; replace HO_3 := Aside0.mk (Kd.R_over' (kR HO_3) (Kd.R_typed (kR HO339)) (by decide) hg); replace HO_4 := Aside0.mk (Kd.R_after (ok := (fun k_ => k_ ≠ gb329)) (by (with_reducible repeat (first | apply Kd.R_alloc | apply Kd.R_drewN | apply Kd.R_drew)); exact Kd.R_mono HO_4.out (fun _ hk => ⟨hk.1.2, hk.2⟩)) hg hat); replace BK329 := Aside0.mk (blk_grown (g := gb329) (o := .cells #[.int .i64 t327, .string t328] 85 (0, 0)) (bK BK329) hg (Kd.R_away HO339.out (fun _ hk => hk.2))); replace HB := Aside0.mk (hb); have HO342 := Aside0.mk (ho); clear HO339; clear ho hb hg hat))
    go_roundg k1
    case measure => have := HK1.out; omega
    case rel => exact ⟨(y340), (wrap64 (x5_1 - 1)), cA, H', ⟨by have := HK1.out; omega⟩, ⟨kR HO_3⟩, ⟨by (with_reducible repeat (first | apply Kd.R_alloc | apply Kd.R_drewN | apply Kd.R_drew)); exact Kd.R_mono HO342.out (fun _ hk => trivial)⟩, ⟨bG⟩⟩
   rw [if_pos c14] at H
   obtain ⟨c14b0, c14b1⟩ := eqT c14
   clear c14
   obtain ⟨y331, hy331⟩ : ∃ y_ : List (S85), y_ = (([(⟨t327, t328⟩ : S85)] : List (S85))) := ⟨_, rfl⟩
   replace H : (if y331.length + x4_1.length < 5864062014805 then (newelref05_Split.l0 k1 t323 (y331 ++ x4_1) (wrap64 (x5_1 - 1))) else (none)) = some r := by first | (rw [hy331]; with_reducible exact H) | (have H2_ := (Option.bind_some _ _).symm.trans H; rw [hy331]; with_reducible exact H2_) | (have H2_ := (Option.bind_some _ _).symm.trans H; with_reducible exact H2_) | with_reducible exact H | (rw [hy331]; exact H) | exact H
   have Ny331 := Aside0.mk hy331
   clear hy331
   obtain ⟨c15, H⟩ := gp H
   have LMc15 := Aside0.mk c15
   clear c15
   obtain ⟨y334, hy334⟩ : ∃ y_ : List (S85), y_ = (y331 ++ x4_1) := ⟨_, rfl⟩
   replace H : (newelref05_Split.l0 k1 t323 y334 (wrap64 (x5_1 - 1))) = some r := by first | (rw [hy334]; with_reducible exact H) | (have H2_ := (Option.bind_some _ _).symm.trans H; rw [hy334]; with_reducible exact H2_) | (have H2_ := (Option.bind_some _ _).symm.trans H; with_reducible exact H2_) | with_reducible exact H | (rw [hy334]; exact H) | exact H
   have Ny334 := Aside0.mk hy334
   clear hy334
   have H' := Aside0.mk H
   clear H
   have p326 : 0 ≤ (x5_1 : Int) := dA
   have q326 : x5_1 < (t323.length : Int) := dA
   obtain ⟨ad326, e326, hx326_0, hx326_1, hx326_2⟩ := at_T91 (Kd.R_reads' HO_3.out).2.2 x5_1 p326 q326
   cases e326
   replace p326 := eq_true p326
   replace q326 := eq_true q326
   go_wp2_with (first | (refine gl (some 22) Tryz.func67 #[.agg #[.string ((rd_T91 t323 x5_1).f0), .bool ((rd_T91 t323 x5_1).f1), .bool ((rd_T91 t323 x5_1).f2)]] ?_; (with_reducible refine (newelref05_word.calls k1 ((rd_T91 t323 x5_1).f0) ((rd_T91 t323 x5_1).f1) ((rd_T91 t323 x5_1).f2) t327 t328 _ (gS HG) A10.out).mono ?_); rintro e w16 ⟨rfl, hb⟩; refine ⟨_, rfl, ?_⟩; replace HO_3 := rB HO_3 hb; replace HO_4 := rB HO_4 hb; replace HB := sB hb; (try clear hb)) | (refine be 6 #[.int .i64 0, .string (⟨#[]⟩ : ByteArray)] 85 ?_; intro gb329 hg w17 hbox hb; replace HO_3 := rB HO_3 hb; replace HO_4 := Aside0.mk (Kd.R_below (Kd.R_elderB (kR HO_4) gb329 (Nat.le_of_eq hg.symm)) hb); have BK329 := Aside0.mk (hbox); have GW329 := gW hg; have GE329 := gW hg; replace HB := sB hb; clear hb hbox hg; have hcz18_0 : w17.cell? ⟨gb329, 0, none⟩ = some (.int .i64 0) := (blk_cell BK329.out 0).trans rfl; have hcz18_1 : w17.cell? ⟨gb329, 1, none⟩ = some (.string (⟨#[]⟩ : ByteArray)) := (blk_cell BK329.out 1).trans rfl; have hfz18_0 := blk_frozen BK329.out 0; have hfz18_1 := blk_frozen BK329.out 1; obtain ⟨Ao19, co19, eo19⟩ := Kd.R_slice HO_4.out; subst eo19; have p330 : 0 ≤ (0 : Int) := (by omega); have q330 : 0 < (x4_1.length : Int) := dA; obtain ⟨ad330, e330, hx330_0, hx330_1⟩ := at_T85 (Kd.R_reads' HO_4.out).2.2 0 p330 q330; cases e330; have qi330 : (0 < x4_1.length) = True := eq_true (by omega); (try rw [show ((0 : Int)).toNat = 0 from rfl] at hx330_0); (try rw [show 0 * 2 = 0 from rfl] at hx330_0); (try rw [Addr.add_zero'] at hx330_0); (try rw [show ((0 : Int)).toNat = 0 from rfl] at hx330_1); (try rw [show 0 * 2 = 0 from rfl] at hx330_1); (try rw [Addr.add_zero'] at hx330_1); have hn330_0 : ad330.block ≠ gb329 := Kd.own_blk (Kd.R_away HO_4.out (fun _ hk => hk.2)); have hn330_1 : ad330.block ≠ gb329 := Kd.own_blk (Kd.R_away HO_4.out (fun _ hk => hk.2)); replace hx330_0 := (cell_far (p := ⟨gb329, 0, none⟩) (by first | (rw [add_block]; exact hn330_0) | (show (Addr.add _ _).block ≠ _; rw [add_block]; exact hn330_0) | exact hn330_0) (.int .i64 t327)).trans hx330_0; replace hx330_1 := (cell_far (p := ⟨gb329, 0, none⟩) (by first | (rw [add_block]; exact hn330_0) | (show (Addr.add _ _).block ≠ _; rw [add_block]; exact hn330_0) | exact hn330_0) (.int .i64 t327)).trans hx330_1; replace hx330_0 := (cell_far (p := ⟨gb329, 1, none⟩) (by first | (rw [add_block]; exact hn330_1) | (show (Addr.add _ _).block ≠ _; rw [add_block]; exact hn330_1) | exact hn330_1) (.string t328)).trans hx330_0; replace hx330_1 := (cell_far (p := ⟨gb329, 1, none⟩) (by first | (rw [add_block]; exact hn330_1) | (show (Addr.add _ _).block ≠ _; rw [add_block]; exact hn330_1) | exact hn330_1) (.string t328)).trans hx330_1; clear hn330_0; clear hn330_1; replace p330 := eq_true p330; replace q330 := eq_true q330) | ((with_reducible refine gate_dst (N := 48) rfl ?_); refine Kd.R_lit k85 _ 85 ?hg (N := 48) ?hd (xs := ([(⟨t327, t328⟩ : S85)] : List (S85))) (inner := [.int .i64 t327, .string t328]) (ok := fun _ => True) (okp := fun _ => True) ?hr ?hp (fun _ hk => hk) trivial (Below.refl _ _) (Nat.le_refl _) (by simp) ?_; (case hd => rfl); (case hg => rfl); (case hr => first | (go_simp; done) | (go_simp; rfl)); (case hp => exact (Reps.c2 (show Kd.M k85 _ _ _ (⟨t327, t328⟩ : S85) [.int .i64 t327, .string t328] from (k85_mkM _ _ _ (⟨t327, t328⟩ : S85) )) (Reps.none _ _))); intro v332 w20 ho21 hb hg_ hnew_; clear hg_ hnew_; (first | rw [← Ny331.out] at ho21 | (simp only [Int.reduceToNat] at ho21; rw [← Ny331.out] at ho21)); replace HO_3 := Aside0.mk (Kd.R_below (by (with_reducible repeat (first | apply Kd.R_alloc | apply Kd.R_drewN | apply Kd.R_drew)); exact (Kd.R_mono (Kd.R_far (p := ⟨gb329, 1, none⟩) (Kd.R_far (p := ⟨gb329, 0, none⟩) (Kd.R_types HO_3.out BK329.out (by decide)) (fun _ hk => hk.2) (.int .i64 t327)) (fun _ hk => hk.2) (.string t328)) (fun _ h_ => h_.1))) hb); have HO333 := Aside0.mk (Kd.R_lower (Kd.R_newB (Kd.R_new' ho21 (Kd.R_lt (by (with_reducible repeat (first | apply Kd.R_alloc | apply Kd.R_drewN | apply Kd.R_drew)); exact (Kd.R_mono (Kd.R_far (p := ⟨gb329, 1, none⟩) (Kd.R_far (p := ⟨gb329, 0, none⟩) (Kd.R_mono HO_4.out (fun k_ hk => (⟨hk, hk.2⟩ : _ ∧ k_ ≠ gb329))) (fun _ hk => hk.2) (.int .i64 t327)) (fun _ hk => hk.2) (.string t328)) (fun _ h_ => h_.1))))) (g := gb329) (o := .cells #[.int .i64 t327, .string t328] 85 (0, 0)) (bP BK329)) (below_size bG)); replace HO_4 := Aside0.mk (Kd.R_elder' (by (with_reducible repeat (first | apply Kd.R_alloc | apply Kd.R_drewN | apply Kd.R_drew)); exact (Kd.R_mono (Kd.R_far (p := ⟨gb329, 1, none⟩) (Kd.R_far (p := ⟨gb329, 0, none⟩) (Kd.R_mono HO_4.out (fun k_ hk => (⟨hk, hk.2⟩ : _ ∧ k_ ≠ gb329))) (fun _ hk => hk.2) (.int .i64 t327)) (fun _ hk => hk.2) (.string t328)) (fun _ h_ => h_.1))) (Kd.R_base ho21) hb); replace BK329 := Aside0.mk (blk_below (g := gb329) (o := .cells #[.int .i64 t327, .string t328] 85 (0, 0)) (bP BK329) hb); replace HB := sB hb; clear hb ho21) | ((with_reducible refine gate_builtin (b := .append) (xs := #[.tmp 48, .tmp 49]) rfl ?_); at_builtin; refine Kd.R_append_rows k85 (w0 := w) w.heap.size rfl (.tmp 48) (.tmp 49) 71 85 (.agg #[(.int .i64 0), (.string ⟨#[]⟩)]) 24 rfl Tryz.underlying71 info85 rfl (by decide) (by omega) v332 y331 x4_1 _ _ _ (fun k_ => some k_ ≠ (.slice (some ad330) x4_1.length co19 : Value).ownBlock ∧ k_ ≠ gb329) (fun _ => False) rfl rfl ?aO ?aR (fun _ _ h => h) (fun _ h => h.elim) ?aF ?aB ?aS ?aL ?_; (case aR => repeat (first | exact (Kd.R_reads' HO_4.out).2.2 | (with_reducible refine Kd.C_alloc ?_ _) | (with_reducible refine Kd.C_drewN ?_ _) | (with_reducible refine Kd.C_drew ?_))); (case aB => exact bG); (case aF => exact (fun k_ hk => ⟨Kd.fresh' (Kd.R_lt (kR HO_4)) k_ hk, Kd.freshB (g := gb329) (o := .cells #[.int .i64 t327, .string t328] 85 (0, 0)) (bK BK329) k_ hk⟩)); (case aO => exact (by (with_reducible repeat (first | apply Kd.R_alloc | apply Kd.R_drewN | apply Kd.R_drew)); exact Kd.R_mono HO333.out (fun _ hk => ⟨hk.1.2, hk.2⟩))); (case aS => exact (below_size bG)); (case aL => have := LMc15.out; omega); intro v335 w22 ho hb hg hat; rw [← Ny334.out] at ho; replace HO_3 := Aside0.mk (Kd.R_over' (kR HO_3) (Kd.R_typed (kR HO333)) (by decide) hg); replace HO_4 := Aside0.mk (Kd.R_after (ok := (fun k_ => k_ ≠ gb329)) (by (with_reducible repeat (first | apply Kd.R_alloc | apply Kd.R_drewN | apply Kd.R_drew)); exact Kd.R_mono HO_4.out (fun _ hk => ⟨hk.1.2, hk.2⟩)) hg hat); replace BK329 := Aside0.mk (blk_grown (g := gb329) (o := .cells #[.int .i64 t327, .string t328] 85 (0, 0)) (bK BK329) hg (Kd.R_away HO333.out (fun _ hk => hk.2))); replace HB := Aside0.mk (hb); have HO336 := Aside0.mk (ho); clear HO333; clear ho hb hg hat))
   go_roundg k1
   case measure => have := HK1.out; omega
   case rel => exact ⟨(y334), (wrap64 (x5_1 - 1)), cA, H', ⟨by have := HK1.out; omega⟩, ⟨kR HO_3⟩, ⟨by (with_reducible repeat (first | apply Kd.R_alloc | apply Kd.R_drewN | apply Kd.R_drew)); exact Kd.R_mono HO336.out (fun _ hk => trivial)⟩, ⟨bG⟩⟩
  rw [if_neg c13] at H
  obtain ⟨c13b0, c13b1⟩ := eqF c13
  by_cases c31 : t327 = 6
  rotate_left
  ·rw [if_neg c31] at H
   obtain ⟨c31b0, c31b1⟩ := eqF c31
   obtain ⟨y350, hy350⟩ : ∃ y_ : List (S85), y_ = (([(⟨t327, t328⟩ : S85)] : List (S85))) := ⟨_, rfl⟩
   replace H : (if y350.length + x4_1.length < 5864062014805 then (newelref05_Split.l0 k1 t323 (y350 ++ x4_1) (wrap64 (x5_1 - 1))) else (none)) = some r := by first | (rw [hy350]; with_reducible exact H) | (have H2_ := (Option.bind_some _ _).symm.trans H; rw [hy350]; with_reducible exact H2_) | (have H2_ := (Option.bind_some _ _).symm.trans H; with_reducible exact H2_) | with_reducible exact H | (rw [hy350]; exact H) | exact H
   have Ny350 := Aside0.mk hy350
   clear hy350
   obtain ⟨c45, H⟩ := gp H
   have LMc45 := Aside0.mk c45
   clear c45
   obtain ⟨y353, hy353⟩ : ∃ y_ : List (S85), y_ = (y350 ++ x4_1) := ⟨_, rfl⟩
   replace H : (newelref05_Split.l0 k1 t323 y353 (wrap64 (x5_1 - 1))) = some r := by first | (rw [hy353]; with_reducible exact H) | (have H2_ := (Option.bind_some _ _).symm.trans H; rw [hy353]; with_reducible exact H2_) | (have H2_ := (Option.bind_some _ _).symm.trans H; with_reducible exact H2_) | with_reducible exact H | (rw [hy353]; exact H) | exact H
   have Ny353 := Aside0.mk hy353
   clear hy353
   have H' := Aside0.mk H
   clear H
   have p326 : 0 ≤ (x5_1 : Int) := dA
   have q326 : x5_1 < (t323.length : Int) := dA
   obtain ⟨ad326, e326, hx326_0, hx326_1, hx326_2⟩ := at_T91 (Kd.R_reads' HO_3.out).2.2 x5_1 p326 q326
   cases e326
   replace p326 := eq_true p326
   replace q326 := eq_true q326
   go_wp2_with (first | (refine gl (some 22) Tryz.func67 #[.agg #[.string ((rd_T91 t323 x5_1).f0), .bool ((rd_T91 t323 x5_1).f1), .bool ((rd_T91 t323 x5_1).f2)]] ?_; (with_reducible refine (newelref05_word.calls k1 ((rd_T91 t323 x5_1).f0) ((rd_T91 t323 x5_1).f1) ((rd_T91 t323 x5_1).f2) t327 t328 _ (gS HG) A10.out).mono ?_); rintro e w46 ⟨rfl, hb⟩; refine ⟨_, rfl, ?_⟩; replace HO_3 := rB HO_3 hb; replace HO_4 := rB HO_4 hb; replace HB := sB hb; (try clear hb)) | (refine be 6 #[.int .i64 0, .string (⟨#[]⟩ : ByteArray)] 85 ?_; intro gb329 hg w47 hbox hb; replace HO_3 := rB HO_3 hb; replace HO_4 := Aside0.mk (Kd.R_below (Kd.R_elderB (kR HO_4) gb329 (Nat.le_of_eq hg.symm)) hb); have BK329 := Aside0.mk (hbox); have GW329 := gW hg; have GE329 := gW hg; replace HB := sB hb; clear hb hbox hg; have hcz48_0 : w47.cell? ⟨gb329, 0, none⟩ = some (.int .i64 0) := (blk_cell BK329.out 0).trans rfl; have hcz48_1 : w47.cell? ⟨gb329, 1, none⟩ = some (.string (⟨#[]⟩ : ByteArray)) := (blk_cell BK329.out 1).trans rfl; have hfz48_0 := blk_frozen BK329.out 0; have hfz48_1 := blk_frozen BK329.out 1; obtain ⟨Ao49, co49, eo49⟩ := Kd.R_slice HO_4.out; subst eo49; have p330 : 0 ≤ (0 : Int) := (by omega); have q330 : 0 < (x4_1.length : Int) := dA; obtain ⟨ad330, e330, hx330_0, hx330_1⟩ := at_T85 (Kd.R_reads' HO_4.out).2.2 0 p330 q330; cases e330; have qi330 : (0 < x4_1.length) = True := eq_true (by omega); (try rw [show ((0 : Int)).toNat = 0 from rfl] at hx330_0); (try rw [show 0 * 2 = 0 from rfl] at hx330_0); (try rw [Addr.add_zero'] at hx330_0); (try rw [show ((0 : Int)).toNat = 0 from rfl] at hx330_1); (try rw [show 0 * 2 = 0 from rfl] at hx330_1); (try rw [Addr.add_zero'] at hx330_1); have hn330_0 : ad330.block ≠ gb329 := Kd.own_blk (Kd.R_away HO_4.out (fun _ hk => hk.2)); have hn330_1 : ad330.block ≠ gb329 := Kd.own_blk (Kd.R_away HO_4.out (fun _ hk => hk.2)); replace hx330_0 := (cell_far (p := ⟨gb329, 0, none⟩) (by first | (rw [add_block]; exact hn330_0) | (show (Addr.add _ _).block ≠ _; rw [add_block]; exact hn330_0) | exact hn330_0) (.int .i64 t327)).trans hx330_0; replace hx330_1 := (cell_far (p := ⟨gb329, 0, none⟩) (by first | (rw [add_block]; exact hn330_0) | (show (Addr.add _ _).block ≠ _; rw [add_block]; exact hn330_0) | exact hn330_0) (.int .i64 t327)).trans hx330_1; replace hx330_0 := (cell_far (p := ⟨gb329, 1, none⟩) (by first | (rw [add_block]; exact hn330_1) | (show (Addr.add _ _).block ≠ _; rw [add_block]; exact hn330_1) | exact hn330_1) (.string t328)).trans hx330_0; replace hx330_1 := (cell_far (p := ⟨gb329, 1, none⟩) (by first | (rw [add_block]; exact hn330_1) | (show (Addr.add _ _).block ≠ _; rw [add_block]; exact hn330_1) | exact hn330_1) (.string t328)).trans hx330_1; clear hn330_0; clear hn330_1; replace p330 := eq_true p330; replace q330 := eq_true q330; have p343 : 0 ≤ (0 : Int) := (by omega); have q343 : 0 < (x4_1.length : Int) := dA; obtain ⟨ad343, e343, hx343_0, hx343_1⟩ := at_T85 (Kd.R_reads' HO_4.out).2.2 0 p343 q343; obtain rfl : ad330 = ad343 := (by injection e343); have qi343 : (0 < x4_1.length) = True := eq_true (by omega); (try rw [show ((0 : Int)).toNat = 0 from rfl] at hx343_0); (try rw [show 0 * 2 = 0 from rfl] at hx343_0); (try rw [Addr.add_zero'] at hx343_0); (try rw [show ((0 : Int)).toNat = 0 from rfl] at hx343_1); (try rw [show 0 * 2 = 0 from rfl] at hx343_1); (try rw [Addr.add_zero'] at hx343_1); have hn343_0 : ad330.block ≠ gb329 := Kd.own_blk (Kd.R_away HO_4.out (fun _ hk => hk.2)); have hn343_1 : ad330.block ≠ gb329 := Kd.own_blk (Kd.R_away HO_4.out (fun _ hk => hk.2)); replace hx343_0 := (cell_far (p := ⟨gb329, 0, none⟩) (by first | (rw [add_block]; exact hn343_0) | (show (Addr.add _ _).block ≠ _; rw [add_block]; exact hn343_0) | exact hn343_0) (.int .i64 t327)).trans hx343_0; replace hx343_1 := (cell_far (p := ⟨gb329, 0, none⟩) (by first | (rw [add_block]; exact hn343_0) | (show (Addr.add _ _).block ≠ _; rw [add_block]; exact hn343_0) | exact hn343_0) (.int .i64 t327)).trans hx343_1; replace hx343_0 := (cell_far (p := ⟨gb329, 1, none⟩) (by first | (rw [add_block]; exact hn343_1) | (show (Addr.add _ _).block ≠ _; rw [add_block]; exact hn343_1) | exact hn343_1) (.string t328)).trans hx343_0; replace hx343_1 := (cell_far (p := ⟨gb329, 1, none⟩) (by first | (rw [add_block]; exact hn343_1) | (show (Addr.add _ _).block ≠ _; rw [add_block]; exact hn343_1) | exact hn343_1) (.string t328)).trans hx343_1; clear hn343_0; clear hn343_1; replace p343 := eq_true p343; replace q343 := eq_true q343) | ((with_reducible refine gate_dst (N := 48) rfl ?_); refine Kd.R_lit k85 _ 85 ?hg (N := 48) ?hd (xs := ([(⟨t327, t328⟩ : S85)] : List (S85))) (inner := [.int .i64 t327, .string t328]) (ok := fun _ => True) (okp := fun _ => True) ?hr ?hp (fun _ hk => hk) trivial (Below.refl _ _) (Nat.le_refl _) (by simp) ?_; (case hd => rfl); (case hg => rfl); (case hr => first | (go_simp; done) | (go_simp; rfl)); (case hp => exact (Reps.c2 (show Kd.M k85 _ _ _ (⟨t327, t328⟩ : S85) [.int .i64 t327, .string t328] from (k85_mkM _ _ _ (⟨t327, t328⟩ : S85) )) (Reps.none _ _))); intro v351 w50 ho51 hb hg_ hnew_; clear hg_ hnew_; (first | rw [← Ny350.out] at ho51 | (simp only [Int.reduceToNat] at ho51; rw [← Ny350.out] at ho51)); replace HO_3 := Aside0.mk (Kd.R_below (by (with_reducible repeat (first | apply Kd.R_alloc | apply Kd.R_drewN | apply Kd.R_drew)); exact (Kd.R_mono (Kd.R_far (p := ⟨gb329, 1, none⟩) (Kd.R_far (p := ⟨gb329, 0, none⟩) (Kd.R_types HO_3.out BK329.out (by decide)) (fun _ hk => hk.2) (.int .i64 t327)) (fun _ hk => hk.2) (.string t328)) (fun _ h_ => h_.1))) hb); have HO352 := Aside0.mk (Kd.R_lower (Kd.R_newB (Kd.R_new' ho51 (Kd.R_lt (by (with_reducible repeat (first | apply Kd.R_alloc | apply Kd.R_drewN | apply Kd.R_drew)); exact (Kd.R_mono (Kd.R_far (p := ⟨gb329, 1, none⟩) (Kd.R_far (p := ⟨gb329, 0, none⟩) (Kd.R_mono HO_4.out (fun k_ hk => (⟨hk, hk.2⟩ : _ ∧ k_ ≠ gb329))) (fun _ hk => hk.2) (.int .i64 t327)) (fun _ hk => hk.2) (.string t328)) (fun _ h_ => h_.1))))) (g := gb329) (o := .cells #[.int .i64 t327, .string t328] 85 (0, 0)) (bP BK329)) (below_size bG)); replace HO_4 := Aside0.mk (Kd.R_elder' (by (with_reducible repeat (first | apply Kd.R_alloc | apply Kd.R_drewN | apply Kd.R_drew)); exact (Kd.R_mono (Kd.R_far (p := ⟨gb329, 1, none⟩) (Kd.R_far (p := ⟨gb329, 0, none⟩) (Kd.R_mono HO_4.out (fun k_ hk => (⟨hk, hk.2⟩ : _ ∧ k_ ≠ gb329))) (fun _ hk => hk.2) (.int .i64 t327)) (fun _ hk => hk.2) (.string t328)) (fun _ h_ => h_.1))) (Kd.R_base ho51) hb); replace BK329 := Aside0.mk (blk_below (g := gb329) (o := .cells #[.int .i64 t327, .string t328] 85 (0, 0)) (bP BK329) hb); replace HB := sB hb; clear hb ho51) | ((with_reducible refine gate_builtin (b := .append) (xs := #[.tmp 48, .tmp 49]) rfl ?_); at_builtin; refine Kd.R_append_rows k85 (w0 := w) w.heap.size rfl (.tmp 48) (.tmp 49) 71 85 (.agg #[(.int .i64 0), (.string ⟨#[]⟩)]) 24 rfl Tryz.underlying71 info85 rfl (by decide) (by omega) v351 y350 x4_1 _ _ _ (fun k_ => some k_ ≠ (.slice (some ad330) x4_1.length co49 : Value).ownBlock ∧ k_ ≠ gb329) (fun _ => False) rfl rfl ?aO ?aR (fun _ _ h => h) (fun _ h => h.elim) ?aF ?aB ?aS ?aL ?_; (case aR => repeat (first | exact (Kd.R_reads' HO_4.out).2.2 | (with_reducible refine Kd.C_alloc ?_ _) | (with_reducible refine Kd.C_drewN ?_ _) | (with_reducible refine Kd.C_drew ?_))); (case aB => exact bG); (case aF => exact (fun k_ hk => ⟨Kd.fresh' (Kd.R_lt (kR HO_4)) k_ hk, Kd.freshB (g := gb329) (o := .cells #[.int .i64 t327, .string t328] 85 (0, 0)) (bK BK329) k_ hk⟩)); (case aO => exact (by (with_reducible repeat (first | apply Kd.R_alloc | apply Kd.R_drewN | apply Kd.R_drew)); exact Kd.R_mono HO352.out (fun _ hk => ⟨hk.1.2, hk.2⟩))); (case aS => exact (below_size bG)); (case aL => have := LMc45.out; omega); intro v354 w52 ho hb hg hat; rw [← Ny353.out] at ho; replace HO_3 := Aside0.mk (Kd.R_over' (kR HO_3) (Kd.R_typed (kR HO352)) (by decide) hg); replace HO_4 := Aside0.mk (Kd.R_after (ok := (fun k_ => k_ ≠ gb329)) (by (with_reducible repeat (first | apply Kd.R_alloc | apply Kd.R_drewN | apply Kd.R_drew)); exact Kd.R_mono HO_4.out (fun _ hk => ⟨hk.1.2, hk.2⟩)) hg hat); replace BK329 := Aside0.mk (blk_grown (g := gb329) (o := .cells #[.int .i64 t327, .string t328] 85 (0, 0)) (bK BK329) hg (Kd.R_away HO352.out (fun _ hk => hk.2))); replace HB := Aside0.mk (hb); have HO355 := Aside0.mk (ho); clear HO352; clear ho hb hg hat))
   go_roundg k1
   case measure => have := HK1.out; omega
   case rel => exact ⟨(y353), (wrap64 (x5_1 - 1)), cA, H', ⟨by have := HK1.out; omega⟩, ⟨kR HO_3⟩, ⟨by (with_reducible repeat (first | apply Kd.R_alloc | apply Kd.R_drewN | apply Kd.R_drew)); exact Kd.R_mono HO355.out (fun _ hk => trivial)⟩, ⟨bG⟩⟩
  rw [if_pos c31] at H
  obtain ⟨c31b0, c31b1⟩ := eqT c31
  clear c31
  by_cases c32 : (((rd_T85 x4_1 0).f0) = 10)
  rotate_left
  ·rw [if_neg c32] at H
   obtain ⟨c32b0, c32b1⟩ := eqF c32
   have H' := Aside0.mk H
   clear H
   have p326 : 0 ≤ (x5_1 : Int) := dA
   have q326 : x5_1 < (t323.length : Int) := dA
   obtain ⟨ad326, e326, hx326_0, hx326_1, hx326_2⟩ := at_T91 (Kd.R_reads' HO_3.out).2.2 x5_1 p326 q326
   cases e326
   replace p326 := eq_true p326
   replace q326 := eq_true q326
   go_wp2_with (first | (refine gl (some 22) Tryz.func67 #[.agg #[.string ((rd_T91 t323 x5_1).f0), .bool ((rd_T91 t323 x5_1).f1), .bool ((rd_T91 t323 x5_1).f2)]] ?_; (with_reducible refine (newelref05_word.calls k1 ((rd_T91 t323 x5_1).f0) ((rd_T91 t323 x5_1).f1) ((rd_T91 t323 x5_1).f2) t327 t328 _ (gS HG) A10.out).mono ?_); rintro e w41 ⟨rfl, hb⟩; refine ⟨_, rfl, ?_⟩; replace HO_3 := rB HO_3 hb; replace HO_4 := rB HO_4 hb; replace HB := sB hb; (try clear hb)) | (refine be 6 #[.int .i64 0, .string (⟨#[]⟩ : ByteArray)] 85 ?_; intro gb329 hg w42 hbox hb; replace HO_3 := rB HO_3 hb; replace HO_4 := Aside0.mk (Kd.R_below (Kd.R_elderB (kR HO_4) gb329 (Nat.le_of_eq hg.symm)) hb); have BK329 := Aside0.mk (hbox); have GW329 := gW hg; have GE329 := gW hg; replace HB := sB hb; clear hb hbox hg; have hcz43_0 : w42.cell? ⟨gb329, 0, none⟩ = some (.int .i64 0) := (blk_cell BK329.out 0).trans rfl; have hcz43_1 : w42.cell? ⟨gb329, 1, none⟩ = some (.string (⟨#[]⟩ : ByteArray)) := (blk_cell BK329.out 1).trans rfl; have hfz43_0 := blk_frozen BK329.out 0; have hfz43_1 := blk_frozen BK329.out 1; obtain ⟨Ao44, co44, eo44⟩ := Kd.R_slice HO_4.out; subst eo44; have p330 : 0 ≤ (0 : Int) := (by omega); have q330 : 0 < (x4_1.length : Int) := dA; obtain ⟨ad330, e330, hx330_0, hx330_1⟩ := at_T85 (Kd.R_reads' HO_4.out).2.2 0 p330 q330; cases e330; have qi330 : (0 < x4_1.length) = True := eq_true (by omega); (try rw [show ((0 : Int)).toNat = 0 from rfl] at hx330_0); (try rw [show 0 * 2 = 0 from rfl] at hx330_0); (try rw [Addr.add_zero'] at hx330_0); (try rw [show ((0 : Int)).toNat = 0 from rfl] at hx330_1); (try rw [show 0 * 2 = 0 from rfl] at hx330_1); (try rw [Addr.add_zero'] at hx330_1); have hn330_0 : ad330.block ≠ gb329 := Kd.own_blk (Kd.R_away HO_4.out (fun _ hk => hk.2)); have hn330_1 : ad330.block ≠ gb329 := Kd.own_blk (Kd.R_away HO_4.out (fun _ hk => hk.2)); replace hx330_0 := (cell_far (p := ⟨gb329, 0, none⟩) (by first | (rw [add_block]; exact hn330_0) | (show (Addr.add _ _).block ≠ _; rw [add_block]; exact hn330_0) | exact hn330_0) (.int .i64 t327)).trans hx330_0; replace hx330_1 := (cell_far (p := ⟨gb329, 0, none⟩) (by first | (rw [add_block]; exact hn330_0) | (show (Addr.add _ _).block ≠ _; rw [add_block]; exact hn330_0) | exact hn330_0) (.int .i64 t327)).trans hx330_1; replace hx330_0 := (cell_far (p := ⟨gb329, 1, none⟩) (by first | (rw [add_block]; exact hn330_1) | (show (Addr.add _ _).block ≠ _; rw [add_block]; exact hn330_1) | exact hn330_1) (.string t328)).trans hx330_0; replace hx330_1 := (cell_far (p := ⟨gb329, 1, none⟩) (by first | (rw [add_block]; exact hn330_1) | (show (Addr.add _ _).block ≠ _; rw [add_block]; exact hn330_1) | exact hn330_1) (.string t328)).trans hx330_1; clear hn330_0; clear hn330_1; replace p330 := eq_true p330; replace q330 := eq_true q330; have p343 : 0 ≤ (0 : Int) := (by omega); have q343 : 0 < (x4_1.length : Int) := dA; obtain ⟨ad343, e343, hx343_0, hx343_1⟩ := at_T85 (Kd.R_reads' HO_4.out).2.2 0 p343 q343; obtain rfl : ad330 = ad343 := (by injection e343); have qi343 : (0 < x4_1.length) = True := eq_true (by omega); (try rw [show ((0 : Int)).toNat = 0 from rfl] at hx343_0); (try rw [show 0 * 2 = 0 from rfl] at hx343_0); (try rw [Addr.add_zero'] at hx343_0); (try rw [show ((0 : Int)).toNat = 0 from rfl] at hx343_1); (try rw [show 0 * 2 = 0 from rfl] at hx343_1); (try rw [Addr.add_zero'] at hx343_1); have hn343_0 : ad330.block ≠ gb329 := Kd.own_blk (Kd.R_away HO_4.out (fun _ hk => hk.2)); have hn343_1 : ad330.block ≠ gb329 := Kd.own_blk (Kd.R_away HO_4.out (fun _ hk => hk.2)); replace hx343_0 := (cell_far (p := ⟨gb329, 0, none⟩) (by first | (rw [add_block]; exact hn343_0) | (show (Addr.add _ _).block ≠ _; rw [add_block]; exact hn343_0) | exact hn343_0) (.int .i64 t327)).trans hx343_0; replace hx343_1 := (cell_far (p := ⟨gb329, 0, none⟩) (by first | (rw [add_block]; exact hn343_0) | (show (Addr.add _ _).block ≠ _; rw [add_block]; exact hn343_0) | exact hn343_0) (.int .i64 t327)).trans hx343_1; replace hx343_0 := (cell_far (p := ⟨gb329, 1, none⟩) (by first | (rw [add_block]; exact hn343_1) | (show (Addr.add _ _).block ≠ _; rw [add_block]; exact hn343_1) | exact hn343_1) (.string t328)).trans hx343_0; replace hx343_1 := (cell_far (p := ⟨gb329, 1, none⟩) (by first | (rw [add_block]; exact hn343_1) | (show (Addr.add _ _).block ≠ _; rw [add_block]; exact hn343_1) | exact hn343_1) (.string t328)).trans hx343_1; clear hn343_0; clear hn343_1; replace p343 := eq_true p343; replace q343 := eq_true q343))
   go_roundg k1
   case measure => have := HK1.out; omega
   case rel => exact ⟨(x4_1), (wrap64 (x5_1 - 1)), cA, H', ⟨by have := HK1.out; omega⟩, ⟨by (with_reducible repeat (first | apply Kd.R_alloc | apply Kd.R_drewN | apply Kd.R_drew)); exact Kd.R_mono (Kd.R_far (p := ⟨gb329, 1, none⟩) (Kd.R_far (p := ⟨gb329, 0, none⟩) (Kd.R_types HO_3.out BK329.out (by decide)) (fun _ hk => hk.2) (.int .i64 t327)) (fun _ hk => hk.2) (.string t328)) (fun _ hk => trivial)⟩, ⟨by (with_reducible repeat (first | apply Kd.R_alloc | apply Kd.R_drewN | apply Kd.R_drew)); exact Kd.R_mono (Kd.R_far (p := ⟨gb329, 1, none⟩) (Kd.R_far (p := ⟨gb329, 0, none⟩) (Kd.R_mono HO_4.out (fun k_ hk => (⟨hk, hk.2⟩ : _ ∧ k_ ≠ gb329))) (fun _ hk => hk.2) (.int .i64 t327)) (fun _ hk => hk.2) (.string t328)) (fun _ hk => trivial)⟩, ⟨bG⟩⟩
  rw [if_pos c32] at H
  obtain ⟨c32b0, c32b1⟩ := eqT c32
  clear c32
  obtain ⟨y344, hy344⟩ : ∃ y_ : List (S85), y_ = (([(⟨t327, t328⟩ : S85)] : List (S85))) := ⟨_, rfl⟩
  replace H : (if y344.length + x4_1.length < 5864062014805 then (newelref05_Split.l0 k1 t323 (y344 ++ x4_1) (wrap64 (x5_1 - 1))) else (none)) = some r := by first | (rw [hy344]; with_reducible exact H) | (have H2_ := (Option.bind_some _ _).symm.trans H; rw [hy344]; with_reducible exact H2_) | (have H2_ := (Option.bind_some _ _).symm.trans H; with_reducible exact H2_) | with_reducible exact H | (rw [hy344]; exact H) | exact H
  have Ny344 := Aside0.mk hy344
  clear hy344
  obtain ⟨c33, H⟩ := gp H
  have LMc33 := Aside0.mk c33
  clear c33
  obtain ⟨y347, hy347⟩ : ∃ y_ : List (S85), y_ = (y344 ++ x4_1) := ⟨_, rfl⟩
  replace H : (newelref05_Split.l0 k1 t323 y347 (wrap64 (x5_1 - 1))) = some r := by first | (rw [hy347]; with_reducible exact H) | (have H2_ := (Option.bind_some _ _).symm.trans H; rw [hy347]; with_reducible exact H2_) | (have H2_ := (Option.bind_some _ _).symm.trans H; with_reducible exact H2_) | with_reducible exact H | (rw [hy347]; exact H) | exact H
  have Ny347 := Aside0.mk hy347
  clear hy347
  have H' := Aside0.mk H
  clear H
  have p326 : 0 ≤ (x5_1 : Int) := dA
  have q326 : x5_1 < (t323.length : Int) := dA
  obtain ⟨ad326, e326, hx326_0, hx326_1, hx326_2⟩ := at_T91 (Kd.R_reads' HO_3.out).2.2 x5_1 p326 q326
  cases e326
  replace p326 := eq_true p326
  replace q326 := eq_true q326
  go_wp2_with (first | (refine gl (some 22) Tryz.func67 #[.agg #[.string ((rd_T91 t323 x5_1).f0), .bool ((rd_T91 t323 x5_1).f1), .bool ((rd_T91 t323 x5_1).f2)]] ?_; (with_reducible refine (newelref05_word.calls k1 ((rd_T91 t323 x5_1).f0) ((rd_T91 t323 x5_1).f1) ((rd_T91 t323 x5_1).f2) t327 t328 _ (gS HG) A10.out).mono ?_); rintro e w34 ⟨rfl, hb⟩; refine ⟨_, rfl, ?_⟩; replace HO_3 := rB HO_3 hb; replace HO_4 := rB HO_4 hb; replace HB := sB hb; (try clear hb)) | (refine be 6 #[.int .i64 0, .string (⟨#[]⟩ : ByteArray)] 85 ?_; intro gb329 hg w35 hbox hb; replace HO_3 := rB HO_3 hb; replace HO_4 := Aside0.mk (Kd.R_below (Kd.R_elderB (kR HO_4) gb329 (Nat.le_of_eq hg.symm)) hb); have BK329 := Aside0.mk (hbox); have GW329 := gW hg; have GE329 := gW hg; replace HB := sB hb; clear hb hbox hg; have hcz36_0 : w35.cell? ⟨gb329, 0, none⟩ = some (.int .i64 0) := (blk_cell BK329.out 0).trans rfl; have hcz36_1 : w35.cell? ⟨gb329, 1, none⟩ = some (.string (⟨#[]⟩ : ByteArray)) := (blk_cell BK329.out 1).trans rfl; have hfz36_0 := blk_frozen BK329.out 0; have hfz36_1 := blk_frozen BK329.out 1; obtain ⟨Ao37, co37, eo37⟩ := Kd.R_slice HO_4.out; subst eo37; have p330 : 0 ≤ (0 : Int) := (by omega); have q330 : 0 < (x4_1.length : Int) := dA; obtain ⟨ad330, e330, hx330_0, hx330_1⟩ := at_T85 (Kd.R_reads' HO_4.out).2.2 0 p330 q330; cases e330; have qi330 : (0 < x4_1.length) = True := eq_true (by omega); (try rw [show ((0 : Int)).toNat = 0 from rfl] at hx330_0); (try rw [show 0 * 2 = 0 from rfl] at hx330_0); (try rw [Addr.add_zero'] at hx330_0); (try rw [show ((0 : Int)).toNat = 0 from rfl] at hx330_1); (try rw [show 0 * 2 = 0 from rfl] at hx330_1); (try rw [Addr.add_zero'] at hx330_1); have hn330_0 : ad330.block ≠ gb329 := Kd.own_blk (Kd.R_away HO_4.out (fun _ hk => hk.2)); have hn330_1 : ad330.block ≠ gb329 := Kd.own_blk (Kd.R_away HO_4.out (fun _ hk => hk.2)); replace hx330_0 := (cell_far (p := ⟨gb329, 0, none⟩) (by first | (rw [add_block]; exact hn330_0) | (show (Addr.add _ _).block ≠ _; rw [add_block]; exact hn330_0) | exact hn330_0) (.int .i64 t327)).trans hx330_0; replace hx330_1 := (cell_far (p := ⟨gb329, 0, none⟩) (by first | (rw [add_block]; exact hn330_0) | (show (Addr.add _ _).block ≠ _; rw [add_block]; exact hn330_0) | exact hn330_0) (.int .i64 t327)).trans hx330_1; replace hx330_0 := (cell_far (p := ⟨gb329, 1, none⟩) (by first | (rw [add_block]; exact hn330_1) | (show (Addr.add _ _).block ≠ _; rw [add_block]; exact hn330_1) | exact hn330_1) (.string t328)).trans hx330_0; replace hx330_1 := (cell_far (p := ⟨gb329, 1, none⟩) (by first | (rw [add_block]; exact hn330_1) | (show (Addr.add _ _).block ≠ _; rw [add_block]; exact hn330_1) | exact hn330_1) (.string t328)).trans hx330_1; clear hn330_0; clear hn330_1; replace p330 := eq_true p330; replace q330 := eq_true q330; have p343 : 0 ≤ (0 : Int) := (by omega); have q343 : 0 < (x4_1.length : Int) := dA; obtain ⟨ad343, e343, hx343_0, hx343_1⟩ := at_T85 (Kd.R_reads' HO_4.out).2.2 0 p343 q343; obtain rfl : ad330 = ad343 := (by injection e343); have qi343 : (0 < x4_1.length) = True := eq_true (by omega); (try rw [show ((0 : Int)).toNat = 0 from rfl] at hx343_0); (try rw [show 0 * 2 = 0 from rfl] at hx343_0); (try rw [Addr.add_zero'] at hx343_0); (try rw [show ((0 : Int)).toNat = 0 from rfl] at hx343_1); (try rw [show 0 * 2 = 0 from rfl] at hx343_1); (try rw [Addr.add_zero'] at hx343_1); have hn343_0 : ad330.block ≠ gb329 := Kd.own_blk (Kd.R_away HO_4.out (fun _ hk => hk.2)); have hn343_1 : ad330.block ≠ gb329 := Kd.own_blk (Kd.R_away HO_4.out (fun _ hk => hk.2)); replace hx343_0 := (cell_far (p := ⟨gb329, 0, none⟩) (by first | (rw [add_block]; exact hn343_0) | (show (Addr.add _ _).block ≠ _; rw [add_block]; exact hn343_0) | exact hn343_0) (.int .i64 t327)).trans hx343_0; replace hx343_1 := (cell_far (p := ⟨gb329, 0, none⟩) (by first | (rw [add_block]; exact hn343_0) | (show (Addr.add _ _).block ≠ _; rw [add_block]; exact hn343_0) | exact hn343_0) (.int .i64 t327)).trans hx343_1; replace hx343_0 := (cell_far (p := ⟨gb329, 1, none⟩) (by first | (rw [add_block]; exact hn343_1) | (show (Addr.add _ _).block ≠ _; rw [add_block]; exact hn343_1) | exact hn343_1) (.string t328)).trans hx343_0; replace hx343_1 := (cell_far (p := ⟨gb329, 1, none⟩) (by first | (rw [add_block]; exact hn343_1) | (show (Addr.add _ _).block ≠ _; rw [add_block]; exact hn343_1) | exact hn343_1) (.string t328)).trans hx343_1; clear hn343_0; clear hn343_1; replace p343 := eq_true p343; replace q343 := eq_true q343) | ((with_reducible refine gate_dst (N := 48) rfl ?_); refine Kd.R_lit k85 _ 85 ?hg (N := 48) ?hd (xs := ([(⟨t327, t328⟩ : S85)] : List (S85))) (inner := [.int .i64 t327, .string t328]) (ok := fun _ => True) (okp := fun _ => True) ?hr ?hp (fun _ hk => hk) trivial (Below.refl _ _) (Nat.le_refl _) (by simp) ?_; (case hd => rfl); (case hg => rfl); (case hr => first | (go_simp; done) | (go_simp; rfl)); (case hp => exact (Reps.c2 (show Kd.M k85 _ _ _ (⟨t327, t328⟩ : S85) [.int .i64 t327, .string t328] from (k85_mkM _ _ _ (⟨t327, t328⟩ : S85) )) (Reps.none _ _))); intro v345 w38 ho39 hb hg_ hnew_; clear hg_ hnew_; (first | rw [← Ny344.out] at ho39 | (simp only [Int.reduceToNat] at ho39; rw [← Ny344.out] at ho39)); replace HO_3 := Aside0.mk (Kd.R_below (by (with_reducible repeat (first | apply Kd.R_alloc | apply Kd.R_drewN | apply Kd.R_drew)); exact (Kd.R_mono (Kd.R_far (p := ⟨gb329, 1, none⟩) (Kd.R_far (p := ⟨gb329, 0, none⟩) (Kd.R_types HO_3.out BK329.out (by decide)) (fun _ hk => hk.2) (.int .i64 t327)) (fun _ hk => hk.2) (.string t328)) (fun _ h_ => h_.1))) hb); have HO346 := Aside0.mk (Kd.R_lower (Kd.R_newB (Kd.R_new' ho39 (Kd.R_lt (by (with_reducible repeat (first | apply Kd.R_alloc | apply Kd.R_drewN | apply Kd.R_drew)); exact (Kd.R_mono (Kd.R_far (p := ⟨gb329, 1, none⟩) (Kd.R_far (p := ⟨gb329, 0, none⟩) (Kd.R_mono HO_4.out (fun k_ hk => (⟨hk, hk.2⟩ : _ ∧ k_ ≠ gb329))) (fun _ hk => hk.2) (.int .i64 t327)) (fun _ hk => hk.2) (.string t328)) (fun _ h_ => h_.1))))) (g := gb329) (o := .cells #[.int .i64 t327, .string t328] 85 (0, 0)) (bP BK329)) (below_size bG)); replace HO_4 := Aside0.mk (Kd.R_elder' (by (with_reducible repeat (first | apply Kd.R_alloc | apply Kd.R_drewN | apply Kd.R_drew)); exact (Kd.R_mono (Kd.R_far (p := ⟨gb329, 1, none⟩) (Kd.R_far (p := ⟨gb329, 0, none⟩) (Kd.R_mono HO_4.out (fun k_ hk => (⟨hk, hk.2⟩ : _ ∧ k_ ≠ gb329))) (fun _ hk => hk.2) (.int .i64 t327)) (fun _ hk => hk.2) (.string t328)) (fun _ h_ => h_.1))) (Kd.R_base ho39) hb); replace BK329 := Aside0.mk (blk_below (g := gb329) (o := .cells #[.int .i64 t327, .string t328] 85 (0, 0)) (bP BK329) hb); replace HB := sB hb; clear hb ho39) | ((with_reducible refine gate_builtin (b := .append) (xs := #[.tmp 48, .tmp 49]) rfl ?_); at_builtin; refine Kd.R_append_rows k85 (w0 := w) w.heap.size rfl (.tmp 48) (.tmp 49) 71 85 (.agg #[(.int .i64 0), (.string ⟨#[]⟩)]) 24 rfl Tryz.underlying71 info85 rfl (by decide) (by omega) v345 y344 x4_1 _ _ _ (fun k_ => some k_ ≠ (.slice (some ad330) x4_1.length co37 : Value).ownBlock ∧ k_ ≠ gb329) (fun _ => False) rfl rfl ?aO ?aR (fun _ _ h => h) (fun _ h => h.elim) ?aF ?aB ?aS ?aL ?_; (case aR => repeat (first | exact (Kd.R_reads' HO_4.out).2.2 | (with_reducible refine Kd.C_alloc ?_ _) | (with_reducible refine Kd.C_drewN ?_ _) | (with_reducible refine Kd.C_drew ?_))); (case aB => exact bG); (case aF => exact (fun k_ hk => ⟨Kd.fresh' (Kd.R_lt (kR HO_4)) k_ hk, Kd.freshB (g := gb329) (o := .cells #[.int .i64 t327, .string t328] 85 (0, 0)) (bK BK329) k_ hk⟩)); (case aO => exact (by (with_reducible repeat (first | apply Kd.R_alloc | apply Kd.R_drewN | apply Kd.R_drew)); exact Kd.R_mono HO346.out (fun _ hk => ⟨hk.1.2, hk.2⟩))); (case aS => exact (below_size bG)); (case aL => have := LMc33.out; omega); intro v348 w40 ho hb hg hat; rw [← Ny347.out] at ho; replace HO_3 := Aside0.mk (Kd.R_over' (kR HO_3) (Kd.R_typed (kR HO346)) (by decide) hg); replace HO_4 := Aside0.mk (Kd.R_after (ok := (fun k_ => k_ ≠ gb329)) (by (with_reducible repeat (first | apply Kd.R_alloc | apply Kd.R_drewN | apply Kd.R_drew)); exact Kd.R_mono HO_4.out (fun _ hk => ⟨hk.1.2, hk.2⟩)) hg hat); replace BK329 := Aside0.mk (blk_grown (g := gb329) (o := .cells #[.int .i64 t327, .string t328] 85 (0, 0)) (bK BK329) hg (Kd.R_away HO346.out (fun _ hk => hk.2))); replace HB := Aside0.mk (hb); have HO349 := Aside0.mk (ho); clear HO346; clear ho hb hg hat))
  go_roundg k1
  case measure => have := HK1.out; omega
  case rel => exact ⟨(y347), (wrap64 (x5_1 - 1)), cA, H', ⟨by have := HK1.out; omega⟩, ⟨kR HO_3⟩, ⟨by (with_reducible repeat (first | apply Kd.R_alloc | apply Kd.R_drewN | apply Kd.R_drew)); exact Kd.R_mono HO349.out (fun _ hk => trivial)⟩, ⟨bG⟩⟩
def newelref05_Compare.f (k : Nat) (a0 : ByteArray) (a1 : ByteArray) : Option (Int) := (newelref05_Split.f k a0).bind fun t372 => ((newelref05_Split.f k a1).bind fun t375 => ((newelref05_Words.f k t372 t375).bind fun t378 => (some t378)))
theorem newelref05_Compare.mono : ∀ a0 a1 k, LeO (newelref05_Compare.f k a0 a1) (newelref05_Compare.f (k + 1) a0 a1) := by
 intro a0 a1 k
 unfold newelref05_Compare.f
 have m0 := @newelref05_Split.mono
 have m1 := @newelref05_Words.mono
 exact mo
theorem newelref05_Compare.calls (k : Nat) (a0 : ByteArray) (a1 : ByteArray) (r : Int) (w : World) (hG : Glob w) (h : newelref05_Compare.f k a0 a1 = some r) :
 Calls Tryz.prog 31 #[.string a0, .string a1] w fun e w' => e = .returned (.int .i64 r) ∧ Below w.heap.size w w' := by
 have HG := Aside0.mk hG
 clear hG
 have HB := Aside0.mk (Below.refl w.heap.size w)
 have H : ((newelref05_Split.f k a0).bind fun t372 => ((newelref05_Split.f k a1).bind fun t375 => ((newelref05_Words.f k t372 t375).bind fun t378 => (some t378)))) = some r := h
 clear h
 replace H := bi H
 obtain ⟨t372, A30, H⟩ := H
 try dsimp only at H
 have A3 := Aside0.mk A30
 clear A30
 replace H := bi H
 obtain ⟨t375, A40, H⟩ := H
 try dsimp only at H
 have A4 := Aside0.mk A40
 clear A40
 replace H := bi H
 obtain ⟨t378, A50, H⟩ := H
 try dsimp only at H
 have A5 := Aside0.mk A50
 clear A50
 obtain rfl := Option.some.inj H
 go_enter Tryz.func31, Tryz.ntmps31
 go_wp2_with (first | (refine gl (some 6) Tryz.func47 #[.string a0] ?_; (with_reducible refine (newelref05_Split.calls k a0 t372 _ (gS HG) A3.out).mono ?_); rintro e w6 ⟨v373, rfl, ho0, hb⟩; refine ⟨_, rfl, ?_⟩; have HO374 := Aside0.mk (Kd.R_lower ho0 (below_size bE)); replace HB := sB hb; (try clear hb); (try clear ho0)) | (refine gl (some 8) Tryz.func47 #[.string a1] ?_; (with_reducible refine (newelref05_Split.calls k a1 t375 _ (gS HG) A4.out).mono ?_); rintro e w7 ⟨v376, rfl, ho0, hb⟩; refine ⟨_, rfl, ?_⟩; have HO377 := Aside0.mk (Kd.R_lower (Kd.R_new' ho0 (Kd.R_lt (kR HO374))) (below_size bE)); replace HO374 := Aside0.mk (Kd.R_elder' (kR HO374) (Kd.R_base ho0) hb); replace HB := sB hb; (try clear hb); (try clear ho0); obtain ⟨Ao8, co8, eo8⟩ := Kd.R_slice HO374.out; subst eo8; obtain ⟨Ao9, co9, eo9⟩ := Kd.R_slice HO377.out; subst eo9) | (refine gl (some 9) Tryz.func46 #[.slice Ao8 t372.length co8, .slice Ao9 t375.length co9] ?_; (with_reducible refine (newelref05_Words.calls k _ _ t372 _ _ t375 t378 _ ?side1 ?side2 ?side3 ?side4 (gS HG) A5.out).mono ?_); (case side1 => repeat (first | exact (Kd.R_reads' HO374.out).2.2 | (with_reducible refine Kd.C_alloc ?_ _) | (with_reducible refine Kd.C_drewN ?_ _) | (with_reducible refine Kd.C_drew ?_))); (case side2 => exact (Kd.R_reads' HO374.out).2.1); (case side3 => repeat (first | exact (Kd.R_reads' HO377.out).2.2 | (with_reducible refine Kd.C_alloc ?_ _) | (with_reducible refine Kd.C_drewN ?_ _) | (with_reducible refine Kd.C_drew ?_))); (case side4 => exact (Kd.R_reads' HO377.out).2.1); rintro e w10 ⟨rfl, hb⟩; refine ⟨_, rfl, ?_⟩; replace HO374 := rB HO374 hb; replace HO377 := rB HO377 hb; replace HB := sB hb; (try clear hb)))
 go_ret
 exact ⟨eA, bE⟩
def newelref05_May.j0 : Nat → Bool → ByteArray → ByteArray → Bool → Bool → Option (Bool)
 | 0, _, _, _, _, _ => none
 | k + 1, x41, x380000, x380001, x380002, x380003 => if x41 = true then (some false) else (if x380000.toList = ([] : List UInt8) then (some true) else (if x380001.toList = ([] : List UInt8) then (some true) else ((newelref05_Compare.f k x380000 x380001).bind fun t383 => (if t383 < 0 then (some true) else (if t383 = 0 then (if x380002 = true then (some x380003) else (some false)) else (some false))))))
def newelref05_May.f (k : Nat) (a0_0 : ByteArray) (a0_1 : ByteArray) (a0_2 : Bool) (a0_3 : Bool) : Option (Bool) := if a0_0.toList = ([] : List UInt8) then (if a0_1.toList = ([] : List UInt8) then (if a0_2 = true then (newelref05_May.j0 k true a0_0 a0_1 a0_2 a0_3) else (newelref05_May.j0 k a0_3 a0_0 a0_1 a0_2 a0_3)) else ((newelref05_Right.f k a0_1).bind fun t380 => (if t380 = true then (if a0_2 = true then (newelref05_May.j0 k true a0_0 a0_1 a0_2 a0_3) else (newelref05_May.j0 k false a0_0 a0_1 a0_2 a0_3)) else (newelref05_May.j0 k true a0_0 a0_1 a0_2 a0_3)))) else ((newelref05_Right.f k a0_0).bind fun t381 => (if t381 = true then (if a0_1.toList = ([] : List UInt8) then (newelref05_May.j0 k a0_3 a0_0 a0_1 a0_2 a0_3) else ((newelref05_Right.f k a0_1).bind fun t382 => (if t382 = true then (newelref05_May.j0 k false a0_0 a0_1 a0_2 a0_3) else (newelref05_May.j0 k true a0_0 a0_1 a0_2 a0_3)))) else (newelref05_May.j0 k true a0_0 a0_1 a0_2 a0_3)))
theorem newelref05_May.mono_l : ∀ k, (∀ y0 y1 y2 y3 y4, LeO (newelref05_May.j0 k y0 y1 y2 y3 y4) (newelref05_May.j0 (k + 1) y0 y1 y2 y3 y4))
 | 0 => fun _ _ _ _ _ r h => by simp [newelref05_May.j0] at h
 | k + 1 => by
  have ih0 := newelref05_May.mono_l k
  ·intro y0 y1 y2 y3 y4
   unfold newelref05_May.j0
   have m0 := @newelref05_Compare.mono
   have m1 := @newelref05_Right.mono
   exact mo
theorem newelref05_May.mono : ∀ a0 a1 a2 a3 k, LeO (newelref05_May.f k a0 a1 a2 a3) (newelref05_May.f (k + 1) a0 a1 a2 a3) := by
 intro a0 a1 a2 a3 k
 have ih0 := newelref05_May.mono_l k
 unfold newelref05_May.f
 have m0 := @newelref05_Compare.mono
 have m1 := @newelref05_Right.mono
 exact mo
theorem newelref05_May.calls (k : Nat) (a0_0 : ByteArray) (a0_1 : ByteArray) (a0_2 : Bool) (a0_3 : Bool) (r : Bool) (w : World) (hG : Glob w) (h : newelref05_May.f k a0_0 a0_1 a0_2 a0_3 = some r) :
 Calls Tryz.prog 14 #[.agg #[.string a0_0, .string a0_1, .bool a0_2, .bool a0_3]] w fun e w' => e = .returned (.bool r) ∧ Below w.heap.size w w' := by
 have hu30 := Tryz.underlying30
 have HG := Aside0.mk hG
 clear hG
 have HB := Aside0.mk (Below.refl w.heap.size w)
 have H : (if a0_0.toList = ([] : List UInt8) then (if a0_1.toList = ([] : List UInt8) then (if a0_2 = true then (newelref05_May.j0 k true a0_0 a0_1 a0_2 a0_3) else (newelref05_May.j0 k a0_3 a0_0 a0_1 a0_2 a0_3)) else ((newelref05_Right.f k a0_1).bind fun t380 => (if t380 = true then (if a0_2 = true then (newelref05_May.j0 k true a0_0 a0_1 a0_2 a0_3) else (newelref05_May.j0 k false a0_0 a0_1 a0_2 a0_3)) else (newelref05_May.j0 k true a0_0 a0_1 a0_2 a0_3)))) else ((newelref05_Right.f k a0_0).bind fun t381 => (if t381 = true then (if a0_1.toList = ([] : List UInt8) then (newelref05_May.j0 k a0_3 a0_0 a0_1 a0_2 a0_3) else ((newelref05_Right.f k a0_1).bind fun t382 => (if t382 = true then (newelref05_May.j0 k false a0_0 a0_1 a0_2 a0_3) else (newelref05_May.j0 k true a0_0 a0_1 a0_2 a0_3)))) else (newelref05_May.j0 k true a0_0 a0_1 a0_2 a0_3)))) = some r := h
 clear h
 have HC2 := Aside0.mk H
 clear H
 go_enter Tryz.func14, Tryz.ntmps14
 go_upto_region 1 with (first | (refine be 1 #[.string a0_0, .string a0_1, .bool a0_2, .bool a0_3] 30 ?_; intro gb379 hg w3 hbox hb; have BK379 := Aside0.mk (hbox); have GW379 := gW hg; have GE379 := gW hg; replace HB := sB hb; clear hb hbox hg))
 (try simp only [Act.put, List.setIfInBounds_toArray, List.set_cons_zero, List.set_cons_succ])
 go_cut [41] (fun v41 wc => ∃ (kq : Nat) (x41_1 : Bool), v41 = .bool x41_1 ∧ Aside0 (newelref05_May.j0 kq x41_1 a0_0 a0_1 a0_2 a0_3 = some r) ∧ Aside0 (kq ≤ k) ∧ Aside0 (wc.heap[gb379]? = some (.cells #[.string a0_0, .string a0_1, .bool a0_2, .bool a0_3] 30 (0, 0))) ∧ Aside0 (Below w.heap.size w wc))
 case first =>
  have H := HC2.out
  clear HC2
  by_cases c4 : a0_0.toList = ([] : List UInt8)
  rotate_left
  ·rw [if_neg c4] at H
   obtain ⟨c4b0, c4b1⟩ := eqF c4
   (try (have c4b2 : a0_0.toList.isEmpty = false := by simpa using c4))
   (first | rw [c4b0] | rw [c4b2] | (simp only [i64_w, i32_w]; rw [c4b0]) | skip)
   replace H := bi H
   obtain ⟨t381, A150, H⟩ := H
   try dsimp only at H
   have A15 := Aside0.mk A150
   clear A150
   by_cases c16 : t381 = true
   rotate_left
   ·replace c16 := Bool.eq_false_iff.mpr c16
    subst c16
    replace H : (newelref05_May.j0 k true a0_0 a0_1 a0_2 a0_3) = some r := by rw [if_neg nF] at H; exact H
    have H' := Aside0.mk H
    clear H
    obtain ⟨hcz23_0, hcz23_1, hcz23_2, hcz23_3, hfz23_0, hfz23_1, hfz23_2, hfz23_3⟩ := cells4 BK379
    go_wp2_with (first | (go_at_call 30; (with_reducible refine (newelref05_Right.calls k a0_0 false _ (gS HG) A15.out).mono ?_); rintro e w' ⟨rfl, ⟨nd, rfl⟩⟩))
    go_meet
    case rel => exact ⟨_, (true), cA, H', ⟨by first | omega | exact Nat.le_refl _⟩, ⟨bK BK379⟩, ⟨bG⟩⟩
   subst c16
   replace H : (if a0_1.toList = ([] : List UInt8) then (newelref05_May.j0 k a0_3 a0_0 a0_1 a0_2 a0_3) else ((newelref05_Right.f k a0_1).bind fun t382 => (if t382 = true then (newelref05_May.j0 k false a0_0 a0_1 a0_2 a0_3) else (newelref05_May.j0 k true a0_0 a0_1 a0_2 a0_3)))) = some r := by rw [if_pos rfl] at H; exact H
   by_cases c17 : a0_1.toList = ([] : List UInt8)
   ·rw [if_pos c17] at H
    obtain ⟨c17b0, c17b1⟩ := eqT c17
    (try (have c17b2 : a0_1.toList.isEmpty = true := by simpa using c17))
    clear c17
    have H' := Aside0.mk H
    clear H
    obtain ⟨hcz18_0, hcz18_1, hcz18_2, hcz18_3, hfz18_0, hfz18_1, hfz18_2, hfz18_3⟩ := cells4 BK379
    go_wp2_with (first | (go_at_call 30; (with_reducible refine (newelref05_Right.calls k a0_0 true _ (gS HG) A15.out).mono ?_); rintro e w' ⟨rfl, ⟨nd, rfl⟩⟩))
    go_meet
    case rel => exact ⟨_, (a0_3), cA, H', ⟨by first | omega | exact Nat.le_refl _⟩, ⟨bK BK379⟩, ⟨bG⟩⟩
   rw [if_neg c17] at H
   obtain ⟨c17b0, c17b1⟩ := eqF c17
   (try (have c17b2 : a0_1.toList.isEmpty = false := by simpa using c17))
   replace H := bi H
   obtain ⟨t382, A190, H⟩ := H
   try dsimp only at H
   have A19 := Aside0.mk A190
   clear A190
   by_cases c20 : t382 = true
   ·subst c20
    replace H : (newelref05_May.j0 k false a0_0 a0_1 a0_2 a0_3) = some r := by rw [if_pos rfl] at H; exact H
    have H' := Aside0.mk H
    clear H
    obtain ⟨hcz21_0, hcz21_1, hcz21_2, hcz21_3, hfz21_0, hfz21_1, hfz21_2, hfz21_3⟩ := cells4 BK379
    go_wp2_with (first | (go_at_call 30; (with_reducible refine (newelref05_Right.calls k a0_0 true _ (gS HG) A15.out).mono ?_); rintro e w' ⟨rfl, ⟨nd, rfl⟩⟩) | (go_at_call 30; (with_reducible refine (newelref05_Right.calls k a0_1 true _ (gS HG) A19.out).mono ?_); rintro e w' ⟨rfl, ⟨nd, rfl⟩⟩))
    go_meet
    case rel => exact ⟨_, (false), cA, H', ⟨by first | omega | exact Nat.le_refl _⟩, ⟨bK BK379⟩, ⟨bG⟩⟩
   replace c20 := Bool.eq_false_iff.mpr c20
   subst c20
   replace H : (newelref05_May.j0 k true a0_0 a0_1 a0_2 a0_3) = some r := by rw [if_neg nF] at H; exact H
   have H' := Aside0.mk H
   clear H
   obtain ⟨hcz22_0, hcz22_1, hcz22_2, hcz22_3, hfz22_0, hfz22_1, hfz22_2, hfz22_3⟩ := cells4 BK379
   go_wp2_with (first | (go_at_call 30; (with_reducible refine (newelref05_Right.calls k a0_0 true _ (gS HG) A15.out).mono ?_); rintro e w' ⟨rfl, ⟨nd, rfl⟩⟩) | (go_at_call 30; (with_reducible refine (newelref05_Right.calls k a0_1 false _ (gS HG) A19.out).mono ?_); rintro e w' ⟨rfl, ⟨nd, rfl⟩⟩))
   go_meet
   case rel => exact ⟨_, (true), cA, H', ⟨by first | omega | exact Nat.le_refl _⟩, ⟨bK BK379⟩, ⟨bG⟩⟩
  rw [if_pos c4] at H
  obtain ⟨c4b0, c4b1⟩ := eqT c4
  (try (have c4b2 : a0_0.toList.isEmpty = true := by simpa using c4))
  clear c4
  (first | rw [c4b0] | rw [c4b2] | (simp only [i64_w, i32_w]; rw [c4b0]) | skip)
  by_cases c5 : a0_1.toList = ([] : List UInt8)
  ·rw [if_pos c5] at H
   obtain ⟨c5b0, c5b1⟩ := eqT c5
   (try (have c5b2 : a0_1.toList.isEmpty = true := by simpa using c5))
   clear c5
   by_cases c6 : a0_2 = true
   ·subst c6
    replace H : (newelref05_May.j0 k true a0_0 a0_1 true a0_3) = some r := by rw [if_pos rfl] at H; exact H
    have H' := Aside0.mk H
    clear H
    obtain ⟨hcz7_0, hcz7_1, hcz7_2, hcz7_3, hfz7_0, hfz7_1, hfz7_2, hfz7_3⟩ := cells4 BK379
    go_wp2
    go_meet
    case rel => exact ⟨_, (true), cA, H', ⟨by first | omega | exact Nat.le_refl _⟩, ⟨bK BK379⟩, ⟨bG⟩⟩
   replace c6 := Bool.eq_false_iff.mpr c6
   subst c6
   replace H : (newelref05_May.j0 k a0_3 a0_0 a0_1 false a0_3) = some r := by rw [if_neg nF] at H; exact H
   have H' := Aside0.mk H
   clear H
   obtain ⟨hcz8_0, hcz8_1, hcz8_2, hcz8_3, hfz8_0, hfz8_1, hfz8_2, hfz8_3⟩ := cells4 BK379
   go_wp2
   go_meet
   case rel => exact ⟨_, (a0_3), cA, H', ⟨by first | omega | exact Nat.le_refl _⟩, ⟨bK BK379⟩, ⟨bG⟩⟩
  rw [if_neg c5] at H
  obtain ⟨c5b0, c5b1⟩ := eqF c5
  (try (have c5b2 : a0_1.toList.isEmpty = false := by simpa using c5))
  replace H := bi H
  obtain ⟨t380, A90, H⟩ := H
  try dsimp only at H
  have A9 := Aside0.mk A90
  clear A90
  by_cases c10 : t380 = true
  rotate_left
  ·replace c10 := Bool.eq_false_iff.mpr c10
   subst c10
   replace H : (newelref05_May.j0 k true a0_0 a0_1 a0_2 a0_3) = some r := by rw [if_neg nF] at H; exact H
   have H' := Aside0.mk H
   clear H
   obtain ⟨hcz14_0, hcz14_1, hcz14_2, hcz14_3, hfz14_0, hfz14_1, hfz14_2, hfz14_3⟩ := cells4 BK379
   go_wp2_with (first | (go_at_call 30; (with_reducible refine (newelref05_Right.calls k a0_1 false _ (gS HG) A9.out).mono ?_); rintro e w' ⟨rfl, ⟨nd, rfl⟩⟩))
   go_meet
   case rel => exact ⟨_, (true), cA, H', ⟨by first | omega | exact Nat.le_refl _⟩, ⟨bK BK379⟩, ⟨bG⟩⟩
  subst c10
  replace H : (if a0_2 = true then (newelref05_May.j0 k true a0_0 a0_1 a0_2 a0_3) else (newelref05_May.j0 k false a0_0 a0_1 a0_2 a0_3)) = some r := by rw [if_pos rfl] at H; exact H
  by_cases c11 : a0_2 = true
  ·subst c11
   replace H : (newelref05_May.j0 k true a0_0 a0_1 true a0_3) = some r := by rw [if_pos rfl] at H; exact H
   have H' := Aside0.mk H
   clear H
   obtain ⟨hcz12_0, hcz12_1, hcz12_2, hcz12_3, hfz12_0, hfz12_1, hfz12_2, hfz12_3⟩ := cells4 BK379
   go_wp2_with (first | (go_at_call 30; (with_reducible refine (newelref05_Right.calls k a0_1 true _ (gS HG) A9.out).mono ?_); rintro e w' ⟨rfl, ⟨nd, rfl⟩⟩))
   go_meet
   case rel => exact ⟨_, (true), cA, H', ⟨by first | omega | exact Nat.le_refl _⟩, ⟨bK BK379⟩, ⟨bG⟩⟩
  replace c11 := Bool.eq_false_iff.mpr c11
  subst c11
  replace H : (newelref05_May.j0 k false a0_0 a0_1 false a0_3) = some r := by rw [if_neg nF] at H; exact H
  have H' := Aside0.mk H
  clear H
  obtain ⟨hcz13_0, hcz13_1, hcz13_2, hcz13_3, hfz13_0, hfz13_1, hfz13_2, hfz13_3⟩ := cells4 BK379
  go_wp2_with (first | (go_at_call 30; (with_reducible refine (newelref05_Right.calls k a0_1 true _ (gS HG) A9.out).mono ?_); rintro e w' ⟨rfl, ⟨nd, rfl⟩⟩))
  go_meet
  case rel => exact ⟨_, (false), cA, H', ⟨by first | omega | exact Nat.le_refl _⟩, ⟨bK BK379⟩, ⟨bG⟩⟩
 clear HC2
 try clear c1
 try clear c2
 try clear p2
 try clear c4
 try clear c4b0
 try clear c4b1
 try clear c4b2
 try clear c5
 try clear c5b0
 try clear c5b1
 try clear c5b2
 try clear c6
 try clear c10
 try clear c11
 try clear c14
 try clear c16
 try clear c17
 try clear c17b0
 try clear c17b1
 try clear c17b2
 try clear c20
 try clear hcz12_0
 try clear hcz12_1
 try clear hcz12_2
 try clear hcz12_3
 try clear hcz13_0
 try clear hcz13_1
 try clear hcz13_2
 try clear hcz13_3
 try clear hcz14_0
 try clear hcz14_1
 try clear hcz14_2
 try clear hcz14_3
 try clear hcz18_0
 try clear hcz18_1
 try clear hcz18_2
 try clear hcz18_3
 try clear hcz21_0
 try clear hcz21_1
 try clear hcz21_2
 try clear hcz21_3
 try clear hcz22_0
 try clear hcz22_1
 try clear hcz22_2
 try clear hcz22_3
 try clear hcz23_0
 try clear hcz23_1
 try clear hcz23_2
 try clear hcz23_3
 try clear hcz7_0
 try clear hcz7_1
 try clear hcz7_2
 try clear hcz7_3
 try clear hcz8_0
 try clear hcz8_1
 try clear hcz8_2
 try clear hcz8_3
 try clear hfz12_0
 try clear hfz12_1
 try clear hfz12_2
 try clear hfz12_3
 try clear hfz13_0
 try clear hfz13_1
 try clear hfz13_2
 try clear hfz13_3
 try clear hfz14_0
 try clear hfz14_1
 try clear hfz14_2
 try clear hfz14_3
 try clear hfz18_0
 try clear hfz18_1
 try clear hfz18_2
 try clear hfz18_3
 try clear hfz21_0
 try clear hfz21_1
 try clear hfz21_2
 try clear hfz21_3
 try clear hfz22_0
 try clear hfz22_1
 try clear hfz22_2
 try clear hfz22_3
 try clear hfz23_0
 try clear hfz23_1
 try clear hfz23_2
 try clear hfz23_3
 try clear hfz7_0
 try clear hfz7_1
 try clear hfz7_2
 try clear hfz7_3
 try clear hfz8_0
 try clear hfz8_1
 try clear hfz8_2
 try clear hfz8_3
 obtain ⟨kq, x41_1, rfl, HA, HJ1, BK379, HB⟩ := hcut
 cases kq with
 | zero => exact absurd HA.out (by simp [newelref05_May.j0])
 | succ kj1 =>
  have H := HA.out
  clear HA
  simp only [newelref05_May.j0] at H
  by_cases c24 : x41_1 = true
  ·subst c24
   replace H : (some false) = some r := by rw [if_pos rfl] at H; exact H
   obtain rfl := Option.some.inj H
   go_wp2
   go_ret
   exact ⟨eA, bG⟩
  replace c24 := Bool.eq_false_iff.mpr c24
  subst c24
  replace H : (if a0_0.toList = ([] : List UInt8) then (some true) else (if a0_1.toList = ([] : List UInt8) then (some true) else ((newelref05_Compare.f kj1 a0_0 a0_1).bind fun t383 => (if t383 < 0 then (some true) else (if t383 = 0 then (if a0_2 = true then (some a0_3) else (some false)) else (some false)))))) = some r := by rw [if_neg nF] at H; exact H
  by_cases c25 : a0_0.toList = ([] : List UInt8)
  ·rw [if_pos c25] at H
   obtain ⟨c25b0, c25b1⟩ := eqT c25
   (try (have c25b2 : a0_0.toList.isEmpty = true := by simpa using c25))
   clear c25
   obtain rfl := Option.some.inj H
   obtain ⟨hcz26_0, hcz26_1, hcz26_2, hcz26_3, hfz26_0, hfz26_1, hfz26_2, hfz26_3⟩ := cells4 BK379
   go_wp2
   go_ret
   exact ⟨eA, bG⟩
  rw [if_neg c25] at H
  obtain ⟨c25b0, c25b1⟩ := eqF c25
  (try (have c25b2 : a0_0.toList.isEmpty = false := by simpa using c25))
  by_cases c27 : a0_1.toList = ([] : List UInt8)
  ·rw [if_pos c27] at H
   obtain ⟨c27b0, c27b1⟩ := eqT c27
   (try (have c27b2 : a0_1.toList.isEmpty = true := by simpa using c27))
   clear c27
   obtain rfl := Option.some.inj H
   obtain ⟨hcz28_0, hcz28_1, hcz28_2, hcz28_3, hfz28_0, hfz28_1, hfz28_2, hfz28_3⟩ := cells4 BK379
   go_wp2
   go_ret
   exact ⟨eA, bG⟩
  rw [if_neg c27] at H
  obtain ⟨c27b0, c27b1⟩ := eqF c27
  (try (have c27b2 : a0_1.toList.isEmpty = false := by simpa using c27))
  replace H := bi H
  obtain ⟨t383, A290, H⟩ := H
  try dsimp only at H
  have A29 := Aside0.mk A290
  clear A290
  by_cases c30 : t383 < 0
  ·rw [if_pos c30] at H
   have c30b0 := dT c30
   clear c30
   obtain rfl := Option.some.inj H
   obtain ⟨hcz31_0, hcz31_1, hcz31_2, hcz31_3, hfz31_0, hfz31_1, hfz31_2, hfz31_3⟩ := cells4 BK379
   go_wp2_with (first | (refine gl (some 54) Tryz.func31 #[.string a0_0, .string a0_1] ?_; (with_reducible refine (newelref05_Compare.calls kj1 a0_0 a0_1 t383 _ (gS HG) A29.out).mono ?_); rintro e w32 ⟨rfl, hb⟩; refine ⟨_, rfl, ?_⟩; replace BK379 := kB BK379 hb; replace HB := sB hb; (try clear hb)))
   go_ret
   exact ⟨eA, bG⟩
  rw [if_neg c30] at H
  have c30b0 := dF c30
  clear c30
  by_cases c33 : t383 = 0
  rotate_left
  ·rw [if_neg c33] at H
   obtain ⟨c33b0, c33b1⟩ := eqF c33
   obtain rfl := Option.some.inj H
   obtain ⟨hcz41_0, hcz41_1, hcz41_2, hcz41_3, hfz41_0, hfz41_1, hfz41_2, hfz41_3⟩ := cells4 BK379
   go_wp2_with (first | (refine gl (some 54) Tryz.func31 #[.string a0_0, .string a0_1] ?_; (with_reducible refine (newelref05_Compare.calls kj1 a0_0 a0_1 t383 _ (gS HG) A29.out).mono ?_); rintro e w42 ⟨rfl, hb⟩; refine ⟨_, rfl, ?_⟩; replace BK379 := kB BK379 hb; replace HB := sB hb; (try clear hb)))
   go_ret
   exact ⟨eA, bG⟩
  rw [if_pos c33] at H
  obtain ⟨c33b0, c33b1⟩ := eqT c33
  clear c33
  by_cases c34 : a0_2 = true
  ·subst c34
   replace H : (some a0_3) = some r := by rw [if_pos rfl] at H; exact H
   obtain rfl := Option.some.inj H
   obtain ⟨hcz35_0, hcz35_1, hcz35_2, hcz35_3, hfz35_0, hfz35_1, hfz35_2, hfz35_3⟩ := cells4 BK379
   go_wp2_with (first | (refine gl (some 54) Tryz.func31 #[.string a0_0, .string a0_1] ?_; (with_reducible refine (newelref05_Compare.calls kj1 a0_0 a0_1 t383 _ (gS HG) A29.out).mono ?_); rintro e w36 ⟨rfl, hb⟩; refine ⟨_, rfl, ?_⟩; replace BK379 := kB BK379 hb; replace HB := sB hb; (try clear hb); have hcz37_0 : w36.cell? ⟨gb379, 0, none⟩ = some (.string a0_0) := (blk_cell BK379.out 0).trans rfl; have hcz37_1 : w36.cell? ⟨gb379, 1, none⟩ = some (.string a0_1) := (blk_cell BK379.out 1).trans rfl; have hcz37_2 : w36.cell? ⟨gb379, 2, none⟩ = some (.bool true) := (blk_cell BK379.out 2).trans rfl; have hcz37_3 : w36.cell? ⟨gb379, 3, none⟩ = some (.bool a0_3) := (blk_cell BK379.out 3).trans rfl; have hfz37_0 := blk_frozen BK379.out 0; have hfz37_1 := blk_frozen BK379.out 1; have hfz37_2 := blk_frozen BK379.out 2; have hfz37_3 := blk_frozen BK379.out 3))
   go_ret
   exact ⟨eA, bG⟩
  replace c34 := Bool.eq_false_iff.mpr c34
  subst c34
  replace H : (some false) = some r := by rw [if_neg nF] at H; exact H
  obtain rfl := Option.some.inj H
  obtain ⟨hcz38_0, hcz38_1, hcz38_2, hcz38_3, hfz38_0, hfz38_1, hfz38_2, hfz38_3⟩ := cells4 BK379
  go_wp2_with (first | (refine gl (some 54) Tryz.func31 #[.string a0_0, .string a0_1] ?_; (with_reducible refine (newelref05_Compare.calls kj1 a0_0 a0_1 t383 _ (gS HG) A29.out).mono ?_); rintro e w39 ⟨rfl, hb⟩; refine ⟨_, rfl, ?_⟩; replace BK379 := kB BK379 hb; replace HB := sB hb; (try clear hb); have hcz40_0 : w39.cell? ⟨gb379, 0, none⟩ = some (.string a0_0) := (blk_cell BK379.out 0).trans rfl; have hcz40_1 : w39.cell? ⟨gb379, 1, none⟩ = some (.string a0_1) := (blk_cell BK379.out 1).trans rfl; have hcz40_2 : w39.cell? ⟨gb379, 2, none⟩ = some (.bool false) := (blk_cell BK379.out 2).trans rfl; have hcz40_3 : w39.cell? ⟨gb379, 3, none⟩ = some (.bool a0_3) := (blk_cell BK379.out 3).trans rfl; have hfz40_0 := blk_frozen BK379.out 0; have hfz40_1 := blk_frozen BK379.out 1; have hfz40_2 := blk_frozen BK379.out 2; have hfz40_3 := blk_frozen BK379.out 3))
  go_ret
  exact ⟨eA, bG⟩
def newelref05_Is.f (a0 : ByteArray) : Option (Bool) := if (a0.size : Int) > 0 then (if 0 < (a0.size : Int) then (if (bt a0 0) = 91 then (some true) else (some ((bt a0 0) == 40))) else (none)) else (some false)
theorem newelref05_Is.calls (a0 : ByteArray) (r : Bool) (w : World) (hG : Glob w) (h : newelref05_Is.f a0 = some r) :
 Calls Tryz.prog 27 #[.string a0] w fun e w' => e = .returned (.bool r) ∧ Drawn0 w w' := by
 have HG := Aside0.mk hG
 clear hG
 have H : (if (a0.size : Int) > 0 then (if 0 < (a0.size : Int) then (if (bt a0 0) = 91 then (some true) else (some ((bt a0 0) == 40))) else (none)) else (some false)) = some r := h
 clear h
 by_cases c2 : (a0.size : Int) > 0
 rotate_left
 ·rw [if_neg c2] at H
  have c2b0 := dF c2
  have c2b1 : decide (0 < a0.size) = false := decide_eq_false (by omega)
  clear c2
  obtain rfl := Option.some.inj H
  go_enter Tryz.func27, Tryz.ntmps27
  go_wp2
  go_ret
  exact ⟨by first | rfl | (simp; done) | (simp [*]; done), by repeat (first | exact Drawn0.refl _ | apply Drawn0.step)⟩
 rw [if_pos c2] at H
 have c2b0 := dT c2
 have c2b1 : decide (0 < a0.size) = true := decide_eq_true (by omega)
 clear c2
 obtain ⟨c3, H⟩ := gp H
 have c3b0 := dT c3
 have c3b1 : decide (0 < a0.size) = true := decide_eq_true (by omega)
 clear c3
 by_cases c5 : (bt a0 0) = 91
 ·rw [if_pos c5] at H
  obtain ⟨c5b0, c5b1⟩ := eqT c5
  clear c5
  obtain rfl := Option.some.inj H
  have p4 : 0 ≤ (0 : Int) := (by omega)
  have q4 : 0 < a0.size := (by have : (0 : Int) < (a0.size : Int) := dA; omega)
  have hx4 : ∀ h : 0 < a0.size, ((a0[0]'h).toNat : Int) = bt a0 0 := bt_at a0 0
  clear p4
  have qi4 : (0 < (a0.size : Int)) = True := eq_true (dA)
  replace q4 := eq_true q4
  go_enter Tryz.func27, Tryz.ntmps27
  go_wp2
  go_ret
  exact ⟨by first | rfl | (simp; done) | (simp [*]; done), by repeat (first | exact Drawn0.refl _ | apply Drawn0.step)⟩
 rw [if_neg c5] at H
 obtain ⟨c5b0, c5b1⟩ := eqF c5
 obtain rfl := Option.some.inj H
 have p4 : 0 ≤ (0 : Int) := (by omega)
 have q4 : 0 < a0.size := (by have : (0 : Int) < (a0.size : Int) := dA; omega)
 have hx4 : ∀ h : 0 < a0.size, ((a0[0]'h).toNat : Int) = bt a0 0 := bt_at a0 0
 clear p4
 have qi4 : (0 < (a0.size : Int)) = True := eq_true (dA)
 replace q4 := eq_true q4
 have p6 : 0 ≤ (0 : Int) := (by omega)
 have q6 : 0 < a0.size := (by have : (0 : Int) < (a0.size : Int) := dA; omega)
 have hx6 : ∀ h : 0 < a0.size, ((a0[0]'h).toNat : Int) = bt a0 0 := bt_at a0 0
 clear p6
 have qi6 : (0 < (a0.size : Int)) = True := eq_true (dA)
 replace q6 := eq_true q6
 go_enter Tryz.func27, Tryz.ntmps27
 go_wp2
 go_ret
 exact ⟨by first | rfl | (simp; done) | (simp [*]; done), by repeat (first | exact Drawn0.refl _ | apply Drawn0.step)⟩
mutual
def newelref05_blank.j1 : Nat → ByteArray → Option (ByteArray)
 | 0, _ => none
 | k + 1, x0 => newelref05_blank.l1 k x0
def newelref05_blank.l1 : Nat → ByteArray → Option (ByteArray)
 | 0, _ => none
 | k + 1, x0 => if (x0.size : Int) > 0 then (if 0 ≤ (wrap64 ((x0.size : Int) - 1)) then (if (wrap64 ((x0.size : Int) - 1)) < (x0.size : Int) then (if (bt x0 (wrap64 ((x0.size : Int) - 1))) = 32 then (if (wrap64 ((x0.size : Int) - 1)) ≤ (x0.size : Int) then (newelref05_blank.l1 k (x0.extract 0 ((wrap64 ((x0.size : Int) - 1)) : Int).toNat)) else (none)) else (some x0)) else (none)) else (none)) else (some x0)
def newelref05_blank.l0 : Nat → ByteArray → Option (ByteArray)
 | 0, _ => none
 | k + 1, x0 => if (x0.size : Int) > 0 then (if 0 < (x0.size : Int) then (if (bt x0 0) = 32 then (if 1 ≤ (x0.size : Int) then (newelref05_blank.l0 k (x0.extract 1 x0.size)) else (none)) else (newelref05_blank.j1 k x0)) else (none)) else (newelref05_blank.j1 k x0)
end
def newelref05_blank.f (k : Nat) (a0 : ByteArray) : Option (ByteArray) := newelref05_blank.l0 k a0
theorem newelref05_blank.mono_l : ∀ k, (∀ y0, LeO (newelref05_blank.j1 k y0) (newelref05_blank.j1 (k + 1) y0)) ∧ (∀ y0, LeO (newelref05_blank.l1 k y0) (newelref05_blank.l1 (k + 1) y0)) ∧ (∀ y0, LeO (newelref05_blank.l0 k y0) (newelref05_blank.l0 (k + 1) y0))
 | 0 => ⟨fun _ r h => by simp [newelref05_blank.j1] at h, fun _ r h => by simp [newelref05_blank.l1] at h, fun _ r h => by simp [newelref05_blank.l0] at h⟩
 | k + 1 => by
  obtain ⟨ih0, ih1, ih2⟩ := newelref05_blank.mono_l k
  refine ⟨?_, ?_, ?_⟩
  ·intro y0
   unfold newelref05_blank.j1
   exact mo
  ·intro y0
   unfold newelref05_blank.l1
   exact mo
  ·intro y0
   unfold newelref05_blank.l0
   exact mo
theorem newelref05_blank.mono : ∀ a0 k, LeO (newelref05_blank.f k a0) (newelref05_blank.f (k + 1) a0) := by
 intro a0 k
 obtain ⟨ih0, ih1, ih2⟩ := newelref05_blank.mono_l k
 unfold newelref05_blank.f
 exact mo
theorem newelref05_blank.calls (k : Nat) (a0 : ByteArray) (r : ByteArray) (w : World) (hG : Glob w) (h : newelref05_blank.f k a0 = some r) :
 Calls Tryz.prog 45 #[.string a0] w fun e w' => e = .returned (.string r) ∧ Drawn0 w w' := by
 have HG := Aside0.mk hG
 clear hG
 have H : (newelref05_blank.l0 k a0) = some r := h
 clear h
 have HC2 := Aside0.mk H
 clear H
 go_enter Tryz.func45, Tryz.ntmps45
 go_upto_block 0 with (fail)
 go_cut [0] (fun v0 wc => ∃ (kq : Nat) (x0_1 : ByteArray), v0 = .string x0_1 ∧ Aside0 (newelref05_blank.j1 kq x0_1 = some r) ∧ Aside0 (kq ≤ k) ∧ Drawn0 w wc)
 case first =>
  have H := HC2.out
  clear HC2
  have H' := Aside0.mk H
  clear H
  go_wp2
  go_loopg [0] k (fun kq v0 w' => ∃ (x0_1 : ByteArray), v0 = .string x0_1 ∧ Aside0 (newelref05_blank.l0 kq x0_1 = some r) ∧ Aside0 (kq ≤ k) ∧ Drawn0 w w')
  case atStart => exact ⟨(a0), cA, H', ⟨Nat.le_refl _⟩, by repeat (first | exact Drawn0.refl _ | apply Drawn0.step)⟩
  clear H'
  try clear p2
  obtain ⟨x0_1, rfl, HA, HK1, ⟨m1, rfl⟩⟩ := hrel
  cases gk with
  | zero => exact absurd HA.out (by simp [newelref05_blank.l0])
  | succ k1 =>
   have H := HA.out
   clear HA
   simp only [newelref05_blank.l0] at H
   (try simp only [toList_lit] at H)
   by_cases c3 : (x0_1.size : Int) > 0
   rotate_left
   ·rw [if_neg c3] at H
    have c3b0 := dF c3
    have c3b1 : decide (0 < x0_1.size) = false := decide_eq_false (by omega)
    clear c3
    (first | rw [c3b0] | (simp only [i64_w, i32_w]; rw [c3b0]) | skip)
    have H' := Aside0.mk H
    clear H
    go_wp2
    go_meet
    case rel => exact ⟨_, (x0_1), cA, H', ⟨by have := HK1.out; first | omega | exact Nat.le_refl _⟩, by repeat (first | exact Drawn0.refl _ | apply Drawn0.step)⟩
   rw [if_pos c3] at H
   have c3b0 := dT c3
   have c3b1 : decide (0 < x0_1.size) = true := decide_eq_true (by omega)
   clear c3
   (first | rw [c3b0] | (simp only [i64_w, i32_w]; rw [c3b0]) | skip)
   obtain ⟨c4, H⟩ := gp H
   have c4b0 := dT c4
   have c4b1 : decide (0 < x0_1.size) = true := decide_eq_true (by omega)
   clear c4
   by_cases c6 : (bt x0_1 0) = 32
   rotate_left
   ·rw [if_neg c6] at H
    obtain ⟨c6b0, c6b1⟩ := eqF c6
    have H' := Aside0.mk H
    clear H
    have p5 : 0 ≤ (0 : Int) := (by omega)
    have q5 : 0 < x0_1.size := (by have : (0 : Int) < (x0_1.size : Int) := dA; omega)
    have hx5 : ∀ h : 0 < x0_1.size, ((x0_1[0]'h).toNat : Int) = bt x0_1 0 := bt_at x0_1 0
    clear p5
    have qi5 : (0 < (x0_1.size : Int)) = True := eq_true (dA)
    replace q5 := eq_true q5
    go_wp2
    go_meet
    case rel => exact ⟨_, (x0_1), cA, H', ⟨by have := HK1.out; first | omega | exact Nat.le_refl _⟩, by repeat (first | exact Drawn0.refl _ | apply Drawn0.step)⟩
   rw [if_pos c6] at H
   obtain ⟨c6b0, c6b1⟩ := eqT c6
   clear c6
   obtain ⟨c7, H⟩ := gp H
   have c7b0 := eq_true c7
   have c7b1 := dT c7
   clear c7
   have H' := Aside0.mk H
   clear H
   have p5 : 0 ≤ (0 : Int) := (by omega)
   have q5 : 0 < x0_1.size := (by have : (0 : Int) < (x0_1.size : Int) := dA; omega)
   have hx5 : ∀ h : 0 < x0_1.size, ((x0_1[0]'h).toNat : Int) = bt x0_1 0 := bt_at x0_1 0
   clear p5
   have qi5 : (0 < (x0_1.size : Int)) = True := eq_true (dA)
   replace q5 := eq_true q5
   go_wp2
   go_roundg k1
   case measure => have := HK1.out; omega
   case rel => exact ⟨(x0_1.extract 1 x0_1.size), cA, H', ⟨by have := HK1.out; omega⟩, by repeat (first | exact Drawn0.refl _ | apply Drawn0.step)⟩
 clear HC2
 try clear p2
 try clear c3
 try clear c3b0
 try clear c3b1
 try clear c4
 try clear c4b0
 try clear c4b1
 try clear p5
 try clear q5
 try clear hx5
 try clear qi5
 try clear c6
 try clear c6b0
 try clear c6b1
 try clear c7
 try clear c7b0
 try clear c7b1
 try clear p2
 try clear p5
 try clear q5
 obtain ⟨kq, x0_1, rfl, HA, HJ1, ⟨mc1, rfl⟩⟩ := hcut
 cases kq with
 | zero => exact absurd HA.out (by simp [newelref05_blank.j1])
 | succ kj1 =>
  have H := HA.out
  clear HA
  simp only [newelref05_blank.j1] at H
  (try simp only [toList_lit] at H)
  have H' := Aside0.mk H
  clear H
  go_wp2
  go_loopg [0] kj1 (fun kq v0 w' => ∃ (x0_2 : ByteArray), v0 = .string x0_2 ∧ Aside0 (newelref05_blank.l1 kq x0_2 = some r) ∧ Aside0 (kq ≤ kj1) ∧ Drawn0 w w')
  case atStart => exact ⟨(x0_1), cA, H', ⟨Nat.le_refl _⟩, by repeat (first | exact Drawn0.refl _ | apply Drawn0.step)⟩
  clear H'
  try clear c1
  try clear p2
  try clear c3
  try clear c3b0
  try clear c3b1
  try clear c4
  try clear c4b0
  try clear c4b1
  try clear p5
  try clear q5
  try clear hx5
  try clear qi5
  try clear c6
  try clear c6b0
  try clear c6b1
  try clear c7
  try clear c7b0
  try clear c7b1
  try clear p2
  try clear p5
  try clear q5
  obtain ⟨x0_2, rfl, HA, HK2, ⟨m2, rfl⟩⟩ := hrel
  cases gk with
  | zero => exact absurd HA.out (by simp [newelref05_blank.l1])
  | succ k2 =>
   have H := HA.out
   clear HA
   simp only [newelref05_blank.l1] at H
   (try simp only [toList_lit] at H)
   by_cases c8 : (x0_2.size : Int) > 0
   rotate_left
   ·rw [if_neg c8] at H
    have c8b0 := dF c8
    have c8b1 : decide (0 < x0_2.size) = false := decide_eq_false (by omega)
    clear c8
    obtain rfl := Option.some.inj H
    go_wp2
    go_ret
    exact ⟨by first | rfl | (simp; done) | (simp [*]; done), by repeat (first | exact Drawn0.refl _ | apply Drawn0.step)⟩
   rw [if_pos c8] at H
   have c8b0 := dT c8
   have c8b1 : decide (0 < x0_2.size) = true := decide_eq_true (by omega)
   clear c8
   obtain ⟨ji9, hji9⟩ : ∃ j_ : Int, (wrap64 ((x0_2.size : Int) - 1)) = j_ := ⟨_, rfl⟩
   rw [hji9] at H
   have hji9w : (IntKind.i64.wrap ((x0_2.size : Int) - 1)) = ji9 := (i64_w _).trans hji9
   obtain ⟨c10, H⟩ := gp H
   have c10b0 := dT c10
   clear c10
   obtain ⟨c11, H⟩ := gp H
   have c11b0 := dT c11
   clear c11
   by_cases c13 : (bt x0_2 (ji9)) = 32
   rotate_left
   ·rw [if_neg c13] at H
    obtain ⟨c13b0, c13b1⟩ := eqF c13
    obtain rfl := Option.some.inj H
    have p12 : 0 ≤ ((ji9) : Int) := dA
    have q12 : (ji9) < (x0_2.size : Int) := dA
    have hx12 := bt_at x0_2 (ji9)
    replace p12 := eq_true p12
    replace q12 := eq_true q12
    go_wp2
    go_ret
    exact ⟨by first | rfl | (simp; done) | (simp only [← hji9] <;> (first | rfl | simp)) | (simp [*]; done), by repeat (first | exact Drawn0.refl _ | apply Drawn0.step)⟩
   rw [if_pos c13] at H
   obtain ⟨c13b0, c13b1⟩ := eqT c13
   clear c13
   have c14b0 := eq_true (dA : 0 ≤ (ji9))
   obtain ⟨c15, H⟩ := gp H
   have c15b0 := eq_true c15
   have c15b1 := dT c15
   clear c15
   have H' := Aside0.mk H
   clear H
   have p12 : 0 ≤ ((ji9) : Int) := dA
   have q12 : (ji9) < (x0_2.size : Int) := dA
   have hx12 := bt_at x0_2 (ji9)
   replace p12 := eq_true p12
   replace q12 := eq_true q12
   go_wp2
   go_roundg k2
   case measure => have := HJ1.out; have := HK2.out; omega
   case rel => exact ⟨(x0_2.extract 0 ((ji9) : Int).toNat), (by first | rfl | (simp; done) | (simp only [← hji9] <;> (first | rfl | simp)) | (simp [*]; done)), H', ⟨by have := HJ1.out; have := HK2.out; omega⟩, by repeat (first | exact Drawn0.refl _ | apply Drawn0.step)⟩
def newelref05_span.l0 : Nat → ByteArray → Int → Int → Int → Int → Option (ByteArray × ByteArray × Bool × Bool × Bool)
 | 0, _, _, _, _, _ => none
 | k + 1, x0, x1, x2, x8, x9 => if x9 < (x0.size : Int) then (if 0 ≤ x9 then (if (bt x0 x9) = 44 then (if x8 < 0 then (newelref05_span.l0 k x0 x1 x2 x9 (wrap64 (x9 + 1))) else (newelref05_span.l0 k x0 x1 x2 x8 (wrap64 (x9 + 1)))) else (newelref05_span.l0 k x0 x1 x2 x8 (wrap64 (x9 + 1)))) else (none)) else (if x8 < 0 then ((newelref05_blank.f k x0).bind fun t278 => (if t278.toList = ([] : List UInt8) then (some (t278, t278, true, true, false)) else (if x1 = 91 then (some (t278, t278, true, true, (x2 == 93))) else (some (t278, t278, true, true, false))))) else (if 0 ≤ x8 then (if x8 ≤ (x0.size : Int) then ((newelref05_blank.f k (x0.extract 0 (x8 : Int).toNat)).bind fun t279 => (if 0 ≤ (wrap64 (x8 + 1)) then (if (wrap64 (x8 + 1)) ≤ (x0.size : Int) then ((newelref05_blank.f k (x0.extract ((wrap64 (x8 + 1)) : Int).toNat x0.size)).bind fun t280 => (some (t279, t280, (x1 == 91), (x2 == 93), true))) else (none)) else (none))) else (none)) else (none)))
def newelref05_span.f (k : Nat) (a0 : ByteArray) (a1 : Int) (a2 : Int) : Option (ByteArray × ByteArray × Bool × Bool × Bool) := newelref05_span.l0 k a0 a1 a2 (-1) 0
theorem newelref05_span.mono_l : ∀ k, (∀ y0 y1 y2 y3 y4, LeO (newelref05_span.l0 k y0 y1 y2 y3 y4) (newelref05_span.l0 (k + 1) y0 y1 y2 y3 y4))
 | 0 => fun _ _ _ _ _ r h => by simp [newelref05_span.l0] at h
 | k + 1 => by
  have ih0 := newelref05_span.mono_l k
  ·intro y0 y1 y2 y3 y4
   unfold newelref05_span.l0
   have m0 := @newelref05_blank.mono
   exact mo
theorem newelref05_span.mono : ∀ a0 a1 a2 k, LeO (newelref05_span.f k a0 a1 a2) (newelref05_span.f (k + 1) a0 a1 a2) := by
 intro a0 a1 a2 k
 have ih0 := newelref05_span.mono_l k
 unfold newelref05_span.f
 have m0 := @newelref05_blank.mono
 exact mo
def newelref05_span.T10 : Bool × List (List Nat × List Nat) := (true, [([], []), ([], []), ([0, 1], [0, 1]), ([2], [2]), ([], []), ([], []), ([5], [5]), ([4, 6], [4, 6]), ([7, 3], [7]), ([], []), ([9], [9]), ([], []), ([11], [11]), ([3, 8, 10, 12], [3, 8, 10, 12]), ([13, 8, 0, 1, 2, 3, 4, 5, 6, 7, 8, 9, 10, 11, 12, 13], [13]), ([14, 0, 1, 2, 3, 4, 5, 6, 7, 8, 9, 10, 11, 12, 13, 14], [])])
def newelref05_span.B10 : List Nat := [0, 0, 3, 7, 0, 0, 32, 112, 255, 0, 512, 0, 2048, 8191, 16383, 32767]
theorem newelref05_span.tab10 : rtab .any (opsOf Tryz.f28 10) = newelref05_span.T10 := by kernel_rfl
theorem newelref05_span.bits10 : waitsOk newelref05_span.T10.2 newelref05_span.B10 = true := by kernel_rfl
theorem newelref05_span.calls (k : Nat) (a0 : ByteArray) (a1 : Int) (a2 : Int) (r1 : ByteArray) (r2 : ByteArray) (r3 : Bool) (r4 : Bool) (r5 : Bool) (w : World) (hG : Glob w) (h : newelref05_span.f k a0 a1 a2 = some (r1, r2, r3, r4, r5)) :
 Calls Tryz.prog 28 #[.string a0, .int .u8 a1, .int .u8 a2] w fun e w' => e = .returned (.tuple #[.agg #[.string r1, .string r2, .bool r3, .bool r4], .bool r5]) ∧ Below w.heap.size w w' := by
 have hu30 := Tryz.underlying30
 have HG := Aside0.mk hG
 clear hG
 have HB := Aside0.mk (Below.refl w.heap.size w)
 have H : (newelref05_span.l0 k a0 a1 a2 (-1) 0) = some (r1, r2, r3, r4, r5) := h
 clear h
 have H' := Aside0.mk H
 clear H
 go_enter Tryz.func28, Tryz.ntmps28
 go_wp2_with (first | (refine be 6 #[.string (⟨#[]⟩ : ByteArray), .string (⟨#[]⟩ : ByteArray), .bool false, .bool false] 30 ?_; intro gb277 hg w4 hbox hb; have BK277 := Aside0.mk (hbox); have GW277 := gW hg; have GE277 := gW hg; replace HB := sB hb; clear hb hbox hg))
 (try simp only [Act.put, List.setIfInBounds_toArray, List.set_cons_zero, List.set_cons_succ])
 go_loopg [8, 9] k (fun kq v8 v9 w' => ∃ (x8_1 : Int) (x9_1 : Int), v8 = .int .i64 x8_1 ∧ v9 = .int .i64 x9_1 ∧ Aside0 (newelref05_span.l0 kq a0 a1 a2 x8_1 x9_1 = some (r1, r2, r3, r4, r5)) ∧ Aside0 (kq ≤ k) ∧ Aside0 (w'.heap[gb277]? = some (.cells #[.string (⟨#[]⟩ : ByteArray), .string (⟨#[]⟩ : ByteArray), .bool false, .bool false] 30 (0, 0))) ∧ Aside0 (Below w.heap.size w w'))
 case atStart => exact ⟨((-1)), (0), cA, cA, H', ⟨Nat.le_refl _⟩, ⟨bK BK277⟩, ⟨bG⟩⟩
 clear H'
 try clear c2
 try clear p2
 obtain ⟨x8_1, x9_1, rfl, rfl, HA, HK1, BK277, HB⟩ := hrel
 cases gk with
 | zero => exact absurd HA.out (by simp [newelref05_span.l0])
 | succ k1 =>
  have H := HA.out
  clear HA
  simp only [newelref05_span.l0] at H
  (try simp only [toList_lit] at H)
  by_cases c5 : x9_1 < (a0.size : Int)
  ·rw [if_pos c5] at H
   have c5b0 := dT c5
   clear c5
   obtain ⟨c6, H⟩ := gp H
   have c6b0 := dT c6
   clear c6
   by_cases c8 : (bt a0 x9_1) = 44
   rotate_left
   ·rw [if_neg c8] at H
    obtain ⟨c8b0, c8b1⟩ := eqF c8
    have H' := Aside0.mk H
    clear H
    have p7 : 0 ≤ (x9_1 : Int) := dA
    have q7 : x9_1 < (a0.size : Int) := dA
    have hx7 := bt_at a0 x9_1
    replace p7 := eq_true p7
    replace q7 := eq_true q7
    go_wp2
    go_roundg k1
    case measure => have := HK1.out; omega
    case rel => exact ⟨(x8_1), (wrap64 (x9_1 + 1)), cA, cA, H', ⟨by have := HK1.out; omega⟩, ⟨bK BK277⟩, ⟨bG⟩⟩
   rw [if_pos c8] at H
   obtain ⟨c8b0, c8b1⟩ := eqT c8
   clear c8
   by_cases c9 : x8_1 < 0
   rotate_left
   ·rw [if_neg c9] at H
    have c9b0 := dF c9
    clear c9
    have H' := Aside0.mk H
    clear H
    have p7 : 0 ≤ (x9_1 : Int) := dA
    have q7 : x9_1 < (a0.size : Int) := dA
    have hx7 := bt_at a0 x9_1
    replace p7 := eq_true p7
    replace q7 := eq_true q7
    go_wp2
    go_roundg k1
    case measure => have := HK1.out; omega
    case rel => exact ⟨(x8_1), (wrap64 (x9_1 + 1)), cA, cA, H', ⟨by have := HK1.out; omega⟩, ⟨bK BK277⟩, ⟨bG⟩⟩
   rw [if_pos c9] at H
   have c9b0 := dT c9
   clear c9
   have H' := Aside0.mk H
   clear H
   have p7 : 0 ≤ (x9_1 : Int) := dA
   have q7 : x9_1 < (a0.size : Int) := dA
   have hx7 := bt_at a0 x9_1
   replace p7 := eq_true p7
   replace q7 := eq_true q7
   go_wp2
   go_roundg k1
   case measure => have := HK1.out; omega
   case rel => exact ⟨(x9_1), (wrap64 (x9_1 + 1)), cA, cA, H', ⟨by have := HK1.out; omega⟩, ⟨bK BK277⟩, ⟨bG⟩⟩
  rw [if_neg c5] at H
  have c5b0 := dF c5
  clear c5
  by_cases c10 : x8_1 < 0
  ·rw [if_pos c10] at H
   have c10b0 := dT c10
   clear c10
   replace H := bi H
   obtain ⟨t278, A110, H⟩ := H
   try dsimp only at H
   have A11 := Aside0.mk A110
   clear A110
   by_cases c12 : t278.toList = ([] : List UInt8)
   ·rw [if_pos c12] at H
    obtain ⟨c12b0, c12b1⟩ := eqT c12
    (try (have c12b2 : t278.toList.isEmpty = true := by simpa using c12))
    clear c12
    simp only [Option.some.injEq, Prod.mk.injEq] at H
    obtain ⟨rfl, rfl, rfl, rfl, rfl⟩ := H
    go_wp2_with (first | (refine gl (some 29) Tryz.func45 #[.string a0] ?_; (with_reducible refine (newelref05_blank.calls k1 a0 t278 _ (gS HG) A11.out).mono ?_); rintro e w' ⟨rfl, ⟨nd, rfl⟩⟩; refine ⟨_, rfl, ?_⟩; (try (rw [drewN_self wr]; generalize hq_ : World.drewN wr _ = wr; have n0_ : Aside0 (wr.heap[gb277]? = some (.cells #[.string (⟨#[]⟩ : ByteArray), .string (⟨#[]⟩ : ByteArray), .bool false, .bool false] 30 (0, 0))) := ⟨by rw [← hq_]; exact (bK BK277)⟩; have n1_ : Aside0 (Below w.heap.size w wr) := ⟨by rw [← hq_]; exact bG⟩; clear BK277 HB hq_; have BK277 := n0_; have HB := n1_; clear n0_ n1_)); have hcz13_0 : wr.cell? ⟨gb277, 0, none⟩ = some (.string (⟨#[]⟩ : ByteArray)) := (blk_cell BK277.out 0).trans rfl; have hcz13_1 : wr.cell? ⟨gb277, 1, none⟩ = some (.string (⟨#[]⟩ : ByteArray)) := (blk_cell BK277.out 1).trans rfl; have hcz13_2 : wr.cell? ⟨gb277, 2, none⟩ = some (.bool false) := (blk_cell BK277.out 2).trans rfl; have hcz13_3 : wr.cell? ⟨gb277, 3, none⟩ = some (.bool false) := (blk_cell BK277.out 3).trans rfl; have hfz13_0 := blk_frozen BK277.out 0; have hfz13_1 := blk_frozen BK277.out 1; have hfz13_2 := blk_frozen BK277.out 2; have hfz13_3 := blk_frozen BK277.out 3))
    refine bodyPost_ret (results_ct rfl _ _ gb277 30 #[.string t278, .string t278, .bool true, .bool true] (0, 0) _ rfl (bP BK277) Tryz.underlying30 rfl (by kernel_rfl)) rfl ?_
    exact ⟨eA, bG⟩
   rw [if_neg c12] at H
   obtain ⟨c12b0, c12b1⟩ := eqF c12
   (try (have c12b2 : t278.toList.isEmpty = false := by simpa using c12))
   by_cases c14 : a1 = 91
   rotate_left
   ·rw [if_neg c14] at H
    obtain ⟨c14b0, c14b1⟩ := eqF c14
    simp only [Option.some.injEq, Prod.mk.injEq] at H
    obtain ⟨rfl, rfl, rfl, rfl, rfl⟩ := H
    go_wp2_with (first | (refine gl (some 29) Tryz.func45 #[.string a0] ?_; (with_reducible refine (newelref05_blank.calls k1 a0 t278 _ (gS HG) A11.out).mono ?_); rintro e w' ⟨rfl, ⟨nd, rfl⟩⟩; refine ⟨_, rfl, ?_⟩; (try (rw [drewN_self wr]; generalize hq_ : World.drewN wr _ = wr; have n0_ : Aside0 (wr.heap[gb277]? = some (.cells #[.string (⟨#[]⟩ : ByteArray), .string (⟨#[]⟩ : ByteArray), .bool false, .bool false] 30 (0, 0))) := ⟨by rw [← hq_]; exact (bK BK277)⟩; have n1_ : Aside0 (Below w.heap.size w wr) := ⟨by rw [← hq_]; exact bG⟩; clear BK277 HB hq_; have BK277 := n0_; have HB := n1_; clear n0_ n1_)); have hcz16_0 : wr.cell? ⟨gb277, 0, none⟩ = some (.string (⟨#[]⟩ : ByteArray)) := (blk_cell BK277.out 0).trans rfl; have hcz16_1 : wr.cell? ⟨gb277, 1, none⟩ = some (.string (⟨#[]⟩ : ByteArray)) := (blk_cell BK277.out 1).trans rfl; have hcz16_2 : wr.cell? ⟨gb277, 2, none⟩ = some (.bool false) := (blk_cell BK277.out 2).trans rfl; have hcz16_3 : wr.cell? ⟨gb277, 3, none⟩ = some (.bool false) := (blk_cell BK277.out 3).trans rfl; have hfz16_0 := blk_frozen BK277.out 0; have hfz16_1 := blk_frozen BK277.out 1; have hfz16_2 := blk_frozen BK277.out 2; have hfz16_3 := blk_frozen BK277.out 3))
    refine bodyPost_ret (results_ct rfl _ _ gb277 30 #[.string t278, .string t278, .bool true, .bool true] (0, 0) _ rfl (bP BK277) Tryz.underlying30 rfl (by kernel_rfl)) rfl ?_
    exact ⟨eA, bG⟩
   rw [if_pos c14] at H
   obtain ⟨c14b0, c14b1⟩ := eqT c14
   clear c14
   simp only [Option.some.injEq, Prod.mk.injEq] at H
   obtain ⟨rfl, rfl, rfl, rfl, rfl⟩ := H
   go_wp2_with (first | (refine gl (some 29) Tryz.func45 #[.string a0] ?_; (with_reducible refine (newelref05_blank.calls k1 a0 t278 _ (gS HG) A11.out).mono ?_); rintro e w' ⟨rfl, ⟨nd, rfl⟩⟩; refine ⟨_, rfl, ?_⟩; (try (rw [drewN_self wr]; generalize hq_ : World.drewN wr _ = wr; have n0_ : Aside0 (wr.heap[gb277]? = some (.cells #[.string (⟨#[]⟩ : ByteArray), .string (⟨#[]⟩ : ByteArray), .bool false, .bool false] 30 (0, 0))) := ⟨by rw [← hq_]; exact (bK BK277)⟩; have n1_ : Aside0 (Below w.heap.size w wr) := ⟨by rw [← hq_]; exact bG⟩; clear BK277 HB hq_; have BK277 := n0_; have HB := n1_; clear n0_ n1_)); have hcz15_0 : wr.cell? ⟨gb277, 0, none⟩ = some (.string (⟨#[]⟩ : ByteArray)) := (blk_cell BK277.out 0).trans rfl; have hcz15_1 : wr.cell? ⟨gb277, 1, none⟩ = some (.string (⟨#[]⟩ : ByteArray)) := (blk_cell BK277.out 1).trans rfl; have hcz15_2 : wr.cell? ⟨gb277, 2, none⟩ = some (.bool false) := (blk_cell BK277.out 2).trans rfl; have hcz15_3 : wr.cell? ⟨gb277, 3, none⟩ = some (.bool false) := (blk_cell BK277.out 3).trans rfl; have hfz15_0 := blk_frozen BK277.out 0; have hfz15_1 := blk_frozen BK277.out 1; have hfz15_2 := blk_frozen BK277.out 2; have hfz15_3 := blk_frozen BK277.out 3))
   refine bodyPost_ret (results_ct rfl _ _ gb277 30 #[.string t278, .string t278, .bool true, .bool true] (0, 0) _ rfl (bP BK277) Tryz.underlying30 rfl (by kernel_rfl)) rfl ?_
   exact ⟨eA, bG⟩
  rw [if_neg c10] at H
  have c10b0 := dF c10
  clear c10
  obtain ⟨c17, H⟩ := gp H
  have c17b0 := eq_true c17
  have c17b1 := dT c17
  clear c17
  obtain ⟨c18, H⟩ := gp H
  have c18b0 := eq_true c18
  have c18b1 := dT c18
  clear c18
  replace H := bi H
  obtain ⟨t279, A190, H⟩ := H
  try dsimp only at H
  have A19 := Aside0.mk A190
  clear A190
  obtain ⟨ji20, hji20⟩ : ∃ j_ : Int, (wrap64 (x8_1 + 1)) = j_ := ⟨_, rfl⟩
  rw [hji20] at H
  (try rw [hji20] at A19)
  have hji20w : (IntKind.i64.wrap (x8_1 + 1)) = ji20 := (i64_w _).trans hji20
  obtain ⟨c21, H⟩ := gp H
  have c21b0 := eq_true c21
  have c21b1 := dT c21
  clear c21
  obtain ⟨c22, H⟩ := gp H
  have c22b0 := eq_true c22
  have c22b1 := dT c22
  clear c22
  replace H := bi H
  obtain ⟨t280, A230, H⟩ := H
  try dsimp only at H
  have A23 := Aside0.mk A230
  clear A230
  simp only [Option.some.injEq, Prod.mk.injEq] at H
  obtain ⟨rfl, rfl, rfl, rfl, rfl⟩ := H
  try go_wp2
  replace BK277 := Aside0.mk (blk_drew BK277.out)
  replace HB := Aside0.mk (below_drew1 HB.out)
  refine start_ (n := 16) (S := fun w' => True) (ds := []) #[false, false, false, false, false, false, false, false, false, false, false, false, false, false, false, false] (by kernel_rfl) rfl rfl trivial (fun hHeld => ?_); refine with_tabW newelref05_span.tab10 newelref05_span.bits10 (fun HT_ HW_ => ?_)
  generalize wr.drew = w24 at BK277 HB hHeld ⊢
  refine pz 0 (some 43) HT_ ?_
  refine pz 1 (some 44) HT_ ?_
  refine pz 2 (some 45) HT_ ?_
  refine pz 4 (some 47) HT_ ?_
  refine pz 5 (some 48) HT_ ?_
  refine pz 6 (some 49) HT_ ?_
  refine pz 7 (some 50) HT_ ?_
  refine pz 9 (some 52) HT_ ?_
  refine pz 10 (some 53) HT_ ?_
  refine pz 11 (some 54) HT_ ?_
  refine pz 12 (some 55) HT_ ?_
  refine on 3 (some 46) HT_ (fun K hK => ?_)
  refine goes_ Tryz.func45 (by kernel_rfl) rfl #[.string (a0.extract 0 (x8_1 : Int).toNat)] (by rfl) rfl rfl mA ?_
  with_reducible refine (newelref05_blank.calls k1 (a0.extract 0 (x8_1 : Int).toNat) t279 _ (gS HG) A19.out).mono ?_
  rintro e w' ⟨rfl, ⟨nd, rfl⟩⟩
  refine ⟨_, rfl, ?_⟩
  refine hK.out _ _ trivial (fun hHeld => ?_)
  clear hK K
  refine nz (some 46) ?_
  refine on 8 (some 51) HT_ (fun K hK => ?_)
  refine goes_ Tryz.func45 (by kernel_rfl) rfl #[.string (a0.extract ((ji20) : Int).toNat a0.size)] (by rfl) rfl rfl (by (try simp only [List.map_toArray, List.map_cons, List.map_nil]); first | done | (simp only [hji20]; rfl) | rfl | (simp only [List.length_drop, List.length_take]; rfl)) ?_
  with_reducible refine (newelref05_blank.calls k1 (a0.extract ((ji20) : Int).toNat a0.size) t280 _ (gS HG) A23.out).mono ?_
  rintro e w' ⟨rfl, ⟨nd, rfl⟩⟩
  refine ⟨_, rfl, ?_⟩
  refine hK.out _ _ trivial (fun hHeld => ?_)
  clear hK K
  refine nz (some 51) ?_
  refine pz 13 (some 56) HT_ ?_
  refine on 14 (none) HT_ (fun K hK => ?_)
  have hs25 : w24.cell? ⟨gb277, 0, none⟩ = some (.string (⟨#[]⟩ : ByteArray)) := (blk_cell BK277.out 0).trans rfl
  have hfs25 := blk_frozen BK277.out 0
  have hs26 : w24.cell? ⟨gb277, 1, none⟩ = some (.string (⟨#[]⟩ : ByteArray)) := (blk_cell BK277.out 1).trans rfl
  have hfs26 := blk_frozen BK277.out 1
  have hs27 : w24.cell? ⟨gb277, 2, none⟩ = some (.bool false) := (blk_cell BK277.out 2).trans rfl
  have hfs27 := blk_frozen BK277.out 2
  have hs28 : w24.cell? ⟨gb277, 3, none⟩ = some (.bool false) := (blk_cell BK277.out 3).trans rfl
  have hfs28 := blk_frozen BK277.out 3
  refine skip_ (w1 := ?_) (by rfl) rfl ?_ ?_
  rotate_left
  ·go_simp
   rfl
  refine hK.out _ _ trivial (fun hHeld => ?_)
  clear hK K
  refine pz 15 (some 7) HT_ ?_
  refine done_ (done_of HT_.out (by kernel_rfl)) ?_
  try go_wp2
  refine bodyPost_ret (results_ct rfl _ _ gb277 30 #[.string t279, .string t280, .bool (a1 == 91), .bool (a2 == 93)] (0, 0) _ rfl (bP BK277) Tryz.underlying30 rfl (by kernel_rfl)) rfl ?_
  exact ⟨by first | rfl | (simp [errW_none, errW_some] <;> rfl) | (simp only [← hji20]; first | rfl | (simp [errW_none, errW_some] <;> rfl)) | (simp [*, errW_none, errW_some] <;> rfl), bG⟩
def newelref05_behind.f (k : Nat) (a0_0 : ByteArray) (a0_1 : ByteArray) (a0_2 : Bool) (a0_3 : Bool) (a1_0 : ByteArray) (a1_1 : ByteArray) (a1_2 : Bool) (a1_3 : Bool) : Option (Bool) := if a0_1.toList = ([] : List UInt8) then (some false) else (if a1_0.toList = ([] : List UInt8) then (some false) else ((newelref05_Compare.f k a0_1 a1_0).bind fun t386 => (if t386 < 0 then (some true) else (if t386 = 0 then (if a0_3 = true then (some (!a1_2)) else (some (!false))) else (some false)))))
theorem newelref05_behind.mono : ∀ a0 a1 a2 a3 a4 a5 a6 a7 k, LeO (newelref05_behind.f k a0 a1 a2 a3 a4 a5 a6 a7) (newelref05_behind.f (k + 1) a0 a1 a2 a3 a4 a5 a6 a7) := by
 intro a0 a1 a2 a3 a4 a5 a6 a7 k
 unfold newelref05_behind.f
 have m0 := @newelref05_Compare.mono
 exact mo
theorem newelref05_behind.calls (k : Nat) (a0_0 : ByteArray) (a0_1 : ByteArray) (a0_2 : Bool) (a0_3 : Bool) (a1_0 : ByteArray) (a1_1 : ByteArray) (a1_2 : Bool) (a1_3 : Bool) (r : Bool) (w : World) (hG : Glob w) (h : newelref05_behind.f k a0_0 a0_1 a0_2 a0_3 a1_0 a1_1 a1_2 a1_3 = some r) :
 Calls Tryz.prog 29 #[.agg #[.string a0_0, .string a0_1, .bool a0_2, .bool a0_3], .agg #[.string a1_0, .string a1_1, .bool a1_2, .bool a1_3]] w fun e w' => e = .returned (.bool r) ∧ Below w.heap.size w w' := by
 have hu30 := Tryz.underlying30
 have HG := Aside0.mk hG
 clear hG
 have HB := Aside0.mk (Below.refl w.heap.size w)
 have H : (if a0_1.toList = ([] : List UInt8) then (some false) else (if a1_0.toList = ([] : List UInt8) then (some false) else ((newelref05_Compare.f k a0_1 a1_0).bind fun t386 => (if t386 < 0 then (some true) else (if t386 = 0 then (if a0_3 = true then (some (!a1_2)) else (some (!false))) else (some false)))))) = some r := h
 clear h
 by_cases c3 : a0_1.toList = ([] : List UInt8)
 ·rw [if_pos c3] at H
  obtain ⟨c3b0, c3b1⟩ := eqT c3
  (try (have c3b2 : a0_1.toList.isEmpty = true := by simpa using c3))
  clear c3
  obtain rfl := Option.some.inj H
  go_enter Tryz.func29, Tryz.ntmps29
  go_wp2_with (first | (refine be 2 #[.string a0_0, .string a0_1, .bool a0_2, .bool a0_3] 30 ?_; intro gb384 hg w4 hbox hb; have BK384 := Aside0.mk (hbox); have GW384 := gW hg; have GE384 := gW hg; replace HB := sB hb; clear hb hbox hg) | (refine be 3 #[.string a1_0, .string a1_1, .bool a1_2, .bool a1_3] 30 ?_; intro gb385 hg w5 hbox hb; have BK385 := Aside0.mk (hbox); have GW385 := gW hg; have GE385 := gW hg; replace HB := sB hb; have NB384_385 := nL BK384 hg; have NB385_384 := nG BK384 hg; replace BK384 := kB BK384 hb; clear hb hbox hg; have hnb6 := NB384_385.out; have hnc6 := NB385_384.out; have hcz7_0 : w5.cell? ⟨gb384, 0, none⟩ = some (.string a0_0) := (blk_cell BK384.out 0).trans rfl; have hcz7_1 : w5.cell? ⟨gb384, 1, none⟩ = some (.string a0_1) := (blk_cell BK384.out 1).trans rfl; have hcz7_2 : w5.cell? ⟨gb384, 2, none⟩ = some (.bool a0_2) := (blk_cell BK384.out 2).trans rfl; have hcz7_3 : w5.cell? ⟨gb384, 3, none⟩ = some (.bool a0_3) := (blk_cell BK384.out 3).trans rfl; have hfz7_0 := blk_frozen BK384.out 0; have hfz7_1 := blk_frozen BK384.out 1; have hfz7_2 := blk_frozen BK384.out 2; have hfz7_3 := blk_frozen BK384.out 3))
  go_ret
  exact ⟨eA, bG⟩
 rw [if_neg c3] at H
 obtain ⟨c3b0, c3b1⟩ := eqF c3
 (try (have c3b2 : a0_1.toList.isEmpty = false := by simpa using c3))
 by_cases c8 : a1_0.toList = ([] : List UInt8)
 ·rw [if_pos c8] at H
  obtain ⟨c8b0, c8b1⟩ := eqT c8
  (try (have c8b2 : a1_0.toList.isEmpty = true := by simpa using c8))
  clear c8
  obtain rfl := Option.some.inj H
  go_enter Tryz.func29, Tryz.ntmps29
  go_wp2_with (first | (refine be 2 #[.string a0_0, .string a0_1, .bool a0_2, .bool a0_3] 30 ?_; intro gb384 hg w9 hbox hb; have BK384 := Aside0.mk (hbox); have GW384 := gW hg; have GE384 := gW hg; replace HB := sB hb; clear hb hbox hg) | (refine be 3 #[.string a1_0, .string a1_1, .bool a1_2, .bool a1_3] 30 ?_; intro gb385 hg w10 hbox hb; have BK385 := Aside0.mk (hbox); have GW385 := gW hg; have GE385 := gW hg; replace HB := sB hb; have NB384_385 := nL BK384 hg; have NB385_384 := nG BK384 hg; replace BK384 := kB BK384 hb; clear hb hbox hg; have hnb11 := NB384_385.out; have hnc11 := NB385_384.out; have hcz12_0 : w10.cell? ⟨gb384, 0, none⟩ = some (.string a0_0) := (blk_cell BK384.out 0).trans rfl; have hcz12_1 : w10.cell? ⟨gb384, 1, none⟩ = some (.string a0_1) := (blk_cell BK384.out 1).trans rfl; have hcz12_2 : w10.cell? ⟨gb384, 2, none⟩ = some (.bool a0_2) := (blk_cell BK384.out 2).trans rfl; have hcz12_3 : w10.cell? ⟨gb384, 3, none⟩ = some (.bool a0_3) := (blk_cell BK384.out 3).trans rfl; have hfz12_0 := blk_frozen BK384.out 0; have hfz12_1 := blk_frozen BK384.out 1; have hfz12_2 := blk_frozen BK384.out 2; have hfz12_3 := blk_frozen BK384.out 3; have hcz13_0 : w10.cell? ⟨gb385, 0, none⟩ = some (.string a1_0) := (blk_cell BK385.out 0).trans rfl; have hcz13_1 : w10.cell? ⟨gb385, 1, none⟩ = some (.string a1_1) := (blk_cell BK385.out 1).trans rfl; have hcz13_2 : w10.cell? ⟨gb385, 2, none⟩ = some (.bool a1_2) := (blk_cell BK385.out 2).trans rfl; have hcz13_3 : w10.cell? ⟨gb385, 3, none⟩ = some (.bool a1_3) := (blk_cell BK385.out 3).trans rfl; have hfz13_0 := blk_frozen BK385.out 0; have hfz13_1 := blk_frozen BK385.out 1; have hfz13_2 := blk_frozen BK385.out 2; have hfz13_3 := blk_frozen BK385.out 3))
  go_ret
  exact ⟨eA, bG⟩
 rw [if_neg c8] at H
 obtain ⟨c8b0, c8b1⟩ := eqF c8
 (try (have c8b2 : a1_0.toList.isEmpty = false := by simpa using c8))
 replace H := bi H
 obtain ⟨t386, A140, H⟩ := H
 try dsimp only at H
 have A14 := Aside0.mk A140
 clear A140
 by_cases c15 : t386 < 0
 ·rw [if_pos c15] at H
  have c15b0 := dT c15
  clear c15
  obtain rfl := Option.some.inj H
  go_enter Tryz.func29, Tryz.ntmps29
  go_wp2_with (first | (refine be 2 #[.string a0_0, .string a0_1, .bool a0_2, .bool a0_3] 30 ?_; intro gb384 hg w16 hbox hb; have BK384 := Aside0.mk (hbox); have GW384 := gW hg; have GE384 := gW hg; replace HB := sB hb; clear hb hbox hg) | (refine be 3 #[.string a1_0, .string a1_1, .bool a1_2, .bool a1_3] 30 ?_; intro gb385 hg w17 hbox hb; have BK385 := Aside0.mk (hbox); have GW385 := gW hg; have GE385 := gW hg; replace HB := sB hb; have NB384_385 := nL BK384 hg; have NB385_384 := nG BK384 hg; replace BK384 := kB BK384 hb; clear hb hbox hg; have hnb18 := NB384_385.out; have hnc18 := NB385_384.out; have hcz19_0 : w17.cell? ⟨gb384, 0, none⟩ = some (.string a0_0) := (blk_cell BK384.out 0).trans rfl; have hcz19_1 : w17.cell? ⟨gb384, 1, none⟩ = some (.string a0_1) := (blk_cell BK384.out 1).trans rfl; have hcz19_2 : w17.cell? ⟨gb384, 2, none⟩ = some (.bool a0_2) := (blk_cell BK384.out 2).trans rfl; have hcz19_3 : w17.cell? ⟨gb384, 3, none⟩ = some (.bool a0_3) := (blk_cell BK384.out 3).trans rfl; have hfz19_0 := blk_frozen BK384.out 0; have hfz19_1 := blk_frozen BK384.out 1; have hfz19_2 := blk_frozen BK384.out 2; have hfz19_3 := blk_frozen BK384.out 3; have hcz20_0 : w17.cell? ⟨gb385, 0, none⟩ = some (.string a1_0) := (blk_cell BK385.out 0).trans rfl; have hcz20_1 : w17.cell? ⟨gb385, 1, none⟩ = some (.string a1_1) := (blk_cell BK385.out 1).trans rfl; have hcz20_2 : w17.cell? ⟨gb385, 2, none⟩ = some (.bool a1_2) := (blk_cell BK385.out 2).trans rfl; have hcz20_3 : w17.cell? ⟨gb385, 3, none⟩ = some (.bool a1_3) := (blk_cell BK385.out 3).trans rfl; have hfz20_0 := blk_frozen BK385.out 0; have hfz20_1 := blk_frozen BK385.out 1; have hfz20_2 := blk_frozen BK385.out 2; have hfz20_3 := blk_frozen BK385.out 3) | (refine gl (some 18) Tryz.func31 #[.string a0_1, .string a1_0] ?_; (with_reducible refine (newelref05_Compare.calls k a0_1 a1_0 t386 _ (gS HG) A14.out).mono ?_); rintro e w21 ⟨rfl, hb⟩; refine ⟨_, rfl, ?_⟩; replace BK384 := kB BK384 hb; replace BK385 := kB BK385 hb; replace HB := sB hb; (try clear hb)))
  go_ret
  exact ⟨eA, bG⟩
 rw [if_neg c15] at H
 have c15b0 := dF c15
 clear c15
 by_cases c22 : t386 = 0
 rotate_left
 ·rw [if_neg c22] at H
  obtain ⟨c22b0, c22b1⟩ := eqF c22
  obtain rfl := Option.some.inj H
  go_enter Tryz.func29, Tryz.ntmps29
  go_wp2_with (first | (refine be 2 #[.string a0_0, .string a0_1, .bool a0_2, .bool a0_3] 30 ?_; intro gb384 hg w39 hbox hb; have BK384 := Aside0.mk (hbox); have GW384 := gW hg; have GE384 := gW hg; replace HB := sB hb; clear hb hbox hg) | (refine be 3 #[.string a1_0, .string a1_1, .bool a1_2, .bool a1_3] 30 ?_; intro gb385 hg w40 hbox hb; have BK385 := Aside0.mk (hbox); have GW385 := gW hg; have GE385 := gW hg; replace HB := sB hb; have NB384_385 := nL BK384 hg; have NB385_384 := nG BK384 hg; replace BK384 := kB BK384 hb; clear hb hbox hg; have hnb41 := NB384_385.out; have hnc41 := NB385_384.out; have hcz42_0 : w40.cell? ⟨gb384, 0, none⟩ = some (.string a0_0) := (blk_cell BK384.out 0).trans rfl; have hcz42_1 : w40.cell? ⟨gb384, 1, none⟩ = some (.string a0_1) := (blk_cell BK384.out 1).trans rfl; have hcz42_2 : w40.cell? ⟨gb384, 2, none⟩ = some (.bool a0_2) := (blk_cell BK384.out 2).trans rfl; have hcz42_3 : w40.cell? ⟨gb384, 3, none⟩ = some (.bool a0_3) := (blk_cell BK384.out 3).trans rfl; have hfz42_0 := blk_frozen BK384.out 0; have hfz42_1 := blk_frozen BK384.out 1; have hfz42_2 := blk_frozen BK384.out 2; have hfz42_3 := blk_frozen BK384.out 3; have hcz43_0 : w40.cell? ⟨gb385, 0, none⟩ = some (.string a1_0) := (blk_cell BK385.out 0).trans rfl; have hcz43_1 : w40.cell? ⟨gb385, 1, none⟩ = some (.string a1_1) := (blk_cell BK385.out 1).trans rfl; have hcz43_2 : w40.cell? ⟨gb385, 2, none⟩ = some (.bool a1_2) := (blk_cell BK385.out 2).trans rfl; have hcz43_3 : w40.cell? ⟨gb385, 3, none⟩ = some (.bool a1_3) := (blk_cell BK385.out 3).trans rfl; have hfz43_0 := blk_frozen BK385.out 0; have hfz43_1 := blk_frozen BK385.out 1; have hfz43_2 := blk_frozen BK385.out 2; have hfz43_3 := blk_frozen BK385.out 3) | (refine gl (some 18) Tryz.func31 #[.string a0_1, .string a1_0] ?_; (with_reducible refine (newelref05_Compare.calls k a0_1 a1_0 t386 _ (gS HG) A14.out).mono ?_); rintro e w44 ⟨rfl, hb⟩; refine ⟨_, rfl, ?_⟩; replace BK384 := kB BK384 hb; replace BK385 := kB BK385 hb; replace HB := sB hb; (try clear hb)))
  go_ret
  exact ⟨eA, bG⟩
 rw [if_pos c22] at H
 obtain ⟨c22b0, c22b1⟩ := eqT c22
 clear c22
 by_cases c23 : a0_3 = true
 ·subst c23
  replace H : (some (!a1_2)) = some r := by rw [if_pos rfl] at H; exact H
  obtain rfl := Option.some.inj H
  go_enter Tryz.func29, Tryz.ntmps29
  go_wp2_with (first | (refine be 2 #[.string a0_0, .string a0_1, .bool a0_2, .bool true] 30 ?_; intro gb384 hg w24 hbox hb; have BK384 := Aside0.mk (hbox); have GW384 := gW hg; have GE384 := gW hg; replace HB := sB hb; clear hb hbox hg) | (refine be 3 #[.string a1_0, .string a1_1, .bool a1_2, .bool a1_3] 30 ?_; intro gb385 hg w25 hbox hb; have BK385 := Aside0.mk (hbox); have GW385 := gW hg; have GE385 := gW hg; replace HB := sB hb; have NB384_385 := nL BK384 hg; have NB385_384 := nG BK384 hg; replace BK384 := kB BK384 hb; clear hb hbox hg; have hnb26 := NB384_385.out; have hnc26 := NB385_384.out; have hcz27_0 : w25.cell? ⟨gb384, 0, none⟩ = some (.string a0_0) := (blk_cell BK384.out 0).trans rfl; have hcz27_1 : w25.cell? ⟨gb384, 1, none⟩ = some (.string a0_1) := (blk_cell BK384.out 1).trans rfl; have hcz27_2 : w25.cell? ⟨gb384, 2, none⟩ = some (.bool a0_2) := (blk_cell BK384.out 2).trans rfl; have hcz27_3 : w25.cell? ⟨gb384, 3, none⟩ = some (.bool true) := (blk_cell BK384.out 3).trans rfl; have hfz27_0 := blk_frozen BK384.out 0; have hfz27_1 := blk_frozen BK384.out 1; have hfz27_2 := blk_frozen BK384.out 2; have hfz27_3 := blk_frozen BK384.out 3; have hcz28_0 : w25.cell? ⟨gb385, 0, none⟩ = some (.string a1_0) := (blk_cell BK385.out 0).trans rfl; have hcz28_1 : w25.cell? ⟨gb385, 1, none⟩ = some (.string a1_1) := (blk_cell BK385.out 1).trans rfl; have hcz28_2 : w25.cell? ⟨gb385, 2, none⟩ = some (.bool a1_2) := (blk_cell BK385.out 2).trans rfl; have hcz28_3 : w25.cell? ⟨gb385, 3, none⟩ = some (.bool a1_3) := (blk_cell BK385.out 3).trans rfl; have hfz28_0 := blk_frozen BK385.out 0; have hfz28_1 := blk_frozen BK385.out 1; have hfz28_2 := blk_frozen BK385.out 2; have hfz28_3 := blk_frozen BK385.out 3) | (refine gl (some 18) Tryz.func31 #[.string a0_1, .string a1_0] ?_; (with_reducible refine (newelref05_Compare.calls k a0_1 a1_0 t386 _ (gS HG) A14.out).mono ?_); rintro e w29 ⟨rfl, hb⟩; refine ⟨_, rfl, ?_⟩; replace BK384 := kB BK384 hb; replace BK385 := kB BK385 hb; replace HB := sB hb; (try clear hb); have hcz30_0 : w29.cell? ⟨gb384, 0, none⟩ = some (.string a0_0) := (blk_cell BK384.out 0).trans rfl; have hcz30_1 : w29.cell? ⟨gb384, 1, none⟩ = some (.string a0_1) := (blk_cell BK384.out 1).trans rfl; have hcz30_2 : w29.cell? ⟨gb384, 2, none⟩ = some (.bool a0_2) := (blk_cell BK384.out 2).trans rfl; have hcz30_3 : w29.cell? ⟨gb384, 3, none⟩ = some (.bool true) := (blk_cell BK384.out 3).trans rfl; have hfz30_0 := blk_frozen BK384.out 0; have hfz30_1 := blk_frozen BK384.out 1; have hfz30_2 := blk_frozen BK384.out 2; have hfz30_3 := blk_frozen BK384.out 3; have hcz31_0 : w29.cell? ⟨gb385, 0, none⟩ = some (.string a1_0) := (blk_cell BK385.out 0).trans rfl; have hcz31_1 : w29.cell? ⟨gb385, 1, none⟩ = some (.string a1_1) := (blk_cell BK385.out 1).trans rfl; have hcz31_2 : w29.cell? ⟨gb385, 2, none⟩ = some (.bool a1_2) := (blk_cell BK385.out 2).trans rfl; have hcz31_3 : w29.cell? ⟨gb385, 3, none⟩ = some (.bool a1_3) := (blk_cell BK385.out 3).trans rfl; have hfz31_0 := blk_frozen BK385.out 0; have hfz31_1 := blk_frozen BK385.out 1; have hfz31_2 := blk_frozen BK385.out 2; have hfz31_3 := blk_frozen BK385.out 3))
  go_ret
  exact ⟨eA, bG⟩
 replace c23 := Bool.eq_false_iff.mpr c23
 subst c23
 replace H : (some (!false)) = some r := by rw [if_neg nF] at H; exact H
 obtain rfl := Option.some.inj H
 go_enter Tryz.func29, Tryz.ntmps29
 go_wp2_with (first | (refine be 2 #[.string a0_0, .string a0_1, .bool a0_2, .bool false] 30 ?_; intro gb384 hg w32 hbox hb; have BK384 := Aside0.mk (hbox); have GW384 := gW hg; have GE384 := gW hg; replace HB := sB hb; clear hb hbox hg) | (refine be 3 #[.string a1_0, .string a1_1, .bool a1_2, .bool a1_3] 30 ?_; intro gb385 hg w33 hbox hb; have BK385 := Aside0.mk (hbox); have GW385 := gW hg; have GE385 := gW hg; replace HB := sB hb; have NB384_385 := nL BK384 hg; have NB385_384 := nG BK384 hg; replace BK384 := kB BK384 hb; clear hb hbox hg; have hnb34 := NB384_385.out; have hnc34 := NB385_384.out; have hcz35_0 : w33.cell? ⟨gb384, 0, none⟩ = some (.string a0_0) := (blk_cell BK384.out 0).trans rfl; have hcz35_1 : w33.cell? ⟨gb384, 1, none⟩ = some (.string a0_1) := (blk_cell BK384.out 1).trans rfl; have hcz35_2 : w33.cell? ⟨gb384, 2, none⟩ = some (.bool a0_2) := (blk_cell BK384.out 2).trans rfl; have hcz35_3 : w33.cell? ⟨gb384, 3, none⟩ = some (.bool false) := (blk_cell BK384.out 3).trans rfl; have hfz35_0 := blk_frozen BK384.out 0; have hfz35_1 := blk_frozen BK384.out 1; have hfz35_2 := blk_frozen BK384.out 2; have hfz35_3 := blk_frozen BK384.out 3; have hcz36_0 : w33.cell? ⟨gb385, 0, none⟩ = some (.string a1_0) := (blk_cell BK385.out 0).trans rfl; have hcz36_1 : w33.cell? ⟨gb385, 1, none⟩ = some (.string a1_1) := (blk_cell BK385.out 1).trans rfl; have hcz36_2 : w33.cell? ⟨gb385, 2, none⟩ = some (.bool a1_2) := (blk_cell BK385.out 2).trans rfl; have hcz36_3 : w33.cell? ⟨gb385, 3, none⟩ = some (.bool a1_3) := (blk_cell BK385.out 3).trans rfl; have hfz36_0 := blk_frozen BK385.out 0; have hfz36_1 := blk_frozen BK385.out 1; have hfz36_2 := blk_frozen BK385.out 2; have hfz36_3 := blk_frozen BK385.out 3) | (refine gl (some 18) Tryz.func31 #[.string a0_1, .string a1_0] ?_; (with_reducible refine (newelref05_Compare.calls k a0_1 a1_0 t386 _ (gS HG) A14.out).mono ?_); rintro e w37 ⟨rfl, hb⟩; refine ⟨_, rfl, ?_⟩; replace BK384 := kB BK384 hb; replace BK385 := kB BK385 hb; replace HB := sB hb; (try clear hb); have hcz38_0 : w37.cell? ⟨gb384, 0, none⟩ = some (.string a0_0) := (blk_cell BK384.out 0).trans rfl; have hcz38_1 : w37.cell? ⟨gb384, 1, none⟩ = some (.string a0_1) := (blk_cell BK384.out 1).trans rfl; have hcz38_2 : w37.cell? ⟨gb384, 2, none⟩ = some (.bool a0_2) := (blk_cell BK384.out 2).trans rfl; have hcz38_3 : w37.cell? ⟨gb384, 3, none⟩ = some (.bool false) := (blk_cell BK384.out 3).trans rfl; have hfz38_0 := blk_frozen BK384.out 0; have hfz38_1 := blk_frozen BK384.out 1; have hfz38_2 := blk_frozen BK384.out 2; have hfz38_3 := blk_frozen BK384.out 3))
 go_ret
 exact ⟨eA, bG⟩
mutual
def newelref05_Parse.l0 : Nat → ByteArray → List (S30) → Option ((List (S30)) × Int)
 | 0, _, _ => none
 | k + 1, x0, x4 => newelref05_Parse.l1 k x0 x4 0
def newelref05_Parse.j2 : Nat → ByteArray → List (S30) → Int → Option ((List (S30)) × Int)
 | 0, _, _, _ => none
 | k + 1, x0, x4, x5 => (newelref05_Is.f x0).bind fun t387 => (if t387 = true then (newelref05_Parse.j3 k x0 x4 x5 (x5 == (x0.size : Int))) else (newelref05_Parse.j3 k x0 x4 x5 true))
def newelref05_Parse.j3 : Nat → ByteArray → List (S30) → Int → Bool → Option ((List (S30)) × Int)
 | 0, _, _, _, _ => none
 | k + 1, x0, x4, x5, x34 => if x34 = true then (some (([] : List (S30)), 12)) else (if 1 ≤ x5 then (if x5 ≤ (x0.size : Int) then (if 0 < (x0.size : Int) then (if 0 ≤ x5 then (if x5 < (x0.size : Int) then ((newelref05_span.f k (x0.extract 1 (x5 : Int).toNat) (bt x0 0) (bt x0 x5)).bind fun bt388 => (if bt388.2.2.2.2 = true then ((newelref05_May.f k bt388.1 bt388.2.1 bt388.2.2.1 bt388.2.2.2.1).bind fun t394 => (if t394 = true then (if (x4.length : Int) > 0 then (if 0 ≤ (wrap64 ((x4.length : Int) - 1)) then (if (wrap64 ((x4.length : Int) - 1)) < (x4.length : Int) then ((newelref05_behind.f k ((rd_T30 x4 (wrap64 ((x4.length : Int) - 1))).f0) ((rd_T30 x4 (wrap64 ((x4.length : Int) - 1))).f1) ((rd_T30 x4 (wrap64 ((x4.length : Int) - 1))).f2) ((rd_T30 x4 (wrap64 ((x4.length : Int) - 1))).f3) bt388.1 bt388.2.1 bt388.2.2.1 bt388.2.2.2.1).bind fun t396 => (if t396 = true then (newelref05_Parse.j4 k x0 x4 x5 (decide ((x4.length : Int) ≥ 20)) bt388.1 bt388.2.1 bt388.2.2.1 bt388.2.2.2.1) else (newelref05_Parse.j4 k x0 x4 x5 true bt388.1 bt388.2.1 bt388.2.2.1 bt388.2.2.2.1))) else (none)) else (none)) else (newelref05_Parse.j4 k x0 x4 x5 (decide ((x4.length : Int) ≥ 20)) bt388.1 bt388.2.1 bt388.2.2.1 bt388.2.2.2.1)) else (newelref05_Parse.j4 k x0 x4 x5 true bt388.1 bt388.2.1 bt388.2.2.1 bt388.2.2.2.1))) else (newelref05_Parse.j4 k x0 x4 x5 true bt388.1 bt388.2.1 bt388.2.2.1 bt388.2.2.2.1))) else (none)) else (none)) else (none)) else (none)) else (none))
def newelref05_Parse.j4 : Nat → ByteArray → List (S30) → Int → Bool → ByteArray → ByteArray → Bool → Bool → Option ((List (S30)) × Int)
 | 0, _, _, _, _, _, _, _, _ => none
 | k + 1, x0, x4, x5, x74, x394000, x394001, x394002, x394003 => if x74 = true then (some (([] : List (S30)), 12)) else (if x4.length < 3518437208883 then ((some (x4 ++ [(⟨x394000, x394001, x394002, x394003⟩ : S30)] : List (S30))).bind fun y397 => (if 0 ≤ (wrap64 (x5 + 1)) then (if (wrap64 (x5 + 1)) ≤ (x0.size : Int) then (if (x0.extract ((wrap64 (x5 + 1)) : Int).toNat x0.size).toList = ([] : List UInt8) then (some (y397, 0)) else (if 0 < ((x0.extract ((wrap64 (x5 + 1)) : Int).toNat x0.size).size : Int) then (if (bt (x0.extract ((wrap64 (x5 + 1)) : Int).toNat x0.size) 0) = 44 then (if 1 ≤ ((x0.extract ((wrap64 (x5 + 1)) : Int).toNat x0.size).size : Int) then (newelref05_Parse.l0 k ((x0.extract ((wrap64 (x5 + 1)) : Int).toNat x0.size).extract 1 (x0.extract ((wrap64 (x5 + 1)) : Int).toNat x0.size).size) y397) else (none)) else (some (([] : List (S30)), 12))) else (none))) else (none)) else (none))) else (none))
def newelref05_Parse.l1 : Nat → ByteArray → List (S30) → Int → Option ((List (S30)) × Int)
 | 0, _, _, _ => none
 | k + 1, x0, x4, x5 => if x5 < (x0.size : Int) then (if 0 ≤ x5 then (if (bt x0 x5) = 93 then (newelref05_Parse.j2 k x0 x4 x5) else (if (bt x0 x5) = 41 then (newelref05_Parse.j2 k x0 x4 x5) else (newelref05_Parse.l1 k x0 x4 (wrap64 (x5 + 1))))) else (none)) else (newelref05_Parse.j2 k x0 x4 x5)
end
def newelref05_Parse.f (k : Nat) (a0 : ByteArray) : Option ((List (S30)) × Int) := newelref05_Parse.l0 k a0 ([] : List (S30))
theorem newelref05_Parse.mono_l : ∀ k, (∀ y0 y1, LeO (newelref05_Parse.l0 k y0 y1) (newelref05_Parse.l0 (k + 1) y0 y1)) ∧ (∀ y0 y1 y2, LeO (newelref05_Parse.j2 k y0 y1 y2) (newelref05_Parse.j2 (k + 1) y0 y1 y2)) ∧ (∀ y0 y1 y2 y3, LeO (newelref05_Parse.j3 k y0 y1 y2 y3) (newelref05_Parse.j3 (k + 1) y0 y1 y2 y3)) ∧ (∀ y0 y1 y2 y3 y4 y5 y6 y7, LeO (newelref05_Parse.j4 k y0 y1 y2 y3 y4 y5 y6 y7) (newelref05_Parse.j4 (k + 1) y0 y1 y2 y3 y4 y5 y6 y7)) ∧ (∀ y0 y1 y2, LeO (newelref05_Parse.l1 k y0 y1 y2) (newelref05_Parse.l1 (k + 1) y0 y1 y2))
 | 0 => ⟨fun _ _ r h => by simp [newelref05_Parse.l0] at h, fun _ _ _ r h => by simp [newelref05_Parse.j2] at h, fun _ _ _ _ r h => by simp [newelref05_Parse.j3] at h, fun _ _ _ _ _ _ _ _ r h => by simp [newelref05_Parse.j4] at h, fun _ _ _ r h => by simp [newelref05_Parse.l1] at h⟩
 | k + 1 => by
  obtain ⟨ih0, ih1, ih2, ih3, ih4⟩ := newelref05_Parse.mono_l k
  refine ⟨?_, ?_, ?_, ?_, ?_⟩
  ·intro y0 y1
   unfold newelref05_Parse.l0
   have m0 := @newelref05_May.mono
   have m1 := @newelref05_behind.mono
   have m2 := @newelref05_span.mono
   exact mo
  ·intro y0 y1 y2
   unfold newelref05_Parse.j2
   have m0 := @newelref05_May.mono
   have m1 := @newelref05_behind.mono
   have m2 := @newelref05_span.mono
   exact mo
  ·intro y0 y1 y2 y3
   unfold newelref05_Parse.j3
   have m0 := @newelref05_May.mono
   have m1 := @newelref05_behind.mono
   have m2 := @newelref05_span.mono
   exact mo
  ·intro y0 y1 y2 y3 y4 y5 y6 y7
   unfold newelref05_Parse.j4
   have m0 := @newelref05_May.mono
   have m1 := @newelref05_behind.mono
   have m2 := @newelref05_span.mono
   exact mo
  ·intro y0 y1 y2
   unfold newelref05_Parse.l1
   have m0 := @newelref05_May.mono
   have m1 := @newelref05_behind.mono
   have m2 := @newelref05_span.mono
   exact mo
theorem newelref05_Parse.mono : ∀ a0 k, LeO (newelref05_Parse.f k a0) (newelref05_Parse.f (k + 1) a0) := by
 intro a0 k
 obtain ⟨ih0, ih1, ih2, ih3, ih4⟩ := newelref05_Parse.mono_l k
 unfold newelref05_Parse.f
 have m0 := @newelref05_May.mono
 have m1 := @newelref05_behind.mono
 have m2 := @newelref05_span.mono
 exact mo
def newelref05_Parse.T7 : Bool × List (List Nat × List Nat) := (true, [([], []), ([], []), ([0, 1], [0, 1]), ([], []), ([3], [3]), ([], []), ([], []), ([5, 6], [5, 6]), ([2, 4, 7], [2, 4, 7]), ([8], [8]), ([9], [9]), ([9], [9]), ([], []), ([12, 10, 8, 0, 1, 2, 3, 4, 5, 6, 7, 8, 9, 10, 12], [10, 12]), ([11, 13, 0, 1, 2, 3, 4, 5, 6, 7, 8, 9, 10, 11, 12, 13], [11])])
def newelref05_Parse.B7 : List Nat := [0, 0, 3, 0, 8, 0, 0, 96, 255, 511, 1023, 1023, 0, 6143, 16383]
theorem newelref05_Parse.tab7 : rtab .any (opsOf Tryz.f12 7) = newelref05_Parse.T7 := by kernel_rfl
theorem newelref05_Parse.bits7 : waitsOk newelref05_Parse.T7.2 newelref05_Parse.B7 = true := by kernel_rfl
def newelref05_Parse.T8 : Bool × List (List Nat × List Nat) := (true, [([], []), ([0], [0]), ([1], [1]), ([2], [2]), ([3, 2, 2], [2, 3]), ([4, 2], [2, 4]), ([2, 5], [2, 5]), ([6, 4], [6]), ([7], [7]), ([8, 7], [7, 8]), ([9, 7], [7, 9]), ([10, 7, 7], [7, 10]), ([11], [11]), ([11], [11]), ([13, 11], [11, 13]), ([14, 11], [11, 14]), ([12, 15, 11], [11, 12, 15]), ([16, 11], [11, 16]), ([11], [11]), ([17, 18, 11, 11], [11, 17, 18]), ([19, 11], [11, 19]), ([11, 20, 7], [7, 11, 20]), ([7, 21], [7, 21]), ([22, 19], [22]), ([23], [23]), ([24, 23], [23, 24]), ([25, 23], [23, 25]), ([23, 26], [23, 26])])
def newelref05_Parse.B8 : List Nat := [0, 1, 3, 7, 15, 31, 63, 127, 255, 511, 1023, 2047, 4095, 4095, 12287, 28671, 65535, 131071, 4095, 524287, 1048575, 2097151, 4194303, 8388607, 16777215, 33554431, 67108863, 134217727]
theorem newelref05_Parse.tab8 : rtab .any (opsOf Tryz.f12 8) = newelref05_Parse.T8 := by kernel_rfl
theorem newelref05_Parse.bits8 : waitsOk newelref05_Parse.T8.2 newelref05_Parse.B8 = true := by kernel_rfl
theorem newelref05_Parse.calls (k : Nat) (a0 : ByteArray) (r1 : List (S30)) (r2 : Int) (w : World) (hG : Glob w) (h : newelref05_Parse.f k a0 = some (r1, r2)) :
 Calls Tryz.prog 12 #[.string a0] w fun e w' => ∃ v0_ : Value, e = .returned (.tuple #[v0_, .int .i64 r2]) ∧ Kd.R k30 30 w' w.heap.size (fun _ => True) v0_ r1 ∧ Below w.heap.size w w' := by
 have hu30 := Tryz.underlying30
 have HG := Aside0.mk hG
 clear hG
 have HB := Aside0.mk (Below.refl w.heap.size w)
 have H : (newelref05_Parse.l0 k a0 ([] : List (S30))) = some (r1, r2) := h
 clear h
 have H' := Aside0.mk H
 clear H
 go_enter Tryz.func12, Tryz.ntmps12
 go_wp2
 go_loopg [0, 4] k (fun kq v0 v4 w' => ∃ (x0_1 : ByteArray) (x4_1 : List (S30)), v0 = .string x0_1 ∧ Aside0 (newelref05_Parse.l0 kq x0_1 x4_1 = some (r1, r2)) ∧ Aside0 (kq ≤ k) ∧ Aside0 (Kd.R k30 30 w' w.heap.size (fun _ => True) v4 x4_1) ∧ Aside0 (Below w.heap.size w w'))
 case atStart => exact ⟨(a0), (([] : List (S30))), cA, H', ⟨Nat.le_refl _⟩, ⟨by first | exact Kd.R_nil _ _ _ _ _ | exact Kd.N_nil _ _ _ _ _ | exact Kd.V_nil _ _ _ _ _ | exact Kd.Q_nil _ _ _ _ _ | exact Kd.S_nil _ _ _ _ _⟩, ⟨bE⟩⟩
 clear H'
 try clear c1
 obtain ⟨x0_1, x4_1, rfl, HA, HK1, HO_4, HB⟩ := hrel
 cases gk with
 | zero => exact absurd HA.out (by simp [newelref05_Parse.l0])
 | succ k1 =>
  have H := HA.out
  clear HA
  simp only [newelref05_Parse.l0] at H
  have HC2 := Aside0.mk H
  clear H
  go_upto_block 2 with (fail)
  go_cut [5] (fun v5 wc => ∃ (kq : Nat) (x5_1 : Int), v5 = .int .i64 x5_1 ∧ Aside0 (newelref05_Parse.j2 kq x0_1 x4_1 x5_1 = some (r1, r2)) ∧ Aside0 (kq ≤ k1) ∧ Aside0 (Kd.R k30 30 wc w.heap.size (fun _ => True) u4 x4_1) ∧ Aside0 (Below w.heap.size w wc))
  case first =>
   have H := HC2.out
   clear HC2
   have H' := Aside0.mk H
   clear H
   go_wp2
   go_loopg [5] k1 (fun kq v5 w' => ∃ (x5_2 : Int), v5 = .int .i64 x5_2 ∧ Aside0 (newelref05_Parse.l1 kq x0_1 x4_1 x5_2 = some (r1, r2)) ∧ Aside0 (kq ≤ k1) ∧ Aside0 (Kd.R k30 30 w' w.heap.size (fun _ => True) u4 x4_1) ∧ Aside0 (Below w.heap.size w w'))
   case atStart => exact ⟨(0), cA, H', ⟨Nat.le_refl _⟩, ⟨kR HO_4⟩, ⟨bE⟩⟩
   clear H'
   try clear c1
   try clear p2
   obtain ⟨x5_2, rfl, HA, HK2, HO_4, HB⟩ := hrel
   cases gk with
   | zero => exact absurd HA.out (by simp [newelref05_Parse.l1])
   | succ k2 =>
    have H := HA.out
    clear HA
    simp only [newelref05_Parse.l1] at H
    by_cases c3 : x5_2 < (x0_1.size : Int)
    rotate_left
    ·rw [if_neg c3] at H
     have c3b0 := dF c3
     clear c3
     (first | rw [c3b0] | (simp only [i64_w, i32_w]; rw [c3b0]) | skip)
     have H' := Aside0.mk H
     clear H
     go_wp2
     go_meet
     case rel => exact ⟨_, (x5_2), cA, H', ⟨by have := HK1.out; have := HK2.out; first | omega | exact Nat.le_refl _⟩, ⟨kR HO_4⟩, ⟨bE⟩⟩
    rw [if_pos c3] at H
    have c3b0 := dT c3
    clear c3
    (first | rw [c3b0] | (simp only [i64_w, i32_w]; rw [c3b0]) | skip)
    obtain ⟨c4, H⟩ := gp H
    have c4b0 := dT c4
    clear c4
    by_cases c6 : (bt x0_1 x5_2) = 93
    ·rw [if_pos c6] at H
     obtain ⟨c6b0, c6b1⟩ := eqT c6
     clear c6
     have H' := Aside0.mk H
     clear H
     have p5 : 0 ≤ (x5_2 : Int) := dA
     have q5 : x5_2 < (x0_1.size : Int) := dA
     have hx5 := bt_at x0_1 x5_2
     replace p5 := eq_true p5
     replace q5 := eq_true q5
     go_wp2
     go_meet
     case rel => exact ⟨_, (x5_2), cA, H', ⟨by have := HK1.out; have := HK2.out; first | omega | exact Nat.le_refl _⟩, ⟨kR HO_4⟩, ⟨bE⟩⟩
    rw [if_neg c6] at H
    obtain ⟨c6b0, c6b1⟩ := eqF c6
    by_cases c8 : (bt x0_1 x5_2) = 41
    rotate_left
    ·rw [if_neg c8] at H
     obtain ⟨c8b0, c8b1⟩ := eqF c8
     have H' := Aside0.mk H
     clear H
     have p5 : 0 ≤ (x5_2 : Int) := dA
     have q5 : x5_2 < (x0_1.size : Int) := dA
     have hx5 := bt_at x0_1 x5_2
     replace p5 := eq_true p5
     replace q5 := eq_true q5
     have p7 : 0 ≤ (x5_2 : Int) := dA
     have q7 : x5_2 < (x0_1.size : Int) := dA
     have hx7 := bt_at x0_1 x5_2
     replace p7 := eq_true p7
     replace q7 := eq_true q7
     go_wp2
     go_roundg k2
     case measure => have := HK1.out; have := HK2.out; omega
     case rel => exact ⟨(wrap64 (x5_2 + 1)), cA, H', ⟨by have := HK1.out; have := HK2.out; omega⟩, ⟨kR HO_4⟩, ⟨bE⟩⟩
    rw [if_pos c8] at H
    obtain ⟨c8b0, c8b1⟩ := eqT c8
    clear c8
    have H' := Aside0.mk H
    clear H
    have p5 : 0 ≤ (x5_2 : Int) := dA
    have q5 : x5_2 < (x0_1.size : Int) := dA
    have hx5 := bt_at x0_1 x5_2
    replace p5 := eq_true p5
    replace q5 := eq_true q5
    have p7 : 0 ≤ (x5_2 : Int) := dA
    have q7 : x5_2 < (x0_1.size : Int) := dA
    have hx7 := bt_at x0_1 x5_2
    replace p7 := eq_true p7
    replace q7 := eq_true q7
    go_wp2
    go_meet
    case rel => exact ⟨_, (x5_2), cA, H', ⟨by have := HK1.out; have := HK2.out; first | omega | exact Nat.le_refl _⟩, ⟨kR HO_4⟩, ⟨bE⟩⟩
  clear HC2
  try clear c1
  try clear p2
  try clear c3
  try clear c3b0
  try clear c4
  try clear c4b0
  try clear p5
  try clear q5
  try clear hx5
  try clear c6
  try clear c6b0
  try clear c6b1
  try clear p6
  try clear p7
  try clear q7
  try clear hx7
  try clear c8
  try clear c8b0
  try clear c8b1
  try clear p2
  try clear p5
  try clear p7
  try clear q5
  try clear q7
  obtain ⟨kq, x5_1, rfl, HA, HJ1, HO_4, HB⟩ := hcut
  cases kq with
  | zero => exact absurd HA.out (by simp [newelref05_Parse.j2])
  | succ kj1 =>
   have H := HA.out
   clear HA
   simp only [newelref05_Parse.j2] at H
   have HC9 := Aside0.mk H
   clear H
   go_upto_region 5 with (fail)
   go_cut [34] (fun v34 wc => ∃ (kq : Nat) (x34_8 : Bool), v34 = .bool x34_8 ∧ Aside0 (newelref05_Parse.j3 kq x0_1 x4_1 x5_1 x34_8 = some (r1, r2)) ∧ Aside0 (kq ≤ kj1) ∧ Aside0 (Kd.R k30 30 wc w.heap.size (fun _ => True) u4 x4_1) ∧ Aside0 (Below w.heap.size w wc))
   case first =>
    have H := HC9.out
    clear HC9
    replace H := bi H
    obtain ⟨t387, A100, H⟩ := H
    try dsimp only at H
    have A10 := Aside0.mk A100
    clear A100
    by_cases c11 : t387 = true
    ·subst c11
     replace H : (newelref05_Parse.j3 kj1 x0_1 x4_1 x5_1 (x5_1 == (x0_1.size : Int))) = some (r1, r2) := by rw [if_pos rfl] at H; exact H
     have H' := Aside0.mk H
     clear H
     go_wp2_with (first | (refine gl (some 27) Tryz.func27 #[.string x0_1] ?_; (with_reducible refine (newelref05_Is.calls x0_1 true _ (gS HG) A10.out).mono ?_); rintro e w' ⟨rfl, ⟨nd, rfl⟩⟩; refine ⟨_, rfl, ?_⟩))
     go_meet
     case rel => exact ⟨_, ((x5_1 == (x0_1.size : Int))), cA, H', ⟨by have := HK1.out; have := HJ1.out; first | omega | exact Nat.le_refl _⟩, ⟨kR HO_4⟩, ⟨bE⟩⟩
    replace c11 := Bool.eq_false_iff.mpr c11
    subst c11
    replace H : (newelref05_Parse.j3 kj1 x0_1 x4_1 x5_1 true) = some (r1, r2) := by rw [if_neg nF] at H; exact H
    have H' := Aside0.mk H
    clear H
    go_wp2_with (first | (refine gl (some 27) Tryz.func27 #[.string x0_1] ?_; (with_reducible refine (newelref05_Is.calls x0_1 false _ (gS HG) A10.out).mono ?_); rintro e w' ⟨rfl, ⟨nd, rfl⟩⟩; refine ⟨_, rfl, ?_⟩))
    go_meet
    case rel => exact ⟨_, (true), cA, H', ⟨by have := HK1.out; have := HJ1.out; first | omega | exact Nat.le_refl _⟩, ⟨kR HO_4⟩, ⟨bE⟩⟩
   clear HC9
   try clear c1
   try clear c2
   try clear p2
   try clear c3
   try clear c3b0
   try clear c4
   try clear c4b0
   try clear p5
   try clear q5
   try clear hx5
   try clear c6
   try clear c6b0
   try clear c6b1
   try clear p6
   try clear p7
   try clear q7
   try clear hx7
   try clear c8
   try clear c8b0
   try clear c8b1
   try clear c11
   try clear p2
   try clear p5
   try clear p6
   try clear p7
   try clear q5
   try clear q7
   obtain ⟨kq, x34_8, rfl, HA, HJ8, HO_4, HB⟩ := hcut
   cases kq with
   | zero => exact absurd HA.out (by simp [newelref05_Parse.j3])
   | succ kj8 =>
    have H := HA.out
    clear HA
    simp only [newelref05_Parse.j3] at H
    by_cases c12 : x34_8 = true
    ·subst c12
     replace H : (some (([] : List (S30)), 12)) = some (r1, r2) := by rw [if_pos rfl] at H; exact H
     simp only [Option.some.injEq, Prod.mk.injEq] at H
     obtain ⟨rfl, rfl⟩ := H
     go_wp2
     go_ret2
     exact ⟨_, by first | rfl | (simp [errW_none, errW_some] <;> rfl) | (simp [*, errW_none, errW_some] <;> rfl), by first | exact Kd.R_nil _ _ _ _ _ | exact Kd.N_nil _ _ _ _ _ | exact Kd.V_nil _ _ _ _ _ | exact Kd.Q_nil _ _ _ _ _ | exact Kd.S_nil _ _ _ _ _, bE⟩
    replace c12 := Bool.eq_false_iff.mpr c12
    subst c12
    replace H : (if 1 ≤ x5_1 then (if x5_1 ≤ (x0_1.size : Int) then (if 0 < (x0_1.size : Int) then (if 0 ≤ x5_1 then (if x5_1 < (x0_1.size : Int) then ((newelref05_span.f kj8 (x0_1.extract 1 (x5_1 : Int).toNat) (bt x0_1 0) (bt x0_1 x5_1)).bind fun bt388 => (if bt388.2.2.2.2 = true then ((newelref05_May.f kj8 bt388.1 bt388.2.1 bt388.2.2.1 bt388.2.2.2.1).bind fun t394 => (if t394 = true then (if (x4_1.length : Int) > 0 then (if 0 ≤ (wrap64 ((x4_1.length : Int) - 1)) then (if (wrap64 ((x4_1.length : Int) - 1)) < (x4_1.length : Int) then ((newelref05_behind.f kj8 ((rd_T30 x4_1 (wrap64 ((x4_1.length : Int) - 1))).f0) ((rd_T30 x4_1 (wrap64 ((x4_1.length : Int) - 1))).f1) ((rd_T30 x4_1 (wrap64 ((x4_1.length : Int) - 1))).f2) ((rd_T30 x4_1 (wrap64 ((x4_1.length : Int) - 1))).f3) bt388.1 bt388.2.1 bt388.2.2.1 bt388.2.2.2.1).bind fun t396 => (if t396 = true then (newelref05_Parse.j4 kj8 x0_1 x4_1 x5_1 (decide ((x4_1.length : Int) ≥ 20)) bt388.1 bt388.2.1 bt388.2.2.1 bt388.2.2.2.1) else (newelref05_Parse.j4 kj8 x0_1 x4_1 x5_1 true bt388.1 bt388.2.1 bt388.2.2.1 bt388.2.2.2.1))) else (none)) else (none)) else (newelref05_Parse.j4 kj8 x0_1 x4_1 x5_1 (decide ((x4_1.length : Int) ≥ 20)) bt388.1 bt388.2.1 bt388.2.2.1 bt388.2.2.2.1)) else (newelref05_Parse.j4 kj8 x0_1 x4_1 x5_1 true bt388.1 bt388.2.1 bt388.2.2.1 bt388.2.2.2.1))) else (newelref05_Parse.j4 kj8 x0_1 x4_1 x5_1 true bt388.1 bt388.2.1 bt388.2.2.1 bt388.2.2.2.1))) else (none)) else (none)) else (none)) else (none)) else (none)) = some (r1, r2) := by rw [if_neg nF] at H; exact H
    obtain ⟨c13, H⟩ := gp H
    have c13b0 := eq_true c13
    have c13b1 := dT c13
    clear c13
    obtain ⟨c14, H⟩ := gp H
    have c14b0 := eq_true c14
    have c14b1 := dT c14
    clear c14
    obtain ⟨c15, H⟩ := gp H
    have c15b0 := dT c15
    have c15b1 : decide (0 < x0_1.size) = true := decide_eq_true (by omega)
    clear c15
    obtain ⟨c17, H⟩ := gp H
    have c17b0 := dT c17
    clear c17
    obtain ⟨c18, H⟩ := gp H
    have c18b0 := dT c18
    clear c18
    replace H := bi H
    obtain ⟨⟨t388, t389, t390, t391, t392⟩, A200, H⟩ := H
    try dsimp only at H
    have A20 := Aside0.mk A200
    clear A200
    have HC21 := Aside0.mk H
    clear H
    try go_wp2
    replace HO_4 := Aside0.mk (Kd.R_drew HO_4.out)
    replace HB := Aside0.mk (below_drew1 HB.out)
    have p16 : 0 ≤ (0 : Int) := (by omega)
    have q16 : 0 < x0_1.size := (by have : (0 : Int) < (x0_1.size : Int) := dA; omega)
    have hx16 : ∀ h : 0 < x0_1.size, ((x0_1[0]'h).toNat : Int) = bt x0_1 0 := bt_at x0_1 0
    clear p16
    have qi16 : (0 < (x0_1.size : Int)) = True := eq_true (dA)
    replace q16 := eq_true q16
    have p19 : 0 ≤ (x5_1 : Int) := dA
    have q19 : x5_1 < (x0_1.size : Int) := dA
    have hx19 := bt_at x0_1 x5_1
    replace p19 := eq_true p19
    replace q19 := eq_true q19
    refine start_ (n := 15) (S := fun w' => True) (ds := []) #[false, false, false, false, false, false, false, false, false, false, false, false, false, false, false] (by kernel_rfl) rfl rfl trivial (fun hHeld => ?_); refine with_tabW newelref05_Parse.tab7 newelref05_Parse.bits7 (fun HT_ HW_ => ?_)
    generalize wc.drew = w22 at HO_4 HB hHeld ⊢
    refine pz 0 (some 36) HT_ ?_
    refine pz 1 (some 37) HT_ ?_
    refine pz 2 (some 38) HT_ ?_
    refine pz 3 (some 39) HT_ ?_
    refine pz 5 (some 41) HT_ ?_
    refine pz 6 (some 42) HT_ ?_
    refine tk 4 (some 40) HT_ HW_ hHeld ?_
    refine tk 7 (some 43) HT_ HW_ hHeld ?_
    refine join_ (σ := Nat) 2 #[true, true, true, true, true, true, true, true, true, true, true, true, true, false, false] (fun s_ => [(44, .tuple #[.agg #[.string t388, .string t389, .bool t390, .bool t391], .bool t392]), (6, .pointer (some ⟨s_, 0, none⟩)), (35, .tuple #[.agg #[.string t388, .string t389, .bool t390, .bool t391], .bool t392]), (45, .agg #[.string t388, .string t389, .bool t390, .bool t391]), (46, .bool t392)]) (fun s_ w' => (Kd.R k30 30 w' w.heap.size (fun k_ => k_ ≠ s_) u4 x4_1) ∧ (w'.heap[s_]? = some (.cells #[.string (⟨#[]⟩ : ByteArray), .string (⟨#[]⟩ : ByteArray), .bool false, .bool false] 30 (0, 0))) ∧ (w.heap.size ≤ s_) ∧ (w.heap.size ≤ s_) ∧ (Below w.heap.size w w')) ?_ ?_
    rotate_left
    ·intro hCont
     refine two_ (i := 8) (j := 12) (Ni := some 44) (Nj := some 6) #[true, true, true, true, true, true, true, true, true, false, false, false, false, false, false] #[true, true, true, true, true, true, true, true, false, false, false, false, true, false, false] rfl rfl rfl rfl (two_of HT_.out (by kernel_rfl)) (by decide) (by decide) (fun K hK => ?_) (fun K hK => ?_)
     ·skip
      refine goes_ Tryz.func28 (by kernel_rfl) rfl #[.string (x0_1.extract 1 (x5_1 : Int).toNat), .int .u8 (bt x0_1 0), .int .u8 (bt x0_1 x5_1)] (by rfl) rfl rfl mA ?_
      with_reducible refine (newelref05_span.calls kj8 (x0_1.extract 1 (x5_1 : Int).toNat) (bt x0_1 0) (bt x0_1 x5_1) t388 t389 t390 t391 t392 _ (gS HG) A20.out).mono ?_
      rintro e w23 ⟨rfl, hb⟩
      refine ⟨_, rfl, ?_⟩
      replace HO_4 := rB HO_4 hb
      replace HB := sB hb
      (try clear hb)
      refine hK.out _ _ trivial (fun hHeld => ?_)
      clear hK K
      refine nz (some 44) ?_
      refine pz 9 (some 35) HT_ ?_
      refine pz 10 (some 45) HT_ ?_
      refine pz 11 (some 46) HT_ ?_
      refine on 12 (some 6) HT_ (fun K hK => ?_)
      refine bs 6 #[.string (⟨#[]⟩ : ByteArray), .string (⟨#[]⟩ : ByteArray), .bool false, .bool false] 30 ?_
      intro gb393 hg w24 hbox hb
      replace HO_4 := Aside0.mk (Kd.R_below (Kd.R_elderB (kR HO_4) gb393 (Nat.le_of_eq hg.symm)) hb)
      have BK393 := Aside0.mk (hbox)
      have GW393 := gW hg
      have GE393 := gW hg
      replace HB := sB hb
      clear hb hbox hg
      refine hK.out _ _ trivial (fun hHeld => ?_)
      clear hK K
      refine nz (some 6) ?_
      exact norm_ (by simp only [putAll, Act.put, List.setIfInBounds_toArray, List.set_cons_zero, List.set_cons_succ]) (hCont (gb393) _ ⟨(by (with_reducible repeat (first | apply Kd.R_alloc | apply Kd.R_drewN | apply Kd.R_drew)); exact Kd.R_mono HO_4.out (fun _ hk => hk.2)), (bK BK393), GW393.out, GE393.out, bG⟩)
     ·skip
      refine bs 6 #[.string (⟨#[]⟩ : ByteArray), .string (⟨#[]⟩ : ByteArray), .bool false, .bool false] 30 ?_
      intro gb393 hg w23 hbox hb
      replace HO_4 := Aside0.mk (Kd.R_below (Kd.R_elderB (kR HO_4) gb393 (Nat.le_of_eq hg.symm)) hb)
      have BK393 := Aside0.mk (hbox)
      have GW393 := gW hg
      have GE393 := gW hg
      replace HB := sB hb
      clear hb hbox hg
      refine hK.out _ _ trivial (fun hHeld => ?_)
      clear hK K
      refine nz (some 6) ?_
      refine on 8 (some 44) HT_ (fun K hK => ?_)
      refine goes_ Tryz.func28 (by kernel_rfl) rfl #[.string (x0_1.extract 1 (x5_1 : Int).toNat), .int .u8 (bt x0_1 0), .int .u8 (bt x0_1 x5_1)] (by rfl) rfl rfl mA ?_
      with_reducible refine (newelref05_span.calls kj8 (x0_1.extract 1 (x5_1 : Int).toNat) (bt x0_1 0) (bt x0_1 x5_1) t388 t389 t390 t391 t392 _ (gS HG) A20.out).mono ?_
      rintro e w24 ⟨rfl, hb⟩
      refine ⟨_, rfl, ?_⟩
      replace HO_4 := rB HO_4 hb
      replace BK393 := kB BK393 hb
      replace HB := sB hb
      (try clear hb)
      refine hK.out _ _ trivial (fun hHeld => ?_)
      clear hK K
      refine nz (some 44) ?_
      refine pz 9 (some 35) HT_ ?_
      refine pz 10 (some 45) HT_ ?_
      refine pz 11 (some 46) HT_ ?_
      exact norm_ (by simp only [putAll, Act.put, List.setIfInBounds_toArray, List.set_cons_zero, List.set_cons_succ]) (hCont (gb393) _ ⟨(by (with_reducible repeat (first | apply Kd.R_alloc | apply Kd.R_drewN | apply Kd.R_drew)); exact Kd.R_mono HO_4.out (fun _ hk => hk.2)), (bK BK393), GW393.out, GE393.out, bG⟩)
    rintro gb393 w25 ⟨h0_, h1_, h2_, h3_, h4_⟩
    replace HO_4 : Aside0 (Kd.R k30 30 w25 w.heap.size (fun k_ => k_ ≠ gb393) u4 x4_1) := ⟨h0_⟩
    have BK393 : Aside0 (w25.heap[gb393]? = some (.cells #[.string (⟨#[]⟩ : ByteArray), .string (⟨#[]⟩ : ByteArray), .bool false, .bool false] 30 (0, 0))) := ⟨h1_⟩
    have GW393 : Aside0 (w.heap.size ≤ gb393) := ⟨h2_⟩
    have GE393 : Aside0 (w.heap.size ≤ gb393) := ⟨h3_⟩
    replace HB : Aside0 (Below w.heap.size w w25) := ⟨h4_⟩
    clear h0_ h1_ h2_ h3_ h4_
    have hHeld := trivial
    refine norm_ (a' := ?_) ?_ ?_
    rotate_left
    ·simp only [putAll, Act.put, List.setIfInBounds_toArray, List.set_cons_zero, List.set_cons_succ]
     rfl
    refine on 13 (none) HT_ (fun K hK => ?_)
    have hs26 : w25.cell? ⟨gb393, 0, none⟩ = some (.string (⟨#[]⟩ : ByteArray)) := (blk_cell BK393.out 0).trans rfl
    have hfs26 := blk_frozen BK393.out 0
    have hs27 : w25.cell? ⟨gb393, 1, none⟩ = some (.string (⟨#[]⟩ : ByteArray)) := (blk_cell BK393.out 1).trans rfl
    have hfs27 := blk_frozen BK393.out 1
    have hs28 : w25.cell? ⟨gb393, 2, none⟩ = some (.bool false) := (blk_cell BK393.out 2).trans rfl
    have hfs28 := blk_frozen BK393.out 2
    have hs29 : w25.cell? ⟨gb393, 3, none⟩ = some (.bool false) := (blk_cell BK393.out 3).trans rfl
    have hfs29 := blk_frozen BK393.out 3
    refine skip_ (w1 := ?_) (by rfl) rfl ?_ ?_
    rotate_left
    ·go_simp
     rfl
    refine hK.out _ _ trivial (fun hHeld => ?_)
    clear hK K
    refine pz 14 (some 7) HT_ ?_
    refine done_ (done_of HT_.out (by kernel_rfl)) ?_
    go_upto_region 8 with (fail)
    go_cut [74] (fun v74 wc => ∃ (kq : Nat) (x74_20 : Bool), v74 = .bool x74_20 ∧ Aside0 (newelref05_Parse.j4 kq x0_1 x4_1 x5_1 x74_20 t388 t389 t390 t391 = some (r1, r2)) ∧ Aside0 (kq ≤ kj8) ∧ Aside0 (Kd.R k30 30 wc w.heap.size (fun k_ => k_ ≠ gb393) u4 x4_1) ∧ Aside0 (wc.heap[gb393]? = some (.cells #[.string t388, .string t389, .bool t390, .bool t391] 30 (0, 0))) ∧ Aside0 (Below w.heap.size w wc))
    case first =>
     have H := HC21.out
     clear HC21
     by_cases c30 : t392 = true
     rotate_left
     ·replace c30 := Bool.eq_false_iff.mpr c30
      subst c30
      replace H : (newelref05_Parse.j4 kj8 x0_1 x4_1 x5_1 true t388 t389 t390 t391) = some (r1, r2) := by rw [if_neg nF] at H; exact H
      have H' := Aside0.mk H
      clear H
      try go_wp2
      have n0_ : Aside0 (Kd.R k30 30 ((((w25.setCell ⟨gb393, 0, none⟩ (.string t388)).setCell ⟨gb393, 1, none⟩ (.string t389)).setCell ⟨gb393, 2, none⟩ (.bool t390)).setCell ⟨gb393, 3, none⟩ (.bool t391)) w.heap.size (fun k_ => k_ ≠ gb393) u4 x4_1) := ⟨by (with_reducible repeat (first | apply Kd.R_alloc | apply Kd.R_drewN | apply Kd.R_drew)); exact Kd.R_mono (Kd.R_far (p := ⟨gb393, 3, none⟩) (Kd.R_far (p := ⟨gb393, 2, none⟩) (Kd.R_far (p := ⟨gb393, 1, none⟩) (Kd.R_far (p := ⟨gb393, 0, none⟩) (Kd.R_mono HO_4.out (fun k_ hk => (⟨hk, hk⟩ : _ ∧ k_ ≠ gb393))) (fun _ hk => hk.2) (.string t388)) (fun _ hk => hk.2) (.string t389)) (fun _ hk => hk.2) (.bool t390)) (fun _ hk => hk.2) (.bool t391)) (fun _ hk => hk.1)⟩
      have n1_ : Aside0 (((((w25.setCell ⟨gb393, 0, none⟩ (.string t388)).setCell ⟨gb393, 1, none⟩ (.string t389)).setCell ⟨gb393, 2, none⟩ (.bool t390)).setCell ⟨gb393, 3, none⟩ (.bool t391)).heap[gb393]? = some (.cells #[.string t388, .string t389, .bool t390, .bool t391] 30 (0, 0))) := ⟨bP BK393⟩
      have n2_ : Aside0 (Below w.heap.size w ((((w25.setCell ⟨gb393, 0, none⟩ (.string t388)).setCell ⟨gb393, 1, none⟩ (.string t389)).setCell ⟨gb393, 2, none⟩ (.bool t390)).setCell ⟨gb393, 3, none⟩ (.bool t391))) := ⟨bG⟩
      (try clear HO_4)
      (try clear BK393)
      (try clear HB)
      generalize ((((w25.setCell ⟨gb393, 0, none⟩ (.string t388)).setCell ⟨gb393, 1, none⟩ (.string t389)).setCell ⟨gb393, 2, none⟩ (.bool t390)).setCell ⟨gb393, 3, none⟩ (.bool t391)) = w56 at n0_ n1_ n2_ ⊢
      have HO_4 := n0_
      have BK393 := n1_
      have HB := n2_
      clear n0_ n1_ n2_
      replace HO_4 := Aside0.mk (Kd.R_drew HO_4.out)
      replace BK393 := Aside0.mk (blk_drew BK393.out)
      replace HB := Aside0.mk (below_drew1 HB.out)
      refine start_ (n := 28) (S := fun w' => True) (ds := []) #[false, false, false, false, false, false, false, false, false, false, false, false, false, false, false, false, false, false, false, false, false, false, false, false, false, false, false, false] (by kernel_rfl) rfl rfl trivial (fun hHeld => ?_); refine with_tabW newelref05_Parse.tab8 newelref05_Parse.bits8 (fun HT_ HW_ => ?_)
      generalize w56.drew = w57 at HO_4 BK393 HB hHeld ⊢
      refine pz 0 (some 47) HT_ ?_
      refine pz 1 (some 48) HT_ ?_
      refine pz 2 (some 49) HT_ ?_
      refine pu 3 (some 50) HT_ ?_
      refine pu 4 (some 51) HT_ ?_
      refine pu 5 (some 52) HT_ ?_
      refine pz 6 (some 53) HT_ ?_
      refine pz 7 (some 54) HT_ ?_
      refine pu 8 (some 55) HT_ ?_
      refine pu 9 (some 56) HT_ ?_
      refine pu 10 (some 57) HT_ ?_
      refine pu 11 (some 58) HT_ ?_
      refine pu 12 (some 59) HT_ ?_
      refine pu 13 (some 60) HT_ ?_
      refine pu 14 (some 61) HT_ ?_
      refine pu 15 (some 62) HT_ ?_
      refine pu 16 (some 63) HT_ ?_
      refine pu 17 (some 64) HT_ ?_
      refine pu 18 (some 65) HT_ ?_
      refine pu 19 (some 66) HT_ ?_
      refine pu 20 (some 67) HT_ ?_
      refine pu 21 (some 68) HT_ ?_
      refine pz 22 (some 69) HT_ ?_
      refine pz 23 (some 70) HT_ ?_
      refine pu 24 (some 71) HT_ ?_
      refine pu 25 (some 72) HT_ ?_
      refine pu 26 (some 73) HT_ ?_
      refine pz 27 (some 74) HT_ ?_
      refine done_ (done_of HT_.out (by kernel_rfl)) ?_
      try go_wp2
      go_meet
      case rel => exact ⟨_, (true), cA, H', ⟨by have := HK1.out; have := HJ1.out; have := HJ8.out; first | omega | exact Nat.le_refl _⟩, ⟨kR HO_4⟩, ⟨bK BK393⟩, ⟨bG⟩⟩
     subst c30
     replace H : ((newelref05_May.f kj8 t388 t389 t390 t391).bind fun t394 => (if t394 = true then (if (x4_1.length : Int) > 0 then (if 0 ≤ (wrap64 ((x4_1.length : Int) - 1)) then (if (wrap64 ((x4_1.length : Int) - 1)) < (x4_1.length : Int) then ((newelref05_behind.f kj8 ((rd_T30 x4_1 (wrap64 ((x4_1.length : Int) - 1))).f0) ((rd_T30 x4_1 (wrap64 ((x4_1.length : Int) - 1))).f1) ((rd_T30 x4_1 (wrap64 ((x4_1.length : Int) - 1))).f2) ((rd_T30 x4_1 (wrap64 ((x4_1.length : Int) - 1))).f3) t388 t389 t390 t391).bind fun t396 => (if t396 = true then (newelref05_Parse.j4 kj8 x0_1 x4_1 x5_1 (decide ((x4_1.length : Int) ≥ 20)) t388 t389 t390 t391) else (newelref05_Parse.j4 kj8 x0_1 x4_1 x5_1 true t388 t389 t390 t391))) else (none)) else (none)) else (newelref05_Parse.j4 kj8 x0_1 x4_1 x5_1 (decide ((x4_1.length : Int) ≥ 20)) t388 t389 t390 t391)) else (newelref05_Parse.j4 kj8 x0_1 x4_1 x5_1 true t388 t389 t390 t391))) = some (r1, r2) := by rw [if_pos rfl] at H; exact H
     replace H := bi H
     obtain ⟨t394, A310, H⟩ := H
     try dsimp only at H
     have A31 := Aside0.mk A310
     clear A310
     by_cases c32 : t394 = true
     rotate_left
     ·replace c32 := Bool.eq_false_iff.mpr c32
      subst c32
      replace H : (newelref05_Parse.j4 kj8 x0_1 x4_1 x5_1 true t388 t389 t390 t391) = some (r1, r2) := by rw [if_neg nF] at H; exact H
      have H' := Aside0.mk H
      clear H
      try go_wp2
      have n0_ : Aside0 (Kd.R k30 30 ((((w25.setCell ⟨gb393, 0, none⟩ (.string t388)).setCell ⟨gb393, 1, none⟩ (.string t389)).setCell ⟨gb393, 2, none⟩ (.bool t390)).setCell ⟨gb393, 3, none⟩ (.bool t391)) w.heap.size (fun k_ => k_ ≠ gb393) u4 x4_1) := ⟨by (with_reducible repeat (first | apply Kd.R_alloc | apply Kd.R_drewN | apply Kd.R_drew)); exact Kd.R_mono (Kd.R_far (p := ⟨gb393, 3, none⟩) (Kd.R_far (p := ⟨gb393, 2, none⟩) (Kd.R_far (p := ⟨gb393, 1, none⟩) (Kd.R_far (p := ⟨gb393, 0, none⟩) (Kd.R_mono HO_4.out (fun k_ hk => (⟨hk, hk⟩ : _ ∧ k_ ≠ gb393))) (fun _ hk => hk.2) (.string t388)) (fun _ hk => hk.2) (.string t389)) (fun _ hk => hk.2) (.bool t390)) (fun _ hk => hk.2) (.bool t391)) (fun _ hk => hk.1)⟩
      have n1_ : Aside0 (((((w25.setCell ⟨gb393, 0, none⟩ (.string t388)).setCell ⟨gb393, 1, none⟩ (.string t389)).setCell ⟨gb393, 2, none⟩ (.bool t390)).setCell ⟨gb393, 3, none⟩ (.bool t391)).heap[gb393]? = some (.cells #[.string t388, .string t389, .bool t390, .bool t391] 30 (0, 0))) := ⟨bP BK393⟩
      have n2_ : Aside0 (Below w.heap.size w ((((w25.setCell ⟨gb393, 0, none⟩ (.string t388)).setCell ⟨gb393, 1, none⟩ (.string t389)).setCell ⟨gb393, 2, none⟩ (.bool t390)).setCell ⟨gb393, 3, none⟩ (.bool t391))) := ⟨bG⟩
      (try clear HO_4)
      (try clear BK393)
      (try clear HB)
      generalize ((((w25.setCell ⟨gb393, 0, none⟩ (.string t388)).setCell ⟨gb393, 1, none⟩ (.string t389)).setCell ⟨gb393, 2, none⟩ (.bool t390)).setCell ⟨gb393, 3, none⟩ (.bool t391)) = w53 at n0_ n1_ n2_ ⊢
      have HO_4 := n0_
      have BK393 := n1_
      have HB := n2_
      clear n0_ n1_ n2_
      replace HO_4 := Aside0.mk (Kd.R_drew HO_4.out)
      replace BK393 := Aside0.mk (blk_drew BK393.out)
      replace HB := Aside0.mk (below_drew1 HB.out)
      refine start_ (n := 28) (S := fun w' => w'.cell? ⟨gb393, 0, none⟩ = some (.string t388) ∧ w'.cell? ⟨gb393, 1, none⟩ = some (.string t389) ∧ w'.cell? ⟨gb393, 2, none⟩ = some (.bool t390) ∧ w'.cell? ⟨gb393, 3, none⟩ = some (.bool t391)) (ds := []) #[false, false, false, false, false, false, false, false, false, false, false, false, false, false, false, false, false, false, false, false, false, false, false, false, false, false, false, false] (by kernel_rfl) rfl rfl ⟨(blk_cell BK393.out 0).trans rfl, (blk_cell BK393.out 1).trans rfl, (blk_cell BK393.out 2).trans rfl, (blk_cell BK393.out 3).trans rfl⟩ (fun hHeld => ?_); refine with_tabW newelref05_Parse.tab8 newelref05_Parse.bits8 (fun HT_ HW_ => ?_)
      generalize w53.drew = w54 at HO_4 BK393 HB hHeld ⊢
      refine pz 0 (some 47) HT_ ?_
      refine pz 1 (some 48) HT_ ?_
      refine pz 2 (some 49) HT_ ?_
      refine tm 3 (some 50) HT_ HW_ hHeld ?_
      refine on 4 (some 51) HT_ (fun K hK => ?_)
      refine goes_ Tryz.func14 (by kernel_rfl) rfl #[.agg #[.string t388, .string t389, .bool t390, .bool t391]] (by rfl) rfl rfl mA ?_
      with_reducible refine (newelref05_May.calls kj8 t388 t389 t390 t391 false _ (gS HG) A31.out).mono ?_
      rintro e w55 ⟨rfl, hb⟩
      refine ⟨_, rfl, ?_⟩
      replace HO_4 := rB HO_4 hb
      replace BK393 := kB BK393 hb
      replace HB := sB hb
      (try clear hb)
      refine hK.out _ _ ⟨(blk_cell BK393.out 0).trans rfl, (blk_cell BK393.out 1).trans rfl, (blk_cell BK393.out 2).trans rfl, (blk_cell BK393.out 3).trans rfl⟩ (fun hHeld => ?_)
      clear hK K
      refine nz (some 51) ?_
      refine pz 5 (some 52) HT_ ?_
      refine pz 6 (some 53) HT_ ?_
      refine pz 7 (some 54) HT_ ?_
      refine pu 8 (some 55) HT_ ?_
      refine pu 9 (some 56) HT_ ?_
      refine pu 10 (some 57) HT_ ?_
      refine pu 11 (some 58) HT_ ?_
      refine pu 12 (some 59) HT_ ?_
      refine pu 13 (some 60) HT_ ?_
      refine pu 14 (some 61) HT_ ?_
      refine pu 15 (some 62) HT_ ?_
      refine pu 16 (some 63) HT_ ?_
      refine pu 17 (some 64) HT_ ?_
      refine pu 18 (some 65) HT_ ?_
      refine pu 19 (some 66) HT_ ?_
      refine pu 20 (some 67) HT_ ?_
      refine pu 21 (some 68) HT_ ?_
      refine pz 22 (some 69) HT_ ?_
      refine pz 23 (some 70) HT_ ?_
      refine pu 24 (some 71) HT_ ?_
      refine pu 25 (some 72) HT_ ?_
      refine pu 26 (some 73) HT_ ?_
      refine pz 27 (some 74) HT_ ?_
      refine done_ (done_of HT_.out (by kernel_rfl)) ?_
      try go_wp2
      go_meet
      case rel => exact ⟨_, (true), cA, H', ⟨by have := HK1.out; have := HJ1.out; have := HJ8.out; first | omega | exact Nat.le_refl _⟩, ⟨kR HO_4⟩, ⟨bK BK393⟩, ⟨bG⟩⟩
     subst c32
     replace H : (if (x4_1.length : Int) > 0 then (if 0 ≤ (wrap64 ((x4_1.length : Int) - 1)) then (if (wrap64 ((x4_1.length : Int) - 1)) < (x4_1.length : Int) then ((newelref05_behind.f kj8 ((rd_T30 x4_1 (wrap64 ((x4_1.length : Int) - 1))).f0) ((rd_T30 x4_1 (wrap64 ((x4_1.length : Int) - 1))).f1) ((rd_T30 x4_1 (wrap64 ((x4_1.length : Int) - 1))).f2) ((rd_T30 x4_1 (wrap64 ((x4_1.length : Int) - 1))).f3) t388 t389 t390 t391).bind fun t396 => (if t396 = true then (newelref05_Parse.j4 kj8 x0_1 x4_1 x5_1 (decide ((x4_1.length : Int) ≥ 20)) t388 t389 t390 t391) else (newelref05_Parse.j4 kj8 x0_1 x4_1 x5_1 true t388 t389 t390 t391))) else (none)) else (none)) else (newelref05_Parse.j4 kj8 x0_1 x4_1 x5_1 (decide ((x4_1.length : Int) ≥ 20)) t388 t389 t390 t391)) = some (r1, r2) := by rw [if_pos rfl] at H; exact H
     by_cases c33 : (x4_1.length : Int) > 0
     rotate_left
     ·rw [if_neg c33] at H
      have c33b0 := dF c33
      have c33b1 : decide (0 < x4_1.length) = false := decide_eq_false (by omega)
      clear c33
      (first | rw [c33b0] | (simp only [i64_w, i32_w]; rw [c33b0]) | skip)
      have H' := Aside0.mk H
      clear H
      try go_wp2
      have n0_ : Aside0 (Kd.R k30 30 ((((w25.setCell ⟨gb393, 0, none⟩ (.string t388)).setCell ⟨gb393, 1, none⟩ (.string t389)).setCell ⟨gb393, 2, none⟩ (.bool t390)).setCell ⟨gb393, 3, none⟩ (.bool t391)) w.heap.size (fun k_ => k_ ≠ gb393) u4 x4_1) := ⟨by (with_reducible repeat (first | apply Kd.R_alloc | apply Kd.R_drewN | apply Kd.R_drew)); exact Kd.R_mono (Kd.R_far (p := ⟨gb393, 3, none⟩) (Kd.R_far (p := ⟨gb393, 2, none⟩) (Kd.R_far (p := ⟨gb393, 1, none⟩) (Kd.R_far (p := ⟨gb393, 0, none⟩) (Kd.R_mono HO_4.out (fun k_ hk => (⟨hk, hk⟩ : _ ∧ k_ ≠ gb393))) (fun _ hk => hk.2) (.string t388)) (fun _ hk => hk.2) (.string t389)) (fun _ hk => hk.2) (.bool t390)) (fun _ hk => hk.2) (.bool t391)) (fun _ hk => hk.1)⟩
      have n1_ : Aside0 (((((w25.setCell ⟨gb393, 0, none⟩ (.string t388)).setCell ⟨gb393, 1, none⟩ (.string t389)).setCell ⟨gb393, 2, none⟩ (.bool t390)).setCell ⟨gb393, 3, none⟩ (.bool t391)).heap[gb393]? = some (.cells #[.string t388, .string t389, .bool t390, .bool t391] 30 (0, 0))) := ⟨bP BK393⟩
      have n2_ : Aside0 (Below w.heap.size w ((((w25.setCell ⟨gb393, 0, none⟩ (.string t388)).setCell ⟨gb393, 1, none⟩ (.string t389)).setCell ⟨gb393, 2, none⟩ (.bool t390)).setCell ⟨gb393, 3, none⟩ (.bool t391))) := ⟨bG⟩
      (try clear HO_4)
      (try clear BK393)
      (try clear HB)
      generalize ((((w25.setCell ⟨gb393, 0, none⟩ (.string t388)).setCell ⟨gb393, 1, none⟩ (.string t389)).setCell ⟨gb393, 2, none⟩ (.bool t390)).setCell ⟨gb393, 3, none⟩ (.bool t391)) = w49 at n0_ n1_ n2_ ⊢
      have HO_4 := n0_
      have BK393 := n1_
      have HB := n2_
      clear n0_ n1_ n2_
      replace HO_4 := Aside0.mk (Kd.R_drew HO_4.out)
      replace BK393 := Aside0.mk (blk_drew BK393.out)
      replace HB := Aside0.mk (below_drew1 HB.out)
      refine start_ (n := 28) (S := fun w' => w'.cell? ⟨gb393, 0, none⟩ = some (.string t388) ∧ w'.cell? ⟨gb393, 1, none⟩ = some (.string t389) ∧ w'.cell? ⟨gb393, 2, none⟩ = some (.bool t390) ∧ w'.cell? ⟨gb393, 3, none⟩ = some (.bool t391)) (ds := []) #[false, false, false, false, false, false, false, false, false, false, false, false, false, false, false, false, false, false, false, false, false, false, false, false, false, false, false, false] (by kernel_rfl) rfl rfl ⟨(blk_cell BK393.out 0).trans rfl, (blk_cell BK393.out 1).trans rfl, (blk_cell BK393.out 2).trans rfl, (blk_cell BK393.out 3).trans rfl⟩ (fun hHeld => ?_); refine with_tabW newelref05_Parse.tab8 newelref05_Parse.bits8 (fun HT_ HW_ => ?_)
      generalize w49.drew = w50 at HO_4 BK393 HB hHeld ⊢
      refine pz 0 (some 47) HT_ ?_
      refine pz 1 (some 48) HT_ ?_
      refine pz 2 (some 49) HT_ ?_
      refine tm 3 (some 50) HT_ HW_ hHeld ?_
      refine on 4 (some 51) HT_ (fun K hK => ?_)
      refine goes_ Tryz.func14 (by kernel_rfl) rfl #[.agg #[.string t388, .string t389, .bool t390, .bool t391]] (by rfl) rfl rfl mA ?_
      with_reducible refine (newelref05_May.calls kj8 t388 t389 t390 t391 true _ (gS HG) A31.out).mono ?_
      rintro e w51 ⟨rfl, hb⟩
      refine ⟨_, rfl, ?_⟩
      replace HO_4 := rB HO_4 hb
      replace BK393 := kB BK393 hb
      replace HB := sB hb
      (try clear hb)
      obtain ⟨Ao52, co52, eo52⟩ := Kd.R_slice HO_4.out
      (first | subst eo52 | (injection eo52 with f1_ f2_ f3_; have f4_ := f1_.symm; have f5_ := f3_.symm; clear f1_ f2_ f3_; subst f4_; subst f5_))
      refine hK.out _ _ ⟨(blk_cell BK393.out 0).trans rfl, (blk_cell BK393.out 1).trans rfl, (blk_cell BK393.out 2).trans rfl, (blk_cell BK393.out 3).trans rfl⟩ (fun hHeld => ?_)
      clear hK K
      refine nz (some 51) ?_
      refine pz 5 (some 52) HT_ ?_
      refine pz 6 (some 53) HT_ ?_
      refine pz 7 (some 54) HT_ ?_
      refine pz 8 (some 55) HT_ ?_
      refine pz 9 (some 56) HT_ ?_
      refine pz 10 (some 57) HT_ ?_
      refine pz 11 (some 58) HT_ ?_
      refine pu 12 (some 59) HT_ ?_
      refine pu 13 (some 60) HT_ ?_
      refine pu 14 (some 61) HT_ ?_
      refine pu 15 (some 62) HT_ ?_
      refine pu 16 (some 63) HT_ ?_
      refine pu 17 (some 64) HT_ ?_
      refine pu 18 (some 65) HT_ ?_
      refine pu 19 (some 66) HT_ ?_
      refine pu 20 (some 67) HT_ ?_
      refine pz 21 (some 68) HT_ ?_
      refine pz 22 (some 69) HT_ ?_
      refine pz 23 (some 70) HT_ ?_
      refine pz 24 (some 71) HT_ ?_
      refine pz 25 (some 72) HT_ ?_
      refine pz 26 (some 73) HT_ ?_
      refine pz 27 (some 74) HT_ ?_
      refine done_ (done_of HT_.out (by kernel_rfl)) ?_
      try go_wp2
      go_meet
      case rel => exact ⟨_, (decide ((x4_1.length : Int) ≥ 20)), cA, H', ⟨by have := HK1.out; have := HJ1.out; have := HJ8.out; first | omega | exact Nat.le_refl _⟩, ⟨kR HO_4⟩, ⟨bK BK393⟩, ⟨bG⟩⟩
     rw [if_pos c33] at H
     have c33b0 := dT c33
     have c33b1 : decide (0 < x4_1.length) = true := decide_eq_true (by omega)
     clear c33
     (first | rw [c33b0] | (simp only [i64_w, i32_w]; rw [c33b0]) | skip)
     obtain ⟨ji34, hji34⟩ : ∃ j_ : Int, (wrap64 ((x4_1.length : Int) - 1)) = j_ := ⟨_, rfl⟩
     rw [hji34] at H
     (try rw [hji34] at A31)
     have hji34w : (IntKind.i64.wrap ((x4_1.length : Int) - 1)) = ji34 := (i64_w _).trans hji34
     obtain ⟨c35, H⟩ := gp H
     have c35b0 := dT c35
     clear c35
     obtain ⟨c36, H⟩ := gp H
     have c36b0 := dT c36
     clear c36
     replace H := bi H
     obtain ⟨t396, A370, H⟩ := H
     try dsimp only at H
     have A37 := Aside0.mk A370
     clear A370
     by_cases c38 : t396 = true
     ·subst c38
      replace H : (newelref05_Parse.j4 kj8 x0_1 x4_1 x5_1 (decide ((x4_1.length : Int) ≥ 20)) t388 t389 t390 t391) = some (r1, r2) := by rw [if_pos rfl] at H; exact H
      have H' := Aside0.mk H
      clear H
      try go_wp2
      have n0_ : Aside0 (Kd.R k30 30 ((((w25.setCell ⟨gb393, 0, none⟩ (.string t388)).setCell ⟨gb393, 1, none⟩ (.string t389)).setCell ⟨gb393, 2, none⟩ (.bool t390)).setCell ⟨gb393, 3, none⟩ (.bool t391)) w.heap.size (fun k_ => k_ ≠ gb393) u4 x4_1) := ⟨by (with_reducible repeat (first | apply Kd.R_alloc | apply Kd.R_drewN | apply Kd.R_drew)); exact Kd.R_mono (Kd.R_far (p := ⟨gb393, 3, none⟩) (Kd.R_far (p := ⟨gb393, 2, none⟩) (Kd.R_far (p := ⟨gb393, 1, none⟩) (Kd.R_far (p := ⟨gb393, 0, none⟩) (Kd.R_mono HO_4.out (fun k_ hk => (⟨hk, hk⟩ : _ ∧ k_ ≠ gb393))) (fun _ hk => hk.2) (.string t388)) (fun _ hk => hk.2) (.string t389)) (fun _ hk => hk.2) (.bool t390)) (fun _ hk => hk.2) (.bool t391)) (fun _ hk => hk.1)⟩
      have n1_ : Aside0 (((((w25.setCell ⟨gb393, 0, none⟩ (.string t388)).setCell ⟨gb393, 1, none⟩ (.string t389)).setCell ⟨gb393, 2, none⟩ (.bool t390)).setCell ⟨gb393, 3, none⟩ (.bool t391)).heap[gb393]? = some (.cells #[.string t388, .string t389, .bool t390, .bool t391] 30 (0, 0))) := ⟨bP BK393⟩
      have n2_ : Aside0 (Below w.heap.size w ((((w25.setCell ⟨gb393, 0, none⟩ (.string t388)).setCell ⟨gb393, 1, none⟩ (.string t389)).setCell ⟨gb393, 2, none⟩ (.bool t390)).setCell ⟨gb393, 3, none⟩ (.bool t391))) := ⟨bG⟩
      (try clear HO_4)
      (try clear BK393)
      (try clear HB)
      generalize ((((w25.setCell ⟨gb393, 0, none⟩ (.string t388)).setCell ⟨gb393, 1, none⟩ (.string t389)).setCell ⟨gb393, 2, none⟩ (.bool t390)).setCell ⟨gb393, 3, none⟩ (.bool t391)) = w39 at n0_ n1_ n2_ ⊢
      have HO_4 := n0_
      have BK393 := n1_
      have HB := n2_
      clear n0_ n1_ n2_
      replace HO_4 := Aside0.mk (Kd.R_drew HO_4.out)
      replace BK393 := Aside0.mk (blk_drew BK393.out)
      replace HB := Aside0.mk (below_drew1 HB.out)
      have p395 : 0 ≤ ((ji34) : Int) := dA
      have q395 : (ji34) < (x4_1.length : Int) := dA
      (try (obtain ⟨Ao_, co_, eo_⟩ := Kd.R_slice HO_4.out; subst eo_))
      obtain ⟨ad395, e395, hx395_0, hx395_1, hx395_2, hx395_3⟩ := at_T30 (Kd.R_reads' HO_4.out).2.2 (ji34) p395 q395
      cases e395
      replace p395 := eq_true p395
      replace q395 := eq_true q395
      refine start_ (n := 28) (S := fun w' => w'.cell? ⟨gb393, 0, none⟩ = some (.string t388) ∧ w'.cell? ⟨gb393, 1, none⟩ = some (.string t389) ∧ w'.cell? ⟨gb393, 2, none⟩ = some (.bool t390) ∧ w'.cell? ⟨gb393, 3, none⟩ = some (.bool t391) ∧ w'.cell? (ad395.add (((ji34)).toNat * 4)) = some (.string ((rd_T30 x4_1 (ji34)).f0)) ∧ w'.cell? ⟨(ad395.add (((ji34)).toNat * 4)).block, (ad395.add (((ji34)).toNat * 4)).off + 1, none⟩ = some (.string ((rd_T30 x4_1 (ji34)).f1)) ∧ w'.cell? ⟨(ad395.add (((ji34)).toNat * 4)).block, (ad395.add (((ji34)).toNat * 4)).off + 2, none⟩ = some (.bool ((rd_T30 x4_1 (ji34)).f2)) ∧ w'.cell? ⟨(ad395.add (((ji34)).toNat * 4)).block, (ad395.add (((ji34)).toNat * 4)).off + 3, none⟩ = some (.bool ((rd_T30 x4_1 (ji34)).f3))) (ds := []) #[false, false, false, false, false, false, false, false, false, false, false, false, false, false, false, false, false, false, false, false, false, false, false, false, false, false, false, false] (by kernel_rfl) rfl rfl ⟨(blk_cell BK393.out 0).trans rfl, (blk_cell BK393.out 1).trans rfl, (blk_cell BK393.out 2).trans rfl, (blk_cell BK393.out 3).trans rfl, hx395_0, hx395_1, hx395_2, hx395_3⟩ (fun hHeld => ?_); refine with_tabW newelref05_Parse.tab8 newelref05_Parse.bits8 (fun HT_ HW_ => ?_)
      generalize w39.drew = w40 at HO_4 BK393 HB hx395_0 hx395_1 hx395_2 hx395_3 hHeld ⊢
      refine pz 0 (some 47) HT_ ?_
      refine pz 1 (some 48) HT_ ?_
      refine pz 2 (some 49) HT_ ?_
      refine tm 3 (some 50) HT_ HW_ hHeld ?_
      refine on 4 (some 51) HT_ (fun K hK => ?_)
      refine goes_ Tryz.func14 (by kernel_rfl) rfl #[.agg #[.string t388, .string t389, .bool t390, .bool t391]] (by rfl) rfl rfl mA ?_
      with_reducible refine (newelref05_May.calls kj8 t388 t389 t390 t391 true _ (gS HG) A31.out).mono ?_
      rintro e w41 ⟨rfl, hb⟩
      have HS4_ := (hb.cell (World.block_lt_of_cell? _ _ (hHeld.2.2.2.2.1))).trans (hHeld.2.2.2.2.1)
      have HS5_ := (hb.cell (World.block_lt_of_cell? _ _ (hHeld.2.2.2.2.2.1))).trans (hHeld.2.2.2.2.2.1)
      have HS6_ := (hb.cell (World.block_lt_of_cell? _ _ (hHeld.2.2.2.2.2.2.1))).trans (hHeld.2.2.2.2.2.2.1)
      have HS7_ := (hb.cell (World.block_lt_of_cell? _ _ (hHeld.2.2.2.2.2.2.2))).trans (hHeld.2.2.2.2.2.2.2)
      refine ⟨_, rfl, ?_⟩
      replace HO_4 := rB HO_4 hb
      replace BK393 := kB BK393 hb
      replace HB := sB hb
      (try clear hb)
      obtain ⟨Ao42, co42, eo42⟩ := Kd.R_slice HO_4.out
      (first | subst eo42 | (injection eo42 with f1_ f2_ f3_; have f4_ := f1_.symm; have f5_ := f3_.symm; clear f1_ f2_ f3_; subst f4_; subst f5_))
      refine hK.out _ _ ⟨(blk_cell BK393.out 0).trans rfl, (blk_cell BK393.out 1).trans rfl, (blk_cell BK393.out 2).trans rfl, (blk_cell BK393.out 3).trans rfl, HS4_, HS5_, HS6_, HS7_⟩ (fun hHeld => ?_)
      clear hK K
      refine nz (some 51) ?_
      refine pz 5 (some 52) HT_ ?_
      refine pz 6 (some 53) HT_ ?_
      refine pz 7 (some 54) HT_ ?_
      refine pz 8 (some 55) HT_ ?_
      refine pz 9 (some 56) HT_ ?_
      refine pz 10 (some 57) HT_ ?_
      refine pz 11 (some 58) HT_ ?_
      refine pz 12 (some 59) HT_ ?_
      refine pz 13 (some 60) HT_ ?_
      refine pz 14 (some 61) HT_ ?_
      refine pz 15 (some 62) HT_ ?_
      refine pz 16 (some 63) HT_ ?_
      refine tm 17 (some 64) HT_ HW_ hHeld ?_
      refine tm 18 (some 65) HT_ HW_ hHeld ?_
      refine on 19 (some 66) HT_ (fun K hK => ?_)
      refine goes_ Tryz.func29 (by kernel_rfl) rfl #[.agg #[.string ((rd_T30 x4_1 (ji34)).f0), .string ((rd_T30 x4_1 (ji34)).f1), .bool ((rd_T30 x4_1 (ji34)).f2), .bool ((rd_T30 x4_1 (ji34)).f3)], .agg #[.string t388, .string t389, .bool t390, .bool t391]] (by rfl) rfl rfl (by (try simp only [List.map_toArray, List.map_cons, List.map_nil]); first | done | (simp only [hji34]; rfl) | rfl | (simp only [List.length_drop, List.length_take]; rfl)) ?_
      with_reducible refine (newelref05_behind.calls kj8 ((rd_T30 x4_1 (ji34)).f0) ((rd_T30 x4_1 (ji34)).f1) ((rd_T30 x4_1 (ji34)).f2) ((rd_T30 x4_1 (ji34)).f3) t388 t389 t390 t391 true _ (gS HG) A37.out).mono ?_
      rintro e w43 ⟨rfl, hb⟩
      have HS4_ := (hb.cell (World.block_lt_of_cell? _ _ (hHeld.2.2.2.2.1))).trans (hHeld.2.2.2.2.1)
      have HS5_ := (hb.cell (World.block_lt_of_cell? _ _ (hHeld.2.2.2.2.2.1))).trans (hHeld.2.2.2.2.2.1)
      have HS6_ := (hb.cell (World.block_lt_of_cell? _ _ (hHeld.2.2.2.2.2.2.1))).trans (hHeld.2.2.2.2.2.2.1)
      have HS7_ := (hb.cell (World.block_lt_of_cell? _ _ (hHeld.2.2.2.2.2.2.2))).trans (hHeld.2.2.2.2.2.2.2)
      refine ⟨_, rfl, ?_⟩
      replace HO_4 := rB HO_4 hb
      replace BK393 := kB BK393 hb
      replace HB := sB hb
      (try clear hb)
      refine hK.out _ _ ⟨(blk_cell BK393.out 0).trans rfl, (blk_cell BK393.out 1).trans rfl, (blk_cell BK393.out 2).trans rfl, (blk_cell BK393.out 3).trans rfl, HS4_, HS5_, HS6_, HS7_⟩ (fun hHeld => ?_)
      clear hK K
      refine nz (some 66) ?_
      refine pz 20 (some 67) HT_ ?_
      refine pz 21 (some 68) HT_ ?_
      refine pz 22 (some 69) HT_ ?_
      refine pz 23 (some 70) HT_ ?_
      refine pz 24 (some 71) HT_ ?_
      refine pz 25 (some 72) HT_ ?_
      refine pz 26 (some 73) HT_ ?_
      refine pz 27 (some 74) HT_ ?_
      refine done_ (done_of HT_.out (by kernel_rfl)) ?_
      try go_wp2
      go_meet
      case rel => exact ⟨_, (decide ((x4_1.length : Int) ≥ 20)), cA, H', ⟨by have := HK1.out; have := HJ1.out; have := HJ8.out; first | omega | exact Nat.le_refl _⟩, ⟨kR HO_4⟩, ⟨bK BK393⟩, ⟨bG⟩⟩
     replace c38 := Bool.eq_false_iff.mpr c38
     subst c38
     replace H : (newelref05_Parse.j4 kj8 x0_1 x4_1 x5_1 true t388 t389 t390 t391) = some (r1, r2) := by rw [if_neg nF] at H; exact H
     have H' := Aside0.mk H
     clear H
     try go_wp2
     have n0_ : Aside0 (Kd.R k30 30 ((((w25.setCell ⟨gb393, 0, none⟩ (.string t388)).setCell ⟨gb393, 1, none⟩ (.string t389)).setCell ⟨gb393, 2, none⟩ (.bool t390)).setCell ⟨gb393, 3, none⟩ (.bool t391)) w.heap.size (fun k_ => k_ ≠ gb393) u4 x4_1) := ⟨by (with_reducible repeat (first | apply Kd.R_alloc | apply Kd.R_drewN | apply Kd.R_drew)); exact Kd.R_mono (Kd.R_far (p := ⟨gb393, 3, none⟩) (Kd.R_far (p := ⟨gb393, 2, none⟩) (Kd.R_far (p := ⟨gb393, 1, none⟩) (Kd.R_far (p := ⟨gb393, 0, none⟩) (Kd.R_mono HO_4.out (fun k_ hk => (⟨hk, hk⟩ : _ ∧ k_ ≠ gb393))) (fun _ hk => hk.2) (.string t388)) (fun _ hk => hk.2) (.string t389)) (fun _ hk => hk.2) (.bool t390)) (fun _ hk => hk.2) (.bool t391)) (fun _ hk => hk.1)⟩
     have n1_ : Aside0 (((((w25.setCell ⟨gb393, 0, none⟩ (.string t388)).setCell ⟨gb393, 1, none⟩ (.string t389)).setCell ⟨gb393, 2, none⟩ (.bool t390)).setCell ⟨gb393, 3, none⟩ (.bool t391)).heap[gb393]? = some (.cells #[.string t388, .string t389, .bool t390, .bool t391] 30 (0, 0))) := ⟨bP BK393⟩
     have n2_ : Aside0 (Below w.heap.size w ((((w25.setCell ⟨gb393, 0, none⟩ (.string t388)).setCell ⟨gb393, 1, none⟩ (.string t389)).setCell ⟨gb393, 2, none⟩ (.bool t390)).setCell ⟨gb393, 3, none⟩ (.bool t391))) := ⟨bG⟩
     (try clear HO_4)
     (try clear BK393)
     (try clear HB)
     generalize ((((w25.setCell ⟨gb393, 0, none⟩ (.string t388)).setCell ⟨gb393, 1, none⟩ (.string t389)).setCell ⟨gb393, 2, none⟩ (.bool t390)).setCell ⟨gb393, 3, none⟩ (.bool t391)) = w44 at n0_ n1_ n2_ ⊢
     have HO_4 := n0_
     have BK393 := n1_
     have HB := n2_
     clear n0_ n1_ n2_
     replace HO_4 := Aside0.mk (Kd.R_drew HO_4.out)
     replace BK393 := Aside0.mk (blk_drew BK393.out)
     replace HB := Aside0.mk (below_drew1 HB.out)
     have p395 : 0 ≤ ((ji34) : Int) := dA
     have q395 : (ji34) < (x4_1.length : Int) := dA
     (try (obtain ⟨Ao_, co_, eo_⟩ := Kd.R_slice HO_4.out; subst eo_))
     obtain ⟨ad395, e395, hx395_0, hx395_1, hx395_2, hx395_3⟩ := at_T30 (Kd.R_reads' HO_4.out).2.2 (ji34) p395 q395
     cases e395
     replace p395 := eq_true p395
     replace q395 := eq_true q395
     refine start_ (n := 28) (S := fun w' => w'.cell? ⟨gb393, 0, none⟩ = some (.string t388) ∧ w'.cell? ⟨gb393, 1, none⟩ = some (.string t389) ∧ w'.cell? ⟨gb393, 2, none⟩ = some (.bool t390) ∧ w'.cell? ⟨gb393, 3, none⟩ = some (.bool t391) ∧ w'.cell? (ad395.add (((ji34)).toNat * 4)) = some (.string ((rd_T30 x4_1 (ji34)).f0)) ∧ w'.cell? ⟨(ad395.add (((ji34)).toNat * 4)).block, (ad395.add (((ji34)).toNat * 4)).off + 1, none⟩ = some (.string ((rd_T30 x4_1 (ji34)).f1)) ∧ w'.cell? ⟨(ad395.add (((ji34)).toNat * 4)).block, (ad395.add (((ji34)).toNat * 4)).off + 2, none⟩ = some (.bool ((rd_T30 x4_1 (ji34)).f2)) ∧ w'.cell? ⟨(ad395.add (((ji34)).toNat * 4)).block, (ad395.add (((ji34)).toNat * 4)).off + 3, none⟩ = some (.bool ((rd_T30 x4_1 (ji34)).f3))) (ds := []) #[false, false, false, false, false, false, false, false, false, false, false, false, false, false, false, false, false, false, false, false, false, false, false, false, false, false, false, false] (by kernel_rfl) rfl rfl ⟨(blk_cell BK393.out 0).trans rfl, (blk_cell BK393.out 1).trans rfl, (blk_cell BK393.out 2).trans rfl, (blk_cell BK393.out 3).trans rfl, hx395_0, hx395_1, hx395_2, hx395_3⟩ (fun hHeld => ?_); refine with_tabW newelref05_Parse.tab8 newelref05_Parse.bits8 (fun HT_ HW_ => ?_)
     generalize w44.drew = w45 at HO_4 BK393 HB hx395_0 hx395_1 hx395_2 hx395_3 hHeld ⊢
     refine pz 0 (some 47) HT_ ?_
     refine pz 1 (some 48) HT_ ?_
     refine pz 2 (some 49) HT_ ?_
     refine tm 3 (some 50) HT_ HW_ hHeld ?_
     refine on 4 (some 51) HT_ (fun K hK => ?_)
     refine goes_ Tryz.func14 (by kernel_rfl) rfl #[.agg #[.string t388, .string t389, .bool t390, .bool t391]] (by rfl) rfl rfl mA ?_
     with_reducible refine (newelref05_May.calls kj8 t388 t389 t390 t391 true _ (gS HG) A31.out).mono ?_
     rintro e w46 ⟨rfl, hb⟩
     have HS4_ := (hb.cell (World.block_lt_of_cell? _ _ (hHeld.2.2.2.2.1))).trans (hHeld.2.2.2.2.1)
     have HS5_ := (hb.cell (World.block_lt_of_cell? _ _ (hHeld.2.2.2.2.2.1))).trans (hHeld.2.2.2.2.2.1)
     have HS6_ := (hb.cell (World.block_lt_of_cell? _ _ (hHeld.2.2.2.2.2.2.1))).trans (hHeld.2.2.2.2.2.2.1)
     have HS7_ := (hb.cell (World.block_lt_of_cell? _ _ (hHeld.2.2.2.2.2.2.2))).trans (hHeld.2.2.2.2.2.2.2)
     refine ⟨_, rfl, ?_⟩
     replace HO_4 := rB HO_4 hb
     replace BK393 := kB BK393 hb
     replace HB := sB hb
     (try clear hb)
     obtain ⟨Ao47, co47, eo47⟩ := Kd.R_slice HO_4.out
     (first | subst eo47 | (injection eo47 with f1_ f2_ f3_; have f4_ := f1_.symm; have f5_ := f3_.symm; clear f1_ f2_ f3_; subst f4_; subst f5_))
     refine hK.out _ _ ⟨(blk_cell BK393.out 0).trans rfl, (blk_cell BK393.out 1).trans rfl, (blk_cell BK393.out 2).trans rfl, (blk_cell BK393.out 3).trans rfl, HS4_, HS5_, HS6_, HS7_⟩ (fun hHeld => ?_)
     clear hK K
     refine nz (some 51) ?_
     refine pz 5 (some 52) HT_ ?_
     refine pz 6 (some 53) HT_ ?_
     refine pz 7 (some 54) HT_ ?_
     refine pz 8 (some 55) HT_ ?_
     refine pz 9 (some 56) HT_ ?_
     refine pz 10 (some 57) HT_ ?_
     refine pz 11 (some 58) HT_ ?_
     refine pz 12 (some 59) HT_ ?_
     refine pz 13 (some 60) HT_ ?_
     refine pz 14 (some 61) HT_ ?_
     refine pz 15 (some 62) HT_ ?_
     refine pz 16 (some 63) HT_ ?_
     refine tm 17 (some 64) HT_ HW_ hHeld ?_
     refine tm 18 (some 65) HT_ HW_ hHeld ?_
     refine on 19 (some 66) HT_ (fun K hK => ?_)
     refine goes_ Tryz.func29 (by kernel_rfl) rfl #[.agg #[.string ((rd_T30 x4_1 (ji34)).f0), .string ((rd_T30 x4_1 (ji34)).f1), .bool ((rd_T30 x4_1 (ji34)).f2), .bool ((rd_T30 x4_1 (ji34)).f3)], .agg #[.string t388, .string t389, .bool t390, .bool t391]] (by rfl) rfl rfl (by (try simp only [List.map_toArray, List.map_cons, List.map_nil]); first | done | (simp only [hji34]; rfl) | rfl | (simp only [List.length_drop, List.length_take]; rfl)) ?_
     with_reducible refine (newelref05_behind.calls kj8 ((rd_T30 x4_1 (ji34)).f0) ((rd_T30 x4_1 (ji34)).f1) ((rd_T30 x4_1 (ji34)).f2) ((rd_T30 x4_1 (ji34)).f3) t388 t389 t390 t391 false _ (gS HG) A37.out).mono ?_
     rintro e w48 ⟨rfl, hb⟩
     have HS4_ := (hb.cell (World.block_lt_of_cell? _ _ (hHeld.2.2.2.2.1))).trans (hHeld.2.2.2.2.1)
     have HS5_ := (hb.cell (World.block_lt_of_cell? _ _ (hHeld.2.2.2.2.2.1))).trans (hHeld.2.2.2.2.2.1)
     have HS6_ := (hb.cell (World.block_lt_of_cell? _ _ (hHeld.2.2.2.2.2.2.1))).trans (hHeld.2.2.2.2.2.2.1)
     have HS7_ := (hb.cell (World.block_lt_of_cell? _ _ (hHeld.2.2.2.2.2.2.2))).trans (hHeld.2.2.2.2.2.2.2)
     refine ⟨_, rfl, ?_⟩
     replace HO_4 := rB HO_4 hb
     replace BK393 := kB BK393 hb
     replace HB := sB hb
     (try clear hb)
     refine hK.out _ _ ⟨(blk_cell BK393.out 0).trans rfl, (blk_cell BK393.out 1).trans rfl, (blk_cell BK393.out 2).trans rfl, (blk_cell BK393.out 3).trans rfl, HS4_, HS5_, HS6_, HS7_⟩ (fun hHeld => ?_)
     clear hK K
     refine nz (some 66) ?_
     refine pz 20 (some 67) HT_ ?_
     refine pz 21 (some 68) HT_ ?_
     refine pz 22 (some 69) HT_ ?_
     refine pz 23 (some 70) HT_ ?_
     refine pu 24 (some 71) HT_ ?_
     refine pu 25 (some 72) HT_ ?_
     refine pu 26 (some 73) HT_ ?_
     refine pz 27 (some 74) HT_ ?_
     refine done_ (done_of HT_.out (by kernel_rfl)) ?_
     try go_wp2
     go_meet
     case rel => exact ⟨_, (true), cA, H', ⟨by have := HK1.out; have := HJ1.out; have := HJ8.out; first | omega | exact Nat.le_refl _⟩, ⟨kR HO_4⟩, ⟨bK BK393⟩, ⟨bG⟩⟩
    clear HC21
    try clear c1
    try clear p2
    try clear c3
    try clear c14
    try clear c30
    try clear c32
    obtain ⟨kq, x74_20, rfl, HA, HJ20, HO_4, BK393, HB⟩ := hcut
    cases kq with
    | zero => exact absurd HA.out (by simp [newelref05_Parse.j4])
    | succ kj20 =>
     have H := HA.out
     clear HA
     simp only [newelref05_Parse.j4] at H
     by_cases c58 : x74_20 = true
     ·subst c58
      replace H : (some (([] : List (S30)), 12)) = some (r1, r2) := by rw [if_pos rfl] at H; exact H
      simp only [Option.some.injEq, Prod.mk.injEq] at H
      obtain ⟨rfl, rfl⟩ := H
      go_wp2
      go_ret2
      exact ⟨_, by first | rfl | (simp [errW_none, errW_some] <;> rfl) | (simp [*, errW_none, errW_some] <;> rfl), by first | exact Kd.R_nil _ _ _ _ _ | exact Kd.N_nil _ _ _ _ _ | exact Kd.V_nil _ _ _ _ _ | exact Kd.Q_nil _ _ _ _ _ | exact Kd.S_nil _ _ _ _ _, bG⟩
     replace c58 := Bool.eq_false_iff.mpr c58
     subst c58
     replace H : (if x4_1.length < 3518437208883 then ((some (x4_1 ++ [(⟨t388, t389, t390, t391⟩ : S30)] : List (S30))).bind fun y397 => (if 0 ≤ (wrap64 (x5_1 + 1)) then (if (wrap64 (x5_1 + 1)) ≤ (x0_1.size : Int) then (if (x0_1.extract ((wrap64 (x5_1 + 1)) : Int).toNat x0_1.size).toList = ([] : List UInt8) then (some (y397, 0)) else (if 0 < ((x0_1.extract ((wrap64 (x5_1 + 1)) : Int).toNat x0_1.size).size : Int) then (if (bt (x0_1.extract ((wrap64 (x5_1 + 1)) : Int).toNat x0_1.size) 0) = 44 then (if 1 ≤ ((x0_1.extract ((wrap64 (x5_1 + 1)) : Int).toNat x0_1.size).size : Int) then (newelref05_Parse.l0 kj20 ((x0_1.extract ((wrap64 (x5_1 + 1)) : Int).toNat x0_1.size).extract 1 (x0_1.extract ((wrap64 (x5_1 + 1)) : Int).toNat x0_1.size).size) y397) else (none)) else (some (([] : List (S30)), 12))) else (none))) else (none)) else (none))) else (none)) = some (r1, r2) := by rw [if_neg nF] at H; exact H
     obtain ⟨c59, H⟩ := gp H
     have LMc59 := Aside0.mk c59
     clear c59
     obtain ⟨y397, hy397⟩ : ∃ y_ : List (S30), y_ = (x4_1 ++ [(⟨t388, t389, t390, t391⟩ : S30)]) := ⟨_, rfl⟩
     replace H : (if 0 ≤ (wrap64 (x5_1 + 1)) then (if (wrap64 (x5_1 + 1)) ≤ (x0_1.size : Int) then (if (x0_1.extract ((wrap64 (x5_1 + 1)) : Int).toNat x0_1.size).toList = ([] : List UInt8) then (some (y397, 0)) else (if 0 < ((x0_1.extract ((wrap64 (x5_1 + 1)) : Int).toNat x0_1.size).size : Int) then (if (bt (x0_1.extract ((wrap64 (x5_1 + 1)) : Int).toNat x0_1.size) 0) = 44 then (if 1 ≤ ((x0_1.extract ((wrap64 (x5_1 + 1)) : Int).toNat x0_1.size).size : Int) then (newelref05_Parse.l0 kj20 ((x0_1.extract ((wrap64 (x5_1 + 1)) : Int).toNat x0_1.size).extract 1 (x0_1.extract ((wrap64 (x5_1 + 1)) : Int).toNat x0_1.size).size) y397) else (none)) else (some (([] : List (S30)), 12))) else (none))) else (none)) else (none)) = some (r1, r2) := by first | (rw [hy397]; with_reducible exact H) | (have H2_ := (Option.bind_some _ _).symm.trans H; rw [hy397]; with_reducible exact H2_) | (have H2_ := (Option.bind_some _ _).symm.trans H; with_reducible exact H2_) | with_reducible exact H | (rw [hy397]; exact H) | exact H
     have Ny397 := Aside0.mk hy397
     clear hy397
     obtain ⟨ji60, hji60⟩ : ∃ j_ : Int, (wrap64 (x5_1 + 1)) = j_ := ⟨_, rfl⟩
     rw [hji60] at H
     have hji60w : (IntKind.i64.wrap (x5_1 + 1)) = ji60 := (i64_w _).trans hji60
     obtain ⟨c61, H⟩ := gp H
     have c61b0 := eq_true c61
     have c61b1 := dT c61
     clear c61
     obtain ⟨c62, H⟩ := gp H
     have c62b0 := eq_true c62
     have c62b1 := dT c62
     clear c62
     by_cases c63 : (x0_1.extract ((ji60) : Int).toNat x0_1.size).toList = ([] : List UInt8)
     ·rw [if_pos c63] at H
      obtain ⟨c63b0, c63b1⟩ := eqT c63
      (try (have c63b2 : ((x0_1.extract ((ji60) : Int).toNat x0_1.size).toList).isEmpty = true := by simpa using c63))
      clear c63
      simp only [Option.some.injEq, Prod.mk.injEq] at H
      obtain ⟨rfl, rfl⟩ := H
      obtain ⟨hcz64_0, hcz64_1, hcz64_2, hcz64_3, hfz64_0, hfz64_1, hfz64_2, hfz64_3⟩ := cells4 BK393
      go_wp2_with (first | ((with_reducible refine gate_builtin (b := .append) (xs := #[.tmp 75, .tmp 77]) rfl ?_); (try (refine gate_guard (by rfl) ?_; dsimp only)); at_builtin; refine Kd.R_append k30 (w0 := w) w.heap.size rfl (.tmp 75) (.tmp 77) 22 30 (.agg #[(.string ⟨#[]⟩), (.string ⟨#[]⟩), (.bool false), (.bool false)]) 40 rfl Tryz.underlying22 info30 rfl (by decide) (by omega) u4 x4_1 (⟨t388, t389, t390, t391⟩ : S30) [.string t388, .string t389, .bool t390, .bool t391] (fun k_ => k_ ≠ gb393) (fun _ => False) rfl rfl ?aP (fun _ hk => hk.elim) ?aF ?aO ?aB ?aS ?aL ?_; (case aP => exact k30_mkM _ _ _ (⟨t388, t389, t390, t391⟩ : S30)); (case aB => exact bG); (case aF => exact (fun k_ hk => Kd.freshB (g := gb393) (o := .cells #[.string t388, .string t389, .bool t390, .bool t391] 30 (0, 0)) (bK BK393) k_ hk)); (case aO => exact (kR HO_4)); (case aS => exact (below_size bG)); (case aL => have := LMc59.out; omega); intro v398 w65 ho hb hg hat; rw [← Ny397.out] at ho; replace BK393 := Aside0.mk (blk_grown (g := gb393) (o := .cells #[.string t388, .string t389, .bool t390, .bool t391] 30 (0, 0)) (bK BK393) hg (Kd.R_away HO_4.out (fun _ hk => hk))); replace HB := Aside0.mk (hb); have HO399 := Aside0.mk (ho); clear HO_4; clear ho hb hg hat))
      go_ret2
      exact ⟨_, by first | rfl | (simp [errW_none, errW_some] <;> rfl) | (simp only [← hji60]; first | rfl | (simp [errW_none, errW_some] <;> rfl)) | (simp [*, errW_none, errW_some] <;> rfl), by (with_reducible repeat (first | apply Kd.R_alloc | apply Kd.R_drewN | apply Kd.R_drew)); exact Kd.R_mono HO399.out (fun _ hk => trivial), bG⟩
     rw [if_neg c63] at H
     obtain ⟨c63b0, c63b1⟩ := eqF c63
     (try (have c63b2 : ((x0_1.extract ((ji60) : Int).toNat x0_1.size).toList).isEmpty = false := by simpa using c63))
     obtain ⟨c66, H⟩ := gp H
     have c66b0 := dT c66
     have c66b1 : decide (0 < (x0_1.extract ((ji60) : Int).toNat x0_1.size).size) = true := decide_eq_true (by omega)
     try have c66s : (0 < x0_1.size - ji60.toNat) = True := eq_true (by have z_ := of_decide_eq_true c66b1; simp only [ByteArray.size_extract] at z_; omega)
     clear c66
     by_cases c68 : (bt (x0_1.extract ((ji60) : Int).toNat x0_1.size) 0) = 44
     rotate_left
     ·rw [if_neg c68] at H
      obtain ⟨c68b0, c68b1⟩ := eqF c68
      simp only [Option.some.injEq, Prod.mk.injEq] at H
      obtain ⟨rfl, rfl⟩ := H
      obtain ⟨hcz72_0, hcz72_1, hcz72_2, hcz72_3, hfz72_0, hfz72_1, hfz72_2, hfz72_3⟩ := cells4 BK393
      go_wp2_with (first | ((with_reducible refine gate_builtin (b := .append) (xs := #[.tmp 75, .tmp 77]) rfl ?_); (try (refine gate_guard (by rfl) ?_; dsimp only)); at_builtin; refine Kd.R_append k30 (w0 := w) w.heap.size rfl (.tmp 75) (.tmp 77) 22 30 (.agg #[(.string ⟨#[]⟩), (.string ⟨#[]⟩), (.bool false), (.bool false)]) 40 rfl Tryz.underlying22 info30 rfl (by decide) (by omega) u4 x4_1 (⟨t388, t389, t390, t391⟩ : S30) [.string t388, .string t389, .bool t390, .bool t391] (fun k_ => k_ ≠ gb393) (fun _ => False) rfl rfl ?aP (fun _ hk => hk.elim) ?aF ?aO ?aB ?aS ?aL ?_; (case aP => exact k30_mkM _ _ _ (⟨t388, t389, t390, t391⟩ : S30)); (case aB => exact bG); (case aF => exact (fun k_ hk => Kd.freshB (g := gb393) (o := .cells #[.string t388, .string t389, .bool t390, .bool t391] 30 (0, 0)) (bK BK393) k_ hk)); (case aO => exact (kR HO_4)); (case aS => exact (below_size bG)); (case aL => have := LMc59.out; omega); intro v398 w73 ho hb hg hat; rw [← Ny397.out] at ho; replace BK393 := Aside0.mk (blk_grown (g := gb393) (o := .cells #[.string t388, .string t389, .bool t390, .bool t391] 30 (0, 0)) (bK BK393) hg (Kd.R_away HO_4.out (fun _ hk => hk))); replace HB := Aside0.mk (hb); have HO399 := Aside0.mk (ho); clear HO_4; clear ho hb hg hat; have p67 : 0 ≤ (0 : Int) := (by omega); have q67 : 0 < (x0_1.extract ((ji60) : Int).toNat x0_1.size).size := (by have : (0 : Int) < ((x0_1.extract ((ji60) : Int).toNat x0_1.size).size : Int) := dA; omega); have hx67 : ∀ h : 0 < (x0_1.extract ((ji60) : Int).toNat x0_1.size).size, (((x0_1.extract ((ji60) : Int).toNat x0_1.size)[0]'h).toNat : Int) = bt (x0_1.extract ((ji60) : Int).toNat x0_1.size) 0 := bt_at (x0_1.extract ((ji60) : Int).toNat x0_1.size) 0; clear p67; have qi67 : (0 < ((x0_1.extract ((ji60) : Int).toNat x0_1.size).size : Int)) = True := eq_true (dA); replace q67 := eq_true q67))
      go_ret2
      exact ⟨_, by first | rfl | (simp [errW_none, errW_some] <;> rfl) | (simp only [← hji60]; first | rfl | (simp [errW_none, errW_some] <;> rfl)) | (simp [*, errW_none, errW_some] <;> rfl), by first | exact Kd.R_nil _ _ _ _ _ | exact Kd.N_nil _ _ _ _ _ | exact Kd.V_nil _ _ _ _ _ | exact Kd.Q_nil _ _ _ _ _ | exact Kd.S_nil _ _ _ _ _, bG⟩
     rw [if_pos c68] at H
     obtain ⟨c68b0, c68b1⟩ := eqT c68
     clear c68
     obtain ⟨c69, H⟩ := gp H
     have c69b0 := eq_true c69
     have c69b1 := dT c69
     try have c69s : (1 ≤ x0_1.size - ji60.toNat) = True := eq_true (by have z_ := of_decide_eq_true c69b1; simp only [ByteArray.size_extract] at z_; omega)
     try have c69i : (((x0_1.size - ji60.toNat : Nat) : Int) < 1) = False := eq_false (by have z_ := of_decide_eq_true c69b1; simp only [ByteArray.size_extract] at z_; omega)
     try have c69j : (1 ≤ ((x0_1.size - ji60.toNat : Nat) : Int)) = True := eq_true (by have z_ := of_decide_eq_true c69b1; simp only [ByteArray.size_extract] at z_; omega)
     clear c69
     have H' := Aside0.mk H
     clear H
     obtain ⟨hcz70_0, hcz70_1, hcz70_2, hcz70_3, hfz70_0, hfz70_1, hfz70_2, hfz70_3⟩ := cells4 BK393
     go_wp2_with (first | ((with_reducible refine gate_builtin (b := .append) (xs := #[.tmp 75, .tmp 77]) rfl ?_); (try (refine gate_guard (by rfl) ?_; dsimp only)); at_builtin; refine Kd.R_append k30 (w0 := w) w.heap.size rfl (.tmp 75) (.tmp 77) 22 30 (.agg #[(.string ⟨#[]⟩), (.string ⟨#[]⟩), (.bool false), (.bool false)]) 40 rfl Tryz.underlying22 info30 rfl (by decide) (by omega) u4 x4_1 (⟨t388, t389, t390, t391⟩ : S30) [.string t388, .string t389, .bool t390, .bool t391] (fun k_ => k_ ≠ gb393) (fun _ => False) rfl rfl ?aP (fun _ hk => hk.elim) ?aF ?aO ?aB ?aS ?aL ?_; (case aP => exact k30_mkM _ _ _ (⟨t388, t389, t390, t391⟩ : S30)); (case aB => exact bG); (case aF => exact (fun k_ hk => Kd.freshB (g := gb393) (o := .cells #[.string t388, .string t389, .bool t390, .bool t391] 30 (0, 0)) (bK BK393) k_ hk)); (case aO => exact (kR HO_4)); (case aS => exact (below_size bG)); (case aL => have := LMc59.out; omega); intro v398 w71 ho hb hg hat; rw [← Ny397.out] at ho; replace BK393 := Aside0.mk (blk_grown (g := gb393) (o := .cells #[.string t388, .string t389, .bool t390, .bool t391] 30 (0, 0)) (bK BK393) hg (Kd.R_away HO_4.out (fun _ hk => hk))); replace HB := Aside0.mk (hb); have HO399 := Aside0.mk (ho); clear HO_4; clear ho hb hg hat; have p67 : 0 ≤ (0 : Int) := (by omega); have q67 : 0 < (x0_1.extract ((ji60) : Int).toNat x0_1.size).size := (by have : (0 : Int) < ((x0_1.extract ((ji60) : Int).toNat x0_1.size).size : Int) := dA; omega); have hx67 : ∀ h : 0 < (x0_1.extract ((ji60) : Int).toNat x0_1.size).size, (((x0_1.extract ((ji60) : Int).toNat x0_1.size)[0]'h).toNat : Int) = bt (x0_1.extract ((ji60) : Int).toNat x0_1.size) 0 := bt_at (x0_1.extract ((ji60) : Int).toNat x0_1.size) 0; clear p67; have qi67 : (0 < ((x0_1.extract ((ji60) : Int).toNat x0_1.size).size : Int)) = True := eq_true (dA); replace q67 := eq_true q67))
     go_roundg kj20
     case measure => have := HK1.out; have := HJ1.out; have := HJ8.out; have := HJ20.out; omega
     case rel => exact ⟨((x0_1.extract ((ji60) : Int).toNat x0_1.size).extract 1 (x0_1.extract ((ji60) : Int).toNat x0_1.size).size), (y397), (by first | rfl | (simp; done) | (simp only [← hji60] <;> (first | rfl | simp)) | (simp [*]; done)), H', ⟨by have := HK1.out; have := HJ1.out; have := HJ8.out; have := HJ20.out; omega⟩, ⟨by (with_reducible repeat (first | apply Kd.R_alloc | apply Kd.R_drewN | apply Kd.R_drew)); exact Kd.R_mono HO399.out (fun _ hk => trivial)⟩, ⟨bG⟩⟩
mutual
def newelref05_Text.l0 : Nat → List (S30) → ByteArray → Int → Option (ByteArray)
 | 0, _, _, _ => none
 | k + 1, x0, x3, x4 => if x4 < (x0.length : Int) then (if 0 ≤ x4 then (if x4 > 0 then (if x3.size + 1 ≤ 9223372036854775807 then (newelref05_Text.j1 k x0 (x3 ++ (⟨#[44]⟩ : ByteArray)) x4 ((rd_T30 x0 x4).f0) ((rd_T30 x0 x4).f1) ((rd_T30 x0 x4).f2) ((rd_T30 x0 x4).f3)) else (none)) else (newelref05_Text.j1 k x0 x3 x4 ((rd_T30 x0 x4).f0) ((rd_T30 x0 x4).f1) ((rd_T30 x0 x4).f2) ((rd_T30 x0 x4).f3))) else (none)) else (some x3)
def newelref05_Text.j1 : Nat → List (S30) → ByteArray → Int → ByteArray → ByteArray → Bool → Bool → Option (ByteArray)
 | 0, _, _, _, _, _, _, _ => none
 | k + 1, x0, x3, x4, x277000, x277001, x277002, x277003 => if x277002 = true then (if x3.size + 1 ≤ 9223372036854775807 then (newelref05_Text.j2 k x0 (x3 ++ (⟨#[91]⟩ : ByteArray)) x4 x277000 x277001 x277002 x277003) else (none)) else (if x3.size + 1 ≤ 9223372036854775807 then (newelref05_Text.j2 k x0 (x3 ++ (⟨#[40]⟩ : ByteArray)) x4 x277000 x277001 x277002 x277003) else (none))
def newelref05_Text.j2 : Nat → List (S30) → ByteArray → Int → ByteArray → ByteArray → Bool → Bool → Option (ByteArray)
 | 0, _, _, _, _, _, _, _ => none
 | k + 1, x0, x3, x4, x277000, x277001, x277002, x277003 => if x3.size + x277000.size ≤ 9223372036854775807 then (if x277000.toList = x277001.toList then (if x277002 = true then (newelref05_Text.j3 k x0 (x3 ++ x277000) x4 (!x277003) x277000 x277001 x277002 x277003) else (newelref05_Text.j3 k x0 (x3 ++ x277000) x4 true x277000 x277001 x277002 x277003)) else (newelref05_Text.j3 k x0 (x3 ++ x277000) x4 true x277000 x277001 x277002 x277003)) else (none)
def newelref05_Text.j3 : Nat → List (S30) → ByteArray → Int → Bool → ByteArray → ByteArray → Bool → Bool → Option (ByteArray)
 | 0, _, _, _, _, _, _, _, _ => none
 | k + 1, x0, x3, x4, x44, x277000, x277001, x277002, x277003 => if x44 = true then (if x3.size + 1 ≤ 9223372036854775807 then (if (x3 ++ (⟨#[44]⟩ : ByteArray)).size + x277001.size ≤ 9223372036854775807 then (if x277003 = true then (if ((x3 ++ (⟨#[44]⟩ : ByteArray)) ++ x277001).size + 1 ≤ 9223372036854775807 then (newelref05_Text.l0 k x0 (((x3 ++ (⟨#[44]⟩ : ByteArray)) ++ x277001) ++ (⟨#[93]⟩ : ByteArray)) (wrap64 (x4 + 1))) else (none)) else (if ((x3 ++ (⟨#[44]⟩ : ByteArray)) ++ x277001).size + 1 ≤ 9223372036854775807 then (newelref05_Text.l0 k x0 (((x3 ++ (⟨#[44]⟩ : ByteArray)) ++ x277001) ++ (⟨#[41]⟩ : ByteArray)) (wrap64 (x4 + 1))) else (none))) else (none)) else (none)) else (if x277003 = true then (if x3.size + 1 ≤ 9223372036854775807 then (newelref05_Text.l0 k x0 (x3 ++ (⟨#[93]⟩ : ByteArray)) (wrap64 (x4 + 1))) else (none)) else (if x3.size + 1 ≤ 9223372036854775807 then (newelref05_Text.l0 k x0 (x3 ++ (⟨#[41]⟩ : ByteArray)) (wrap64 (x4 + 1))) else (none)))
end
def newelref05_Text.f (k : Nat) (l0 : List (S30)) : Option (ByteArray) := newelref05_Text.l0 k l0 (⟨#[]⟩ : ByteArray) 0
theorem newelref05_Text.mono_l : ∀ k, (∀ y0 y1 y2, LeO (newelref05_Text.l0 k y0 y1 y2) (newelref05_Text.l0 (k + 1) y0 y1 y2)) ∧ (∀ y0 y1 y2 y3 y4 y5 y6, LeO (newelref05_Text.j1 k y0 y1 y2 y3 y4 y5 y6) (newelref05_Text.j1 (k + 1) y0 y1 y2 y3 y4 y5 y6)) ∧ (∀ y0 y1 y2 y3 y4 y5 y6, LeO (newelref05_Text.j2 k y0 y1 y2 y3 y4 y5 y6) (newelref05_Text.j2 (k + 1) y0 y1 y2 y3 y4 y5 y6)) ∧ (∀ y0 y1 y2 y3 y4 y5 y6 y7, LeO (newelref05_Text.j3 k y0 y1 y2 y3 y4 y5 y6 y7) (newelref05_Text.j3 (k + 1) y0 y1 y2 y3 y4 y5 y6 y7))
 | 0 => ⟨fun _ _ _ r h => by simp [newelref05_Text.l0] at h, fun _ _ _ _ _ _ _ r h => by simp [newelref05_Text.j1] at h, fun _ _ _ _ _ _ _ r h => by simp [newelref05_Text.j2] at h, fun _ _ _ _ _ _ _ _ r h => by simp [newelref05_Text.j3] at h⟩
 | k + 1 => by
  obtain ⟨ih0, ih1, ih2, ih3⟩ := newelref05_Text.mono_l k
  refine ⟨?_, ?_, ?_, ?_⟩
  ·intro y0 y1 y2
   unfold newelref05_Text.l0
   exact mo
  ·intro y0 y1 y2 y3 y4 y5 y6
   unfold newelref05_Text.j1
   exact mo
  ·intro y0 y1 y2 y3 y4 y5 y6
   unfold newelref05_Text.j2
   exact mo
  ·intro y0 y1 y2 y3 y4 y5 y6 y7
   unfold newelref05_Text.j3
   exact mo
theorem newelref05_Text.mono : ∀ a0 k, LeO (newelref05_Text.f k a0) (newelref05_Text.f (k + 1) a0) := by
 intro a0 k
 obtain ⟨ih0, ih1, ih2, ih3⟩ := newelref05_Text.mono_l k
 unfold newelref05_Text.f
 exact mo
theorem newelref05_Text.calls (k : Nat) (A0 : Option Addr) (c0 : Nat) (l0 : List (S30)) (r : ByteArray) (w : World) (hr0 : Kd.C k30 w A0 l0.length l0) (hc0 : l0.length ≤ c0) (hG : Glob w) (h : newelref05_Text.f k l0 = some r) :
 Calls Tryz.prog 13 #[.slice A0 l0.length c0] w fun e w' => e = .returned (.string r) ∧ Below w.heap.size w w' := by
 have hu30 := Tryz.underlying30
 have HG := Aside0.mk hG
 clear hG
 have HR0 := Aside0.mk hr0
 have HC0 := Aside0.mk hc0
 clear hr0 hc0
 have HB := Aside0.mk (Below.refl w.heap.size w)
 have H : (newelref05_Text.l0 k l0 (⟨#[]⟩ : ByteArray) 0) = some r := h
 clear h
 have H' := Aside0.mk H
 clear H
 go_enter Tryz.func13, Tryz.ntmps13
 go_wp2
 go_loopg [3, 4] k (fun kq v3 v4 w' => ∃ (x3_1 : ByteArray) (x4_1 : Int), v3 = .string x3_1 ∧ v4 = .int .i64 x4_1 ∧ Aside0 (newelref05_Text.l0 kq l0 x3_1 x4_1 = some r) ∧ Aside0 (kq ≤ k) ∧ Aside0 (Below w.heap.size w w'))
 case atStart => exact ⟨((⟨#[]⟩ : ByteArray)), (0), cA, cA, H', ⟨Nat.le_refl _⟩, ⟨bE⟩⟩
 clear H'
 try clear c1
 obtain ⟨x3_1, x4_1, rfl, rfl, HA, HK1, HB⟩ := hrel
 cases gk with
 | zero => exact absurd HA.out (by simp [newelref05_Text.l0])
 | succ k1 =>
  have H := HA.out
  clear HA
  simp only [newelref05_Text.l0] at H
  (try simp only [toList_lit] at H)
  by_cases c2 : x4_1 < (l0.length : Int)
  rotate_left
  ·rw [if_neg c2] at H
   have c2b0 := dF c2
   clear c2
   obtain rfl := Option.some.inj H
   go_wp2
   go_ret
   exact ⟨eA, bE⟩
  rw [if_pos c2] at H
  have c2b0 := dT c2
  clear c2
  obtain ⟨c3, H⟩ := gp H
  have c3b0 := dT c3
  clear c3
  have HC4 := Aside0.mk H
  clear H
  have p275 : 0 ≤ (x4_1 : Int) := dA
  have q275 : x4_1 < (l0.length : Int) := dA
  obtain ⟨ad275, e275, hx275_0, hx275_1, hx275_2, hx275_3⟩ := at_T30 HR0.out x4_1 p275 q275
  cases e275
  replace hx275_0 := (HB.out.cell (World.block_lt_of_cell? w _ hx275_0)).trans hx275_0
  replace hx275_1 := (HB.out.cell (World.block_lt_of_cell? w _ hx275_1)).trans hx275_1
  replace hx275_2 := (HB.out.cell (World.block_lt_of_cell? w _ hx275_2)).trans hx275_2
  replace hx275_3 := (HB.out.cell (World.block_lt_of_cell? w _ hx275_3)).trans hx275_3
  replace p275 := eq_true p275
  replace q275 := eq_true q275
  go_upto_if 17 with (first | (refine be 5 #[.string (⟨#[]⟩ : ByteArray), .string (⟨#[]⟩ : ByteArray), .bool false, .bool false] 30 ?_; intro gb276 hg w5 hbox hb; have BK276 := Aside0.mk (hbox); have GW276 := gW hg; have GE276 := gW hg; replace HB := sB hb; clear hb hbox hg; have hcz6_0 : w5.cell? ⟨gb276, 0, none⟩ = some (.string (⟨#[]⟩ : ByteArray)) := (blk_cell BK276.out 0).trans rfl; have hcz6_1 : w5.cell? ⟨gb276, 1, none⟩ = some (.string (⟨#[]⟩ : ByteArray)) := (blk_cell BK276.out 1).trans rfl; have hcz6_2 : w5.cell? ⟨gb276, 2, none⟩ = some (.bool false) := (blk_cell BK276.out 2).trans rfl; have hcz6_3 : w5.cell? ⟨gb276, 3, none⟩ = some (.bool false) := (blk_cell BK276.out 3).trans rfl; have hfz6_0 := blk_frozen BK276.out 0; have hfz6_1 := blk_frozen BK276.out 1; have hfz6_2 := blk_frozen BK276.out 2; have hfz6_3 := blk_frozen BK276.out 3))
  (try simp only [Act.put, List.setIfInBounds_toArray, List.set_cons_zero, List.set_cons_succ])
  go_cut [3] (fun v3 wc => ∃ (kq : Nat) (x3_3 : ByteArray), v3 = .string x3_3 ∧ Aside0 (newelref05_Text.j1 kq l0 x3_3 x4_1 ((rd_T30 l0 x4_1).f0) ((rd_T30 l0 x4_1).f1) ((rd_T30 l0 x4_1).f2) ((rd_T30 l0 x4_1).f3) = some r) ∧ Aside0 (kq ≤ k1) ∧ Aside0 (wc.heap[gb276]? = some (.cells #[.string ((rd_T30 l0 x4_1).f0), .string ((rd_T30 l0 x4_1).f1), .bool ((rd_T30 l0 x4_1).f2), .bool ((rd_T30 l0 x4_1).f3)] 30 (0, 0))) ∧ Aside0 (Below w.heap.size w wc))
  case first =>
   have H := HC4.out
   clear HC4
   by_cases c7 : x4_1 > 0
   rotate_left
   ·rw [if_neg c7] at H
    have c7b0 := dF c7
    clear c7
    (first | rw [c7b0] | (simp only [i64_w, i32_w]; rw [c7b0]) | skip)
    have H' := Aside0.mk H
    clear H
    go_wp2
    go_meet
    case rel => exact ⟨_, (x3_1), cA, H', ⟨by have := HK1.out; first | omega | exact Nat.le_refl _⟩, ⟨bP BK276⟩, ⟨bG⟩⟩
   rw [if_pos c7] at H
   have c7b0 := dT c7
   clear c7
   (first | rw [c7b0] | (simp only [i64_w, i32_w]; rw [c7b0]) | skip)
   obtain ⟨c8, H⟩ := gp H
   have c8b0 := eq_true c8
   have c8b1 := dT c8
   try have c8b2 : (9223372036854775807 < x3_1.size + 1) = False := eq_false (Nat.not_lt.2 c8)
   have H' := Aside0.mk H
   clear H
   go_wp2
   go_meet
   case rel => exact ⟨_, (x3_1 ++ (⟨#[44]⟩ : ByteArray)), cA, H', ⟨by have := HK1.out; first | omega | exact Nat.le_refl _⟩, ⟨bP BK276⟩, ⟨bG⟩⟩
  clear HC4
  try clear c1
  try clear c2
  try clear c2b0
  try clear p2
  try clear q2
  try clear hx2
  try clear c3
  try clear c3b0
  try clear c7
  try clear c7b0
  try clear c8
  try clear c8b0
  try clear c8b1
  try clear c8b2
  try clear hcz6_0
  try clear hcz6_1
  try clear hcz6_2
  try clear hcz6_3
  try clear hfz6_0
  try clear hfz6_1
  try clear hfz6_2
  try clear hfz6_3
  try clear hx275_0
  try clear hx275_1
  try clear hx275_2
  try clear hx275_3
  try clear p275
  try clear q275
  obtain ⟨kq, x3_3, rfl, HA, HJ3, BK276, HB⟩ := hcut
  cases kq with
  | zero => exact absurd HA.out (by simp [newelref05_Text.j1])
  | succ kj3 =>
   have H := HA.out
   clear HA
   simp only [newelref05_Text.j1] at H
   (try simp only [toList_lit] at H)
   have HC9 := Aside0.mk H
   clear H
   obtain ⟨hcz10_0, hcz10_1, hcz10_2, hcz10_3, hfz10_0, hfz10_1, hfz10_2, hfz10_3⟩ := cells4 BK276
   go_upto_if 21 with (fail)
   go_cut [3] (fun v3 wc => ∃ (kq : Nat) (x3_8 : ByteArray), v3 = .string x3_8 ∧ Aside0 (newelref05_Text.j2 kq l0 x3_8 x4_1 ((rd_T30 l0 x4_1).f0) ((rd_T30 l0 x4_1).f1) ((rd_T30 l0 x4_1).f2) ((rd_T30 l0 x4_1).f3) = some r) ∧ Aside0 (kq ≤ kj3) ∧ Aside0 (wc.heap[gb276]? = some (.cells #[.string ((rd_T30 l0 x4_1).f0), .string ((rd_T30 l0 x4_1).f1), .bool ((rd_T30 l0 x4_1).f2), .bool ((rd_T30 l0 x4_1).f3)] 30 (0, 0))) ∧ Aside0 (Below w.heap.size w wc))
   case first =>
    have H := HC9.out
    clear HC9
    by_cases c11 : ((rd_T30 l0 x4_1).f2) = true
    rotate_left
    ·rw [if_neg c11] at H
     have c11b0 : ((rd_T30 l0 x4_1).f2) = false := by simpa using c11
     clear c11
     (first | rw [c11b0] | (simp only [i64_w, i32_w]; rw [c11b0]) | skip)
     obtain ⟨c13, H⟩ := gp H
     have c13b0 := eq_true c13
     have c13b1 := dT c13
     try have c13b2 : (9223372036854775807 < x3_3.size + 1) = False := eq_false (Nat.not_lt.2 c13)
     have H' := Aside0.mk H
     clear H
     go_wp2
     go_meet
     case rel => exact ⟨_, (x3_3 ++ (⟨#[40]⟩ : ByteArray)), cA, H', ⟨by have := HK1.out; have := HJ3.out; first | omega | exact Nat.le_refl _⟩, ⟨bK BK276⟩, ⟨bG⟩⟩
    rw [if_pos c11] at H
    have c11b0 : ((rd_T30 l0 x4_1).f2) = true := c11
    clear c11
    (first | rw [c11b0] | (simp only [i64_w, i32_w]; rw [c11b0]) | skip)
    obtain ⟨c12, H⟩ := gp H
    have c12b0 := eq_true c12
    have c12b1 := dT c12
    try have c12b2 : (9223372036854775807 < x3_3.size + 1) = False := eq_false (Nat.not_lt.2 c12)
    have H' := Aside0.mk H
    clear H
    go_wp2
    go_meet
    case rel => exact ⟨_, (x3_3 ++ (⟨#[91]⟩ : ByteArray)), cA, H', ⟨by have := HK1.out; have := HJ3.out; first | omega | exact Nat.le_refl _⟩, ⟨bK BK276⟩, ⟨bG⟩⟩
   clear HC9
   try clear c1
   try clear c2
   try clear c2b0
   try clear p2
   try clear q2
   try clear hx2
   try clear c3
   try clear c3b0
   try clear c7
   try clear c7b0
   try clear c8
   try clear c8b0
   try clear c8b1
   try clear c8b2
   try clear c11
   try clear c11b0
   try clear c12
   try clear c12b0
   try clear c12b1
   try clear c12b2
   try clear c13
   try clear c13b0
   try clear c13b1
   try clear c13b2
   try clear hcz10_0
   try clear hcz10_1
   try clear hcz10_2
   try clear hcz10_3
   try clear hcz6_0
   try clear hcz6_1
   try clear hcz6_2
   try clear hcz6_3
   try clear hfz10_0
   try clear hfz10_1
   try clear hfz10_2
   try clear hfz10_3
   try clear hfz6_0
   try clear hfz6_1
   try clear hfz6_2
   try clear hfz6_3
   try clear hx275_0
   try clear hx275_1
   try clear hx275_2
   try clear hx275_3
   try clear p2
   try clear p275
   try clear q2
   try clear q275
   obtain ⟨kq, x3_8, rfl, HA, HJ8, BK276, HB⟩ := hcut
   cases kq with
   | zero => exact absurd HA.out (by simp [newelref05_Text.j2])
   | succ kj8 =>
    have H := HA.out
    clear HA
    simp only [newelref05_Text.j2] at H
    (try simp only [toList_lit] at H)
    obtain ⟨c14, H⟩ := gp H
    have c14b0 := eq_true c14
    have c14b1 := dT c14
    try have c14b2 : (9223372036854775807 < x3_8.size + ((rd_T30 l0 x4_1).f0).size) = False := eq_false (Nat.not_lt.2 c14)
    have HC15 := Aside0.mk H
    clear H
    obtain ⟨hcz16_0, hcz16_1, hcz16_2, hcz16_3, hfz16_0, hfz16_1, hfz16_2, hfz16_3⟩ := cells4 BK276
    go_upto_region 12 with (fail)
    go_cut [44] (fun v44 wc => ∃ (kq : Nat) (x44_14 : Bool), v44 = .bool x44_14 ∧ Aside0 (newelref05_Text.j3 kq l0 (x3_8 ++ ((rd_T30 l0 x4_1).f0)) x4_1 x44_14 ((rd_T30 l0 x4_1).f0) ((rd_T30 l0 x4_1).f1) ((rd_T30 l0 x4_1).f2) ((rd_T30 l0 x4_1).f3) = some r) ∧ Aside0 (kq ≤ kj8) ∧ Aside0 (wc.heap[gb276]? = some (.cells #[.string ((rd_T30 l0 x4_1).f0), .string ((rd_T30 l0 x4_1).f1), .bool ((rd_T30 l0 x4_1).f2), .bool ((rd_T30 l0 x4_1).f3)] 30 (0, 0))) ∧ Aside0 (Below w.heap.size w wc))
    case first =>
     have H := HC15.out
     clear HC15
     by_cases c17 : ((rd_T30 l0 x4_1).f0).toList = ((rd_T30 l0 x4_1).f1).toList
     rotate_left
     ·rw [if_neg c17] at H
      obtain ⟨c17b0, c17b1⟩ := eqF c17
      (first | rw [c17b0] | (simp only [i64_w, i32_w]; rw [c17b0]) | skip)
      have H' := Aside0.mk H
      clear H
      obtain ⟨hcz21_0, hcz21_1, hcz21_2, hcz21_3, hfz21_0, hfz21_1, hfz21_2, hfz21_3⟩ := cells4 BK276
      go_wp2
      go_meet
      case rel => exact ⟨_, (true), cA, H', ⟨by have := HK1.out; have := HJ3.out; have := HJ8.out; first | omega | exact Nat.le_refl _⟩, ⟨bK BK276⟩, ⟨bG⟩⟩
     rw [if_pos c17] at H
     obtain ⟨c17b0, c17b1⟩ := eqT c17
     clear c17
     (first | rw [c17b0] | (simp only [i64_w, i32_w]; rw [c17b0]) | skip)
     by_cases c18 : ((rd_T30 l0 x4_1).f2) = true
     rotate_left
     ·rw [if_neg c18] at H
      have c18b0 : ((rd_T30 l0 x4_1).f2) = false := by simpa using c18
      clear c18
      have H' := Aside0.mk H
      clear H
      obtain ⟨hcz20_0, hcz20_1, hcz20_2, hcz20_3, hfz20_0, hfz20_1, hfz20_2, hfz20_3⟩ := cells4 BK276
      go_wp2
      go_meet
      case rel => exact ⟨_, (true), cA, H', ⟨by have := HK1.out; have := HJ3.out; have := HJ8.out; first | omega | exact Nat.le_refl _⟩, ⟨bK BK276⟩, ⟨bG⟩⟩
     rw [if_pos c18] at H
     have c18b0 : ((rd_T30 l0 x4_1).f2) = true := c18
     clear c18
     have H' := Aside0.mk H
     clear H
     obtain ⟨hcz19_0, hcz19_1, hcz19_2, hcz19_3, hfz19_0, hfz19_1, hfz19_2, hfz19_3⟩ := cells4 BK276
     go_wp2
     go_meet
     case rel => exact ⟨_, (!((rd_T30 l0 x4_1).f3)), cA, H', ⟨by have := HK1.out; have := HJ3.out; have := HJ8.out; first | omega | exact Nat.le_refl _⟩, ⟨bK BK276⟩, ⟨bG⟩⟩
    clear HC15
    try clear c1
    try clear c2
    try clear c2b0
    try clear p2
    try clear q2
    try clear hx2
    try clear c3
    try clear c3b0
    try clear c7
    try clear c7b0
    try clear c8
    try clear c8b0
    try clear c8b1
    try clear c8b2
    try clear c11
    try clear c11b0
    try clear c12
    try clear c12b0
    try clear c12b1
    try clear c12b2
    try clear c13
    try clear c13b0
    try clear c13b1
    try clear c13b2
    try clear c14
    try clear c14b0
    try clear c14b1
    try clear c14b2
    try clear c17
    try clear c17b0
    try clear c17b1
    try clear c18
    try clear c18b0
    try clear hcz10_0
    try clear hcz10_1
    try clear hcz10_2
    try clear hcz10_3
    try clear hcz16_0
    try clear hcz16_1
    try clear hcz16_2
    try clear hcz16_3
    try clear hcz19_0
    try clear hcz19_1
    try clear hcz19_2
    try clear hcz19_3
    try clear hcz20_0
    try clear hcz20_1
    try clear hcz20_2
    try clear hcz20_3
    try clear hcz21_0
    try clear hcz21_1
    try clear hcz21_2
    try clear hcz21_3
    try clear hcz6_0
    try clear hcz6_1
    try clear hcz6_2
    try clear hcz6_3
    try clear hfz10_0
    try clear hfz10_1
    try clear hfz10_2
    try clear hfz10_3
    try clear hfz16_0
    try clear hfz16_1
    try clear hfz16_2
    try clear hfz16_3
    try clear hfz19_0
    try clear hfz19_1
    try clear hfz19_2
    try clear hfz19_3
    try clear hfz20_0
    try clear hfz20_1
    try clear hfz20_2
    try clear hfz20_3
    try clear hfz21_0
    try clear hfz21_1
    try clear hfz21_2
    try clear hfz21_3
    try clear hfz6_0
    try clear hfz6_1
    try clear hfz6_2
    try clear hfz6_3
    try clear hx275_0
    try clear hx275_1
    try clear hx275_2
    try clear hx275_3
    try clear p2
    try clear p275
    try clear q2
    try clear q275
    obtain ⟨kq, x44_14, rfl, HA, HJ14, BK276, HB⟩ := hcut
    cases kq with
    | zero => exact absurd HA.out (by simp [newelref05_Text.j3])
    | succ kj14 =>
     have H := HA.out
     clear HA
     simp only [newelref05_Text.j3] at H
     (try simp only [toList_lit] at H)
     by_cases c22 : x44_14 = true
     rotate_left
     ·replace c22 := Bool.eq_false_iff.mpr c22
      subst c22
      replace H : (if ((rd_T30 l0 x4_1).f3) = true then (if (x3_8 ++ ((rd_T30 l0 x4_1).f0)).size + 1 ≤ 9223372036854775807 then (newelref05_Text.l0 kj14 l0 ((x3_8 ++ ((rd_T30 l0 x4_1).f0)) ++ (⟨#[93]⟩ : ByteArray)) (wrap64 (x4_1 + 1))) else (none)) else (if (x3_8 ++ ((rd_T30 l0 x4_1).f0)).size + 1 ≤ 9223372036854775807 then (newelref05_Text.l0 kj14 l0 ((x3_8 ++ ((rd_T30 l0 x4_1).f0)) ++ (⟨#[41]⟩ : ByteArray)) (wrap64 (x4_1 + 1))) else (none))) = some r := by rw [if_neg nF] at H; exact H
      by_cases c30 : ((rd_T30 l0 x4_1).f3) = true
      rotate_left
      ·rw [if_neg c30] at H
       have c30b0 : ((rd_T30 l0 x4_1).f3) = false := by simpa using c30
       clear c30
       obtain ⟨c33, H⟩ := gp H
       have c33b0 := eq_true c33
       have c33b1 := dT c33
       try have c33b2 : (9223372036854775807 < (x3_8 ++ ((rd_T30 l0 x4_1).f0)).size + 1) = False := eq_false (Nat.not_lt.2 c33)
       have c33n : (x3_8.size + ((rd_T30 l0 x4_1).f0).size) + 1 ≤ 9223372036854775807 := by have z_ := c33; simp only [ByteArray.size_append] at z_; exact z_
       have c33m : (9223372036854775807 < (x3_8.size + ((rd_T30 l0 x4_1).f0).size) + 1) = False := eq_false (Nat.not_lt.2 c33n)
       clear c33 c33b0 c33b1
       try clear c33b2
       have H' := Aside0.mk H
       clear H
       obtain ⟨hcz34_0, hcz34_1, hcz34_2, hcz34_3, hfz34_0, hfz34_1, hfz34_2, hfz34_3⟩ := cells4 BK276
       go_wp2
       go_roundg kj14
       case measure => have := HK1.out; have := HJ3.out; have := HJ8.out; have := HJ14.out; omega
       case rel => exact ⟨((x3_8 ++ ((rd_T30 l0 x4_1).f0)) ++ (⟨#[41]⟩ : ByteArray)), (wrap64 (x4_1 + 1)), cA, cA, H', ⟨by have := HK1.out; have := HJ3.out; have := HJ8.out; have := HJ14.out; omega⟩, ⟨bG⟩⟩
      rw [if_pos c30] at H
      have c30b0 : ((rd_T30 l0 x4_1).f3) = true := c30
      clear c30
      obtain ⟨c31, H⟩ := gp H
      have c31b0 := eq_true c31
      have c31b1 := dT c31
      try have c31b2 : (9223372036854775807 < (x3_8 ++ ((rd_T30 l0 x4_1).f0)).size + 1) = False := eq_false (Nat.not_lt.2 c31)
      have c31n : (x3_8.size + ((rd_T30 l0 x4_1).f0).size) + 1 ≤ 9223372036854775807 := by have z_ := c31; simp only [ByteArray.size_append] at z_; exact z_
      have c31m : (9223372036854775807 < (x3_8.size + ((rd_T30 l0 x4_1).f0).size) + 1) = False := eq_false (Nat.not_lt.2 c31n)
      clear c31 c31b0 c31b1
      try clear c31b2
      have H' := Aside0.mk H
      clear H
      obtain ⟨hcz32_0, hcz32_1, hcz32_2, hcz32_3, hfz32_0, hfz32_1, hfz32_2, hfz32_3⟩ := cells4 BK276
      go_wp2
      go_roundg kj14
      case measure => have := HK1.out; have := HJ3.out; have := HJ8.out; have := HJ14.out; omega
      case rel => exact ⟨((x3_8 ++ ((rd_T30 l0 x4_1).f0)) ++ (⟨#[93]⟩ : ByteArray)), (wrap64 (x4_1 + 1)), cA, cA, H', ⟨by have := HK1.out; have := HJ3.out; have := HJ8.out; have := HJ14.out; omega⟩, ⟨bG⟩⟩
     subst c22
     replace H : (if (x3_8 ++ ((rd_T30 l0 x4_1).f0)).size + 1 ≤ 9223372036854775807 then (if ((x3_8 ++ ((rd_T30 l0 x4_1).f0)) ++ (⟨#[44]⟩ : ByteArray)).size + ((rd_T30 l0 x4_1).f1).size ≤ 9223372036854775807 then (if ((rd_T30 l0 x4_1).f3) = true then (if (((x3_8 ++ ((rd_T30 l0 x4_1).f0)) ++ (⟨#[44]⟩ : ByteArray)) ++ ((rd_T30 l0 x4_1).f1)).size + 1 ≤ 9223372036854775807 then (newelref05_Text.l0 kj14 l0 ((((x3_8 ++ ((rd_T30 l0 x4_1).f0)) ++ (⟨#[44]⟩ : ByteArray)) ++ ((rd_T30 l0 x4_1).f1)) ++ (⟨#[93]⟩ : ByteArray)) (wrap64 (x4_1 + 1))) else (none)) else (if (((x3_8 ++ ((rd_T30 l0 x4_1).f0)) ++ (⟨#[44]⟩ : ByteArray)) ++ ((rd_T30 l0 x4_1).f1)).size + 1 ≤ 9223372036854775807 then (newelref05_Text.l0 kj14 l0 ((((x3_8 ++ ((rd_T30 l0 x4_1).f0)) ++ (⟨#[44]⟩ : ByteArray)) ++ ((rd_T30 l0 x4_1).f1)) ++ (⟨#[41]⟩ : ByteArray)) (wrap64 (x4_1 + 1))) else (none))) else (none)) else (none)) = some r := by rw [if_pos rfl] at H; exact H
     obtain ⟨c23, H⟩ := gp H
     have c23b0 := eq_true c23
     have c23b1 := dT c23
     try have c23b2 : (9223372036854775807 < (x3_8 ++ ((rd_T30 l0 x4_1).f0)).size + 1) = False := eq_false (Nat.not_lt.2 c23)
     have c23n : (x3_8.size + ((rd_T30 l0 x4_1).f0).size) + 1 ≤ 9223372036854775807 := by have z_ := c23; simp only [ByteArray.size_append] at z_; exact z_
     have c23m : (9223372036854775807 < (x3_8.size + ((rd_T30 l0 x4_1).f0).size) + 1) = False := eq_false (Nat.not_lt.2 c23n)
     clear c23 c23b0 c23b1
     try clear c23b2
     obtain ⟨c24, H⟩ := gp H
     have c24b0 := eq_true c24
     have c24b1 := dT c24
     try have c24b2 : (9223372036854775807 < ((x3_8 ++ ((rd_T30 l0 x4_1).f0)) ++ (⟨#[44]⟩ : ByteArray)).size + ((rd_T30 l0 x4_1).f1).size) = False := eq_false (Nat.not_lt.2 c24)
     have c24n : ((x3_8.size + ((rd_T30 l0 x4_1).f0).size) + 1) + ((rd_T30 l0 x4_1).f1).size ≤ 9223372036854775807 := by have z_ := c24; simp only [ByteArray.size_append] at z_; exact z_
     have c24m : (9223372036854775807 < ((x3_8.size + ((rd_T30 l0 x4_1).f0).size) + 1) + ((rd_T30 l0 x4_1).f1).size) = False := eq_false (Nat.not_lt.2 c24n)
     clear c24 c24b0 c24b1
     try clear c24b2
     by_cases c25 : ((rd_T30 l0 x4_1).f3) = true
     rotate_left
     ·rw [if_neg c25] at H
      have c25b0 : ((rd_T30 l0 x4_1).f3) = false := by simpa using c25
      clear c25
      obtain ⟨c28, H⟩ := gp H
      have c28b0 := eq_true c28
      have c28b1 := dT c28
      try have c28b2 : (9223372036854775807 < (((x3_8 ++ ((rd_T30 l0 x4_1).f0)) ++ (⟨#[44]⟩ : ByteArray)) ++ ((rd_T30 l0 x4_1).f1)).size + 1) = False := eq_false (Nat.not_lt.2 c28)
      have c28n : (((x3_8.size + ((rd_T30 l0 x4_1).f0).size) + 1) + ((rd_T30 l0 x4_1).f1).size) + 1 ≤ 9223372036854775807 := by have z_ := c28; simp only [ByteArray.size_append] at z_; exact z_
      have c28m : (9223372036854775807 < (((x3_8.size + ((rd_T30 l0 x4_1).f0).size) + 1) + ((rd_T30 l0 x4_1).f1).size) + 1) = False := eq_false (Nat.not_lt.2 c28n)
      clear c28 c28b0 c28b1
      try clear c28b2
      have H' := Aside0.mk H
      clear H
      obtain ⟨hcz29_0, hcz29_1, hcz29_2, hcz29_3, hfz29_0, hfz29_1, hfz29_2, hfz29_3⟩ := cells4 BK276
      go_wp2
      go_roundg kj14
      case measure => have := HK1.out; have := HJ3.out; have := HJ8.out; have := HJ14.out; omega
      case rel => exact ⟨((((x3_8 ++ ((rd_T30 l0 x4_1).f0)) ++ (⟨#[44]⟩ : ByteArray)) ++ ((rd_T30 l0 x4_1).f1)) ++ (⟨#[41]⟩ : ByteArray)), (wrap64 (x4_1 + 1)), cA, cA, H', ⟨by have := HK1.out; have := HJ3.out; have := HJ8.out; have := HJ14.out; omega⟩, ⟨bG⟩⟩
     rw [if_pos c25] at H
     have c25b0 : ((rd_T30 l0 x4_1).f3) = true := c25
     clear c25
     obtain ⟨c26, H⟩ := gp H
     have c26b0 := eq_true c26
     have c26b1 := dT c26
     try have c26b2 : (9223372036854775807 < (((x3_8 ++ ((rd_T30 l0 x4_1).f0)) ++ (⟨#[44]⟩ : ByteArray)) ++ ((rd_T30 l0 x4_1).f1)).size + 1) = False := eq_false (Nat.not_lt.2 c26)
     have c26n : (((x3_8.size + ((rd_T30 l0 x4_1).f0).size) + 1) + ((rd_T30 l0 x4_1).f1).size) + 1 ≤ 9223372036854775807 := by have z_ := c26; simp only [ByteArray.size_append] at z_; exact z_
     have c26m : (9223372036854775807 < (((x3_8.size + ((rd_T30 l0 x4_1).f0).size) + 1) + ((rd_T30 l0 x4_1).f1).size) + 1) = False := eq_false (Nat.not_lt.2 c26n)
     clear c26 c26b0 c26b1
     try clear c26b2
     have H' := Aside0.mk H
     clear H
     obtain ⟨hcz27_0, hcz27_1, hcz27_2, hcz27_3, hfz27_0, hfz27_1, hfz27_2, hfz27_3⟩ := cells4 BK276
     go_wp2
     go_roundg kj14
     case measure => have := HK1.out; have := HJ3.out; have := HJ8.out; have := HJ14.out; omega
     case rel => exact ⟨((((x3_8 ++ ((rd_T30 l0 x4_1).f0)) ++ (⟨#[44]⟩ : ByteArray)) ++ ((rd_T30 l0 x4_1).f1)) ++ (⟨#[93]⟩ : ByteArray)), (wrap64 (x4_1 + 1)), cA, cA, H', ⟨by have := HK1.out; have := HJ3.out; have := HJ8.out; have := HJ14.out; omega⟩, ⟨bG⟩⟩
end Go.Proofs.YtgdjfcmmpjcaaaaGreatDoor.Q
namespace Go.Proofs.YtgdjfcmmpjcaaaaGreatDoor.Q
open Go.RowKit Go.Proofs.YtgdjfcmmpjcaaaaGreatDoorW.PrintWords Go.Proofs.YtgdjfcmmpjcaaaaGreatDoorW.PrintLast Go.Proofs.YtgdjfcmmpjcaaaaGreatDoorW.Own Go.Proofs.YtgdjfcmmpjcaaaaGreatDoorW.PrintMore
attribute [local go_sem] max2_int min2_int max_two min_two max_three min_three max_four min_four   -- for this text's walks alone
set_option linter.unusedVariables false
set_option linter.unusedSimpArgs false
theorem eqA30 (d : Nat) (w : World) (x0 y0 : ByteArray) (x1 y1 : ByteArray) (x2 y2 : Bool) (x3 y3 : Bool) :
    (Op.equalIn (d + 2) 30 (.agg #[.string x0, .string x1, .bool x2, .bool x3]) (.agg #[.string y0, .string y1, .bool y2, .bool y3])).run Tryz.prog w = .ok (x0.toList == y0.toList && (x1.toList == y1.toList && (x2 == y2 && (x3 == y3)))) w := by
  refine eqA_of Tryz.underlying30 (by kernel_rfl) ?_
  refine eqf_cons (by rfl) (by go_simp; rfl) (by go_simp; rfl) (by go_simp) ?_
  refine eqf_cons (by rfl) (by go_simp; rfl) (by go_simp; rfl) (by go_simp) ?_
  refine eqf_cons (by rfl) (by go_simp; rfl) (by go_simp; rfl) (by go_simp) ?_
  exact eqf_last (by rfl) (by go_simp; rfl) (by go_simp; rfl) (by go_simp)
end Go.Proofs.YtgdjfcmmpjcaaaaGreatDoor.Q
namespace Go.Proofs.YtgdjfcmmpjcaaaaGreatDoor.Q
open Go.RowKit Go.Proofs.YtgdjfcmmpjcaaaaGreatDoorW.PrintWords Go.Proofs.YtgdjfcmmpjcaaaaGreatDoorW.PrintLast Go.Proofs.YtgdjfcmmpjcaaaaGreatDoorW.Own Go.Proofs.YtgdjfcmmpjcaaaaGreatDoorW.PrintMore
attribute [local go_sem] max2_int min2_int max_two min_two max_three min_three max_four min_four   -- for this text's walks alone
set_option linter.unusedVariables false
set_option linter.unusedSimpArgs false
set_option maxHeartbeats 20000000
set_option maxRecDepth 100000
section
attribute [local go_sem high] eqA30
def api_Span_1.f (a0_0 : ByteArray) (a0_1 : ByteArray) (a0_2 : Bool) (a0_3 : Bool) (a1_0 : ByteArray) (a1_1 : ByteArray) (a1_2 : Bool) (a1_3 : Bool) : Option (Bool) := some (a0_0.toList == a1_0.toList && (a0_1.toList == a1_1.toList && (a0_2 == a1_2 && (a0_3 == a1_3))))
theorem api_Span_1.calls (a0_0 : ByteArray) (a0_1 : ByteArray) (a0_2 : Bool) (a0_3 : Bool) (a1_0 : ByteArray) (a1_1 : ByteArray) (a1_2 : Bool) (a1_3 : Bool) (r : Bool) (w : World) (hG : Glob w) (h : api_Span_1.f a0_0 a0_1 a0_2 a0_3 a1_0 a1_1 a1_2 a1_3 = some r) :
 Calls Tryz.prog 33 #[.agg #[.string a0_0, .string a0_1, .bool a0_2, .bool a0_3], .agg #[.string a1_0, .string a1_1, .bool a1_2, .bool a1_3]] w fun e w' => e = .returned (.bool r) ∧ Below w.heap.size w w' := by
 have hu30 := Tryz.underlying30
 have HG := Aside0.mk hG
 clear hG
 have HB := Aside0.mk (Below.refl w.heap.size w)
 have H : (some (a0_0.toList == a1_0.toList && (a0_1.toList == a1_1.toList && (a0_2 == a1_2 && (a0_3 == a1_3))))) = some r := h
 clear h
 obtain rfl := Option.some.inj H
 go_enter Tryz.func33, Tryz.ntmps33
 go_wp2_with (first | (refine be 2 #[.string a0_0, .string a0_1, .bool a0_2, .bool a0_3] 30 ?_; intro gb400 hg w3 hbox hb; have BK400 := Aside0.mk (hbox); have GW400 := gW hg; have GE400 := gW hg; replace HB := sB hb; clear hb hbox hg) | (refine be 3 #[.string a1_0, .string a1_1, .bool a1_2, .bool a1_3] 30 ?_; intro gb401 hg w4 hbox hb; have BK401 := Aside0.mk (hbox); have GW401 := gW hg; have GE401 := gW hg; replace HB := sB hb; have NB400_401 := nL BK400 hg; have NB401_400 := nG BK400 hg; replace BK400 := kB BK400 hb; clear hb hbox hg; have hnb5 := NB400_401.out; have hnc5 := NB401_400.out; have hcz6_0 : w4.cell? ⟨gb400, 0, none⟩ = some (.string a0_0) := (blk_cell BK400.out 0).trans rfl; have hcz6_1 : w4.cell? ⟨gb400, 1, none⟩ = some (.string a0_1) := (blk_cell BK400.out 1).trans rfl; have hcz6_2 : w4.cell? ⟨gb400, 2, none⟩ = some (.bool a0_2) := (blk_cell BK400.out 2).trans rfl; have hcz6_3 : w4.cell? ⟨gb400, 3, none⟩ = some (.bool a0_3) := (blk_cell BK400.out 3).trans rfl; have hfz6_0 := blk_frozen BK400.out 0; have hfz6_1 := blk_frozen BK400.out 1; have hfz6_2 := blk_frozen BK400.out 2; have hfz6_3 := blk_frozen BK400.out 3; have hcz7_0 : w4.cell? ⟨gb401, 0, none⟩ = some (.string a1_0) := (blk_cell BK401.out 0).trans rfl; have hcz7_1 : w4.cell? ⟨gb401, 1, none⟩ = some (.string a1_1) := (blk_cell BK401.out 1).trans rfl; have hcz7_2 : w4.cell? ⟨gb401, 2, none⟩ = some (.bool a1_2) := (blk_cell BK401.out 2).trans rfl; have hcz7_3 : w4.cell? ⟨gb401, 3, none⟩ = some (.bool a1_3) := (blk_cell BK401.out 3).trans rfl; have hfz7_0 := blk_frozen BK401.out 0; have hfz7_1 := blk_frozen BK401.out 1; have hfz7_2 := blk_frozen BK401.out 2; have hfz7_3 := blk_frozen BK401.out 3))
 go_ret
 exact ⟨eA, bG⟩
end
def api_Span_32.l0 : Nat → List (S30) → List (S30) → Int → Option (Bool)
 | 0, _, _, _ => none
 | k + 1, x0, x1, x7 => if x7 < (x0.length : Int) then (if 0 ≤ x7 then (if x7 < (x1.length : Int) then ((api_Span_1.f ((rd_T30 x0 x7).f0) ((rd_T30 x0 x7).f1) ((rd_T30 x0 x7).f2) ((rd_T30 x0 x7).f3) ((rd_T30 x1 x7).f0) ((rd_T30 x1 x7).f1) ((rd_T30 x1 x7).f2) ((rd_T30 x1 x7).f3)).bind fun t404 => (if t404 = true then (api_Span_32.l0 k x0 x1 (wrap64 (x7 + 1))) else (some false))) else (none)) else (none)) else (some true)
def api_Span_32.f (k : Nat) (l0 : List (S30)) (l1 : List (S30))  : Option (Bool) := if (l0.length : Int) = (l1.length : Int) then (api_Span_32.l0 k l0 l1 0) else (some false)
theorem api_Span_32.mono_l : ∀ k, (∀ y0 y1 y2, LeO (api_Span_32.l0 k y0 y1 y2) (api_Span_32.l0 (k + 1) y0 y1 y2))
 | 0 => fun _ _ _ r h => by simp [api_Span_32.l0] at h
 | k + 1 => by
  have ih0 := api_Span_32.mono_l k
  ·intro y0 y1 y2
   unfold api_Span_32.l0
   exact mo
theorem api_Span_32.mono : ∀ a0 a1 k, LeO (api_Span_32.f k a0 a1) (api_Span_32.f (k + 1) a0 a1) := by
 intro a0 a1 k
 have ih0 := api_Span_32.mono_l k
 unfold api_Span_32.f
 exact mo
def api_Span_32.T6 : Bool × List (List Nat × List Nat) := (true, [([], []), ([], []), ([], []), ([1, 2], [1, 2]), ([3], [3]), ([], []), ([], []), ([5, 6], [5, 6]), ([7], [7]), ([0, 4, 8], [0, 4, 8]), ([9], [9])])
def api_Span_32.B6 : List Nat := [0, 0, 0, 6, 14, 0, 0, 96, 224, 511, 1023]
theorem api_Span_32.tab6 : rtab .any (opsOf Tryz.f32 6) = api_Span_32.T6 := by kernel_rfl
theorem api_Span_32.bits6 : waitsOk api_Span_32.T6.2 api_Span_32.B6 = true := by kernel_rfl
theorem api_Span_32.calls (k : Nat) (A0 : Option Addr) (c0 : Nat) (l0 : List (S30)) (A1 : Option Addr) (c1 : Nat) (l1 : List (S30))  (r : Bool) (w : World) (hr0 : Kd.C k30 w A0 l0.length l0) (hc0 : l0.length ≤ c0) (hr1 : Kd.C k30 w A1 l1.length l1) (hc1 : l1.length ≤ c1) (hG : Glob w) (h : api_Span_32.f k l0 l1 = some r) :
 Calls Tryz.prog 32 #[.slice A0 l0.length c0, .slice A1 l1.length c1, .func (.func 33) #[] #[]] w fun e w' => e = .returned (.bool r) ∧ Below w.heap.size w w' := by
 have hu30 := Tryz.underlying30
 have HG := Aside0.mk hG
 clear hG
 have HR0 := Aside0.mk hr0
 have HC0 := Aside0.mk hc0
 clear hr0 hc0
 have HR1 := Aside0.mk hr1
 have HC1 := Aside0.mk hc1
 clear hr1 hc1
 have HB := Aside0.mk (Below.refl w.heap.size w)
 have H : (if (l0.length : Int) = (l1.length : Int) then (api_Span_32.l0 k l0 l1 0) else (some false)) = some r := h
 clear h
 by_cases c4 : (l0.length : Int) = (l1.length : Int)
 rotate_left
 ·rw [if_neg c4] at H
  obtain ⟨c4b0, c4b1⟩ := eqF c4
  have c4b2 : (l0.length == l1.length) = false := by first | simpa using c4 | (simp at c4 ⊢; omega)
  obtain rfl := Option.some.inj H
  go_enter Tryz.func32, Tryz.ntmps32
  go_wp2
  go_ret
  exact ⟨eA, bE⟩
 rw [if_pos c4] at H
 obtain ⟨c4b0, c4b1⟩ := eqT c4
 have c4b2 : (l0.length == l1.length) = true := by first | simpa using c4 | (simp at c4 ⊢; omega)
 clear c4
 have H' := Aside0.mk H
 clear H
 go_enter Tryz.func32, Tryz.ntmps32
 go_wp2
 go_loopg [7] k (fun kq v7 w' => ∃ (x7_1 : Int), v7 = .int .i64 x7_1 ∧ Aside0 (api_Span_32.l0 kq l0 l1 x7_1 = some r) ∧ Aside0 (kq ≤ k) ∧ Aside0 (Below w.heap.size w w'))
 case atStart => exact ⟨(0), cA, H', ⟨Nat.le_refl _⟩, ⟨bE⟩⟩
 clear H'
 try clear c1
 try clear p2
 try clear c3
 try clear c4
 try clear c4b0
 try clear c4b1
 try clear c4b2
 obtain ⟨x7_1, rfl, HA, HK1, HB⟩ := hrel
 cases gk with
 | zero => exact absurd HA.out (by simp [api_Span_32.l0])
 | succ k1 =>
  have H := HA.out
  clear HA
  simp only [api_Span_32.l0] at H
  by_cases c5 : x7_1 < (l0.length : Int)
  rotate_left
  ·rw [if_neg c5] at H
   have c5b0 := dF c5
   clear c5
   obtain rfl := Option.some.inj H
   go_wp2
   go_ret
   exact ⟨eA, bE⟩
  rw [if_pos c5] at H
  have c5b0 := dT c5
  clear c5
  obtain ⟨c6, H⟩ := gp H
  have c6b0 := dT c6
  clear c6
  obtain ⟨c7, H⟩ := gp H
  have c7b0 := dT c7
  clear c7
  replace H := bi H
  obtain ⟨t404, A80, H⟩ := H
  try dsimp only at H
  have A8 := Aside0.mk A80
  clear A80
  by_cases c9 : t404 = true
  rotate_left
  ·replace c9 := Bool.eq_false_iff.mpr c9
   subst c9
   replace H : (some false) = some r := by rw [if_neg nF] at H; exact H
   obtain rfl := Option.some.inj H
   try go_wp2
   replace HB := Aside0.mk (below_drew1 HB.out)
   have p402 : 0 ≤ (x7_1 : Int) := dA
   have q402 : x7_1 < (l0.length : Int) := dA
   obtain ⟨ad402, e402, hx402_0, hx402_1, hx402_2, hx402_3⟩ := at_T30 HR0.out x7_1 p402 q402
   have hw402_3 := hx402_3
   have hw402_2 := hx402_2
   have hw402_1 := hx402_1
   have hw402_0 := hx402_0
   cases e402
   replace hx402_0 := (HB.out.cell (World.block_lt_of_cell? w _ hx402_0)).trans hx402_0
   replace hx402_1 := (HB.out.cell (World.block_lt_of_cell? w _ hx402_1)).trans hx402_1
   replace hx402_2 := (HB.out.cell (World.block_lt_of_cell? w _ hx402_2)).trans hx402_2
   replace hx402_3 := (HB.out.cell (World.block_lt_of_cell? w _ hx402_3)).trans hx402_3
   replace p402 := eq_true p402
   replace q402 := eq_true q402
   have p403 : 0 ≤ (x7_1 : Int) := dA
   have q403 : x7_1 < (l1.length : Int) := dA
   obtain ⟨ad403, e403, hx403_0, hx403_1, hx403_2, hx403_3⟩ := at_T30 HR1.out x7_1 p403 q403
   have hw403_3 := hx403_3
   have hw403_2 := hx403_2
   have hw403_1 := hx403_1
   have hw403_0 := hx403_0
   cases e403
   replace hx403_0 := (HB.out.cell (World.block_lt_of_cell? w _ hx403_0)).trans hx403_0
   replace hx403_1 := (HB.out.cell (World.block_lt_of_cell? w _ hx403_1)).trans hx403_1
   replace hx403_2 := (HB.out.cell (World.block_lt_of_cell? w _ hx403_2)).trans hx403_2
   replace hx403_3 := (HB.out.cell (World.block_lt_of_cell? w _ hx403_3)).trans hx403_3
   replace p403 := eq_true p403
   replace q403 := eq_true q403
   refine start_ (n := 11) (S := fun w' => w'.cell? (ad402.add ((x7_1).toNat * 4)) = some (.string ((rd_T30 l0 x7_1).f0)) ∧ w'.cell? ⟨(ad402.add ((x7_1).toNat * 4)).block, (ad402.add ((x7_1).toNat * 4)).off + 1, none⟩ = some (.string ((rd_T30 l0 x7_1).f1)) ∧ w'.cell? ⟨(ad402.add ((x7_1).toNat * 4)).block, (ad402.add ((x7_1).toNat * 4)).off + 2, none⟩ = some (.bool ((rd_T30 l0 x7_1).f2)) ∧ w'.cell? ⟨(ad402.add ((x7_1).toNat * 4)).block, (ad402.add ((x7_1).toNat * 4)).off + 3, none⟩ = some (.bool ((rd_T30 l0 x7_1).f3)) ∧ w'.cell? (ad403.add ((x7_1).toNat * 4)) = some (.string ((rd_T30 l1 x7_1).f0)) ∧ w'.cell? ⟨(ad403.add ((x7_1).toNat * 4)).block, (ad403.add ((x7_1).toNat * 4)).off + 1, none⟩ = some (.string ((rd_T30 l1 x7_1).f1)) ∧ w'.cell? ⟨(ad403.add ((x7_1).toNat * 4)).block, (ad403.add ((x7_1).toNat * 4)).off + 2, none⟩ = some (.bool ((rd_T30 l1 x7_1).f2)) ∧ w'.cell? ⟨(ad403.add ((x7_1).toNat * 4)).block, (ad403.add ((x7_1).toNat * 4)).off + 3, none⟩ = some (.bool ((rd_T30 l1 x7_1).f3))) (ds := []) #[false, false, false, false, false, false, false, false, false, false, false] (by kernel_rfl) rfl rfl ⟨((HB.out.cell (World.block_lt_of_cell? w _ hw402_0)).trans hw402_0), ((HB.out.cell (World.block_lt_of_cell? w _ hw402_1)).trans hw402_1), ((HB.out.cell (World.block_lt_of_cell? w _ hw402_2)).trans hw402_2), ((HB.out.cell (World.block_lt_of_cell? w _ hw402_3)).trans hw402_3), ((HB.out.cell (World.block_lt_of_cell? w _ hw403_0)).trans hw403_0), ((HB.out.cell (World.block_lt_of_cell? w _ hw403_1)).trans hw403_1), ((HB.out.cell (World.block_lt_of_cell? w _ hw403_2)).trans hw403_2), ((HB.out.cell (World.block_lt_of_cell? w _ hw403_3)).trans hw403_3)⟩ (fun hHeld => ?_); refine with_tabW api_Span_32.tab6 api_Span_32.bits6 (fun HT_ HW_ => ?_)
   generalize wr.drew = w12 at HB hx402_0 hx402_1 hx402_2 hx402_3 hx403_0 hx403_1 hx403_2 hx403_3 hHeld ⊢
   refine pz 0 (some 19) HT_ ?_
   refine pz 1 (some 20) HT_ ?_
   refine pz 2 (some 21) HT_ ?_
   refine pz 3 (some 22) HT_ ?_
   refine pz 5 (some 24) HT_ ?_
   refine pz 6 (some 25) HT_ ?_
   refine pz 7 (some 26) HT_ ?_
   refine tm 4 (some 23) HT_ HW_ hHeld ?_
   refine tm 8 (some 27) HT_ HW_ hHeld ?_
   refine on 9 (some 28) HT_ (fun K hK => ?_)
   first | (refine goes_ Tryz.func33 (by kernel_rfl) rfl #[.agg #[.string ((rd_T30 l0 x7_1).f0), .string ((rd_T30 l0 x7_1).f1), .bool ((rd_T30 l0 x7_1).f2), .bool ((rd_T30 l0 x7_1).f3)], .agg #[.string ((rd_T30 l1 x7_1).f0), .string ((rd_T30 l1 x7_1).f1), .bool ((rd_T30 l1 x7_1).f2), .bool ((rd_T30 l1 x7_1).f3)]] (by rfl) rfl rfl mA ?_) | (refine goesV_ Tryz.func33 (by kernel_rfl) rfl #[.agg #[.string ((rd_T30 l0 x7_1).f0), .string ((rd_T30 l0 x7_1).f1), .bool ((rd_T30 l0 x7_1).f2), .bool ((rd_T30 l0 x7_1).f3)], .agg #[.string ((rd_T30 l1 x7_1).f0), .string ((rd_T30 l1 x7_1).f1), .bool ((rd_T30 l1 x7_1).f2), .bool ((rd_T30 l1 x7_1).f3)]] (by rfl) rfl rfl rfl mA ?_)
   with_reducible refine (api_Span_1.calls ((rd_T30 l0 x7_1).f0) ((rd_T30 l0 x7_1).f1) ((rd_T30 l0 x7_1).f2) ((rd_T30 l0 x7_1).f3) ((rd_T30 l1 x7_1).f0) ((rd_T30 l1 x7_1).f1) ((rd_T30 l1 x7_1).f2) ((rd_T30 l1 x7_1).f3) false _ (gS HG) A8.out).mono ?_
   rintro e w13 ⟨rfl, hb⟩
   refine ⟨_, rfl, ?_⟩
   replace HB := sB hb
   (try clear hb)
   refine hK.out _ _ ⟨((HB.out.cell (World.block_lt_of_cell? w _ hw402_0)).trans hw402_0), ((HB.out.cell (World.block_lt_of_cell? w _ hw402_1)).trans hw402_1), ((HB.out.cell (World.block_lt_of_cell? w _ hw402_2)).trans hw402_2), ((HB.out.cell (World.block_lt_of_cell? w _ hw402_3)).trans hw402_3), ((HB.out.cell (World.block_lt_of_cell? w _ hw403_0)).trans hw403_0), ((HB.out.cell (World.block_lt_of_cell? w _ hw403_1)).trans hw403_1), ((HB.out.cell (World.block_lt_of_cell? w _ hw403_2)).trans hw403_2), ((HB.out.cell (World.block_lt_of_cell? w _ hw403_3)).trans hw403_3)⟩ (fun hHeld => ?_)
   clear hK K
   refine nz (some 28) ?_
   refine pz 10 (some 29) HT_ ?_
   refine done_ (done_of HT_.out (by kernel_rfl)) ?_
   try go_wp2
   go_ret
   exact ⟨eA, bE⟩
  subst c9
  replace H : (api_Span_32.l0 k1 l0 l1 (wrap64 (x7_1 + 1))) = some r := by rw [if_pos rfl] at H; exact H
  have H' := Aside0.mk H
  clear H
  try go_wp2
  replace HB := Aside0.mk (below_drew1 HB.out)
  have p402 : 0 ≤ (x7_1 : Int) := dA
  have q402 : x7_1 < (l0.length : Int) := dA
  obtain ⟨ad402, e402, hx402_0, hx402_1, hx402_2, hx402_3⟩ := at_T30 HR0.out x7_1 p402 q402
  have hw402_3 := hx402_3
  have hw402_2 := hx402_2
  have hw402_1 := hx402_1
  have hw402_0 := hx402_0
  cases e402
  replace hx402_0 := (HB.out.cell (World.block_lt_of_cell? w _ hx402_0)).trans hx402_0
  replace hx402_1 := (HB.out.cell (World.block_lt_of_cell? w _ hx402_1)).trans hx402_1
  replace hx402_2 := (HB.out.cell (World.block_lt_of_cell? w _ hx402_2)).trans hx402_2
  replace hx402_3 := (HB.out.cell (World.block_lt_of_cell? w _ hx402_3)).trans hx402_3
  replace p402 := eq_true p402
  replace q402 := eq_true q402
  have p403 : 0 ≤ (x7_1 : Int) := dA
  have q403 : x7_1 < (l1.length : Int) := dA
  obtain ⟨ad403, e403, hx403_0, hx403_1, hx403_2, hx403_3⟩ := at_T30 HR1.out x7_1 p403 q403
  have hw403_3 := hx403_3
  have hw403_2 := hx403_2
  have hw403_1 := hx403_1
  have hw403_0 := hx403_0
  cases e403
  replace hx403_0 := (HB.out.cell (World.block_lt_of_cell? w _ hx403_0)).trans hx403_0
  replace hx403_1 := (HB.out.cell (World.block_lt_of_cell? w _ hx403_1)).trans hx403_1
  replace hx403_2 := (HB.out.cell (World.block_lt_of_cell? w _ hx403_2)).trans hx403_2
  replace hx403_3 := (HB.out.cell (World.block_lt_of_cell? w _ hx403_3)).trans hx403_3
  replace p403 := eq_true p403
  replace q403 := eq_true q403
  refine start_ (n := 11) (S := fun w' => w'.cell? (ad402.add ((x7_1).toNat * 4)) = some (.string ((rd_T30 l0 x7_1).f0)) ∧ w'.cell? ⟨(ad402.add ((x7_1).toNat * 4)).block, (ad402.add ((x7_1).toNat * 4)).off + 1, none⟩ = some (.string ((rd_T30 l0 x7_1).f1)) ∧ w'.cell? ⟨(ad402.add ((x7_1).toNat * 4)).block, (ad402.add ((x7_1).toNat * 4)).off + 2, none⟩ = some (.bool ((rd_T30 l0 x7_1).f2)) ∧ w'.cell? ⟨(ad402.add ((x7_1).toNat * 4)).block, (ad402.add ((x7_1).toNat * 4)).off + 3, none⟩ = some (.bool ((rd_T30 l0 x7_1).f3)) ∧ w'.cell? (ad403.add ((x7_1).toNat * 4)) = some (.string ((rd_T30 l1 x7_1).f0)) ∧ w'.cell? ⟨(ad403.add ((x7_1).toNat * 4)).block, (ad403.add ((x7_1).toNat * 4)).off + 1, none⟩ = some (.string ((rd_T30 l1 x7_1).f1)) ∧ w'.cell? ⟨(ad403.add ((x7_1).toNat * 4)).block, (ad403.add ((x7_1).toNat * 4)).off + 2, none⟩ = some (.bool ((rd_T30 l1 x7_1).f2)) ∧ w'.cell? ⟨(ad403.add ((x7_1).toNat * 4)).block, (ad403.add ((x7_1).toNat * 4)).off + 3, none⟩ = some (.bool ((rd_T30 l1 x7_1).f3))) (ds := []) #[false, false, false, false, false, false, false, false, false, false, false] (by kernel_rfl) rfl rfl ⟨((HB.out.cell (World.block_lt_of_cell? w _ hw402_0)).trans hw402_0), ((HB.out.cell (World.block_lt_of_cell? w _ hw402_1)).trans hw402_1), ((HB.out.cell (World.block_lt_of_cell? w _ hw402_2)).trans hw402_2), ((HB.out.cell (World.block_lt_of_cell? w _ hw402_3)).trans hw402_3), ((HB.out.cell (World.block_lt_of_cell? w _ hw403_0)).trans hw403_0), ((HB.out.cell (World.block_lt_of_cell? w _ hw403_1)).trans hw403_1), ((HB.out.cell (World.block_lt_of_cell? w _ hw403_2)).trans hw403_2), ((HB.out.cell (World.block_lt_of_cell? w _ hw403_3)).trans hw403_3)⟩ (fun hHeld => ?_); refine with_tabW api_Span_32.tab6 api_Span_32.bits6 (fun HT_ HW_ => ?_)
  generalize wr.drew = w10 at HB hx402_0 hx402_1 hx402_2 hx402_3 hx403_0 hx403_1 hx403_2 hx403_3 hHeld ⊢
  refine pz 0 (some 19) HT_ ?_
  refine pz 1 (some 20) HT_ ?_
  refine pz 2 (some 21) HT_ ?_
  refine pz 3 (some 22) HT_ ?_
  refine pz 5 (some 24) HT_ ?_
  refine pz 6 (some 25) HT_ ?_
  refine pz 7 (some 26) HT_ ?_
  refine tm 4 (some 23) HT_ HW_ hHeld ?_
  refine tm 8 (some 27) HT_ HW_ hHeld ?_
  refine on 9 (some 28) HT_ (fun K hK => ?_)
  first | (refine goes_ Tryz.func33 (by kernel_rfl) rfl #[.agg #[.string ((rd_T30 l0 x7_1).f0), .string ((rd_T30 l0 x7_1).f1), .bool ((rd_T30 l0 x7_1).f2), .bool ((rd_T30 l0 x7_1).f3)], .agg #[.string ((rd_T30 l1 x7_1).f0), .string ((rd_T30 l1 x7_1).f1), .bool ((rd_T30 l1 x7_1).f2), .bool ((rd_T30 l1 x7_1).f3)]] (by rfl) rfl rfl mA ?_) | (refine goesV_ Tryz.func33 (by kernel_rfl) rfl #[.agg #[.string ((rd_T30 l0 x7_1).f0), .string ((rd_T30 l0 x7_1).f1), .bool ((rd_T30 l0 x7_1).f2), .bool ((rd_T30 l0 x7_1).f3)], .agg #[.string ((rd_T30 l1 x7_1).f0), .string ((rd_T30 l1 x7_1).f1), .bool ((rd_T30 l1 x7_1).f2), .bool ((rd_T30 l1 x7_1).f3)]] (by rfl) rfl rfl rfl mA ?_)
  with_reducible refine (api_Span_1.calls ((rd_T30 l0 x7_1).f0) ((rd_T30 l0 x7_1).f1) ((rd_T30 l0 x7_1).f2) ((rd_T30 l0 x7_1).f3) ((rd_T30 l1 x7_1).f0) ((rd_T30 l1 x7_1).f1) ((rd_T30 l1 x7_1).f2) ((rd_T30 l1 x7_1).f3) true _ (gS HG) A8.out).mono ?_
  rintro e w11 ⟨rfl, hb⟩
  refine ⟨_, rfl, ?_⟩
  replace HB := sB hb
  (try clear hb)
  refine hK.out _ _ ⟨((HB.out.cell (World.block_lt_of_cell? w _ hw402_0)).trans hw402_0), ((HB.out.cell (World.block_lt_of_cell? w _ hw402_1)).trans hw402_1), ((HB.out.cell (World.block_lt_of_cell? w _ hw402_2)).trans hw402_2), ((HB.out.cell (World.block_lt_of_cell? w _ hw402_3)).trans hw402_3), ((HB.out.cell (World.block_lt_of_cell? w _ hw403_0)).trans hw403_0), ((HB.out.cell (World.block_lt_of_cell? w _ hw403_1)).trans hw403_1), ((HB.out.cell (World.block_lt_of_cell? w _ hw403_2)).trans hw403_2), ((HB.out.cell (World.block_lt_of_cell? w _ hw403_3)).trans hw403_3)⟩ (fun hHeld => ?_)
  clear hK K
  refine nz (some 28) ?_
  refine pz 10 (some 29) HT_ ?_
  refine done_ (done_of HT_.out (by kernel_rfl)) ?_
  try go_wp2
  go_roundg k1
  case measure => have := HK1.out; omega
  case rel => exact ⟨(wrap64 (x7_1 + 1)), cA, H', ⟨by have := HK1.out; omega⟩, ⟨bE⟩⟩
def api_Span_15.f (k : Nat) (l0 : List (S30)) (l1 : List (S30)) : Option (Bool) := (api_Span_32.f k l0 l1).bind fun t405 => (some t405)
theorem api_Span_15.mono : ∀ a0 a1 k, LeO (api_Span_15.f k a0 a1) (api_Span_15.f (k + 1) a0 a1) := by
 intro a0 a1 k
 unfold api_Span_15.f
 have m0 := @api_Span_32.mono
 exact mo
theorem api_Span_15.calls (k : Nat) (A0 : Option Addr) (c0 : Nat) (l0 : List (S30)) (A1 : Option Addr) (c1 : Nat) (l1 : List (S30)) (r : Bool) (w : World) (hr0 : Kd.C k30 w A0 l0.length l0) (hc0 : l0.length ≤ c0) (hr1 : Kd.C k30 w A1 l1.length l1) (hc1 : l1.length ≤ c1) (hG : Glob w) (h : api_Span_15.f k l0 l1 = some r) :
 Calls Tryz.prog 15 #[.slice A0 l0.length c0, .slice A1 l1.length c1] w fun e w' => e = .returned (.bool r) ∧ Below w.heap.size w w' := by
 have HG := Aside0.mk hG
 clear hG
 have HR0 := Aside0.mk hr0
 have HC0 := Aside0.mk hc0
 clear hr0 hc0
 have HR1 := Aside0.mk hr1
 have HC1 := Aside0.mk hc1
 clear hr1 hc1
 have HB := Aside0.mk (Below.refl w.heap.size w)
 have H : ((api_Span_32.f k l0 l1).bind fun t405 => (some t405)) = some r := h
 clear h
 replace H := bi H
 obtain ⟨t405, A30, H⟩ := H
 try dsimp only at H
 have A3 := Aside0.mk A30
 clear A30
 obtain rfl := Option.some.inj H
 go_enter Tryz.func15, Tryz.ntmps15
 go_wp2_with (first | (refine gl (some 7) Tryz.func32 #[.slice A0 l0.length c0, .slice A1 l1.length c1, .func (.func 33) #[] #[]] ?_; (with_reducible refine (api_Span_32.calls k _ _ l0 _ _ l1  t405 _ ?side1 ?side2 ?side3 ?side4 (gS HG) A3.out).mono ?_); (case side1 => repeat (first | exact HR0.out | (with_reducible refine Kd.C_alloc ?_ _) | (with_reducible refine Kd.C_drewN ?_ _) | (with_reducible refine Kd.C_drew ?_))); (case side2 => exact HC0.out); (case side3 => repeat (first | exact HR1.out | (with_reducible refine Kd.C_alloc ?_ _) | (with_reducible refine Kd.C_drewN ?_ _) | (with_reducible refine Kd.C_drew ?_))); (case side4 => exact HC1.out); rintro e w4 ⟨rfl, hb⟩; refine ⟨_, rfl, ?_⟩; replace HB := sB hb; (try clear hb)))
 go_ret
 exact ⟨eA, bE⟩
end Go.Proofs.YtgdjfcmmpjcaaaaGreatDoor.Q
