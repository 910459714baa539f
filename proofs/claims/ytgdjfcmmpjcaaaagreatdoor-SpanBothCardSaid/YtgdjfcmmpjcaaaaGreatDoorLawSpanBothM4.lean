/- Texts put together: what functions of the program compute, and plain words about them. -/
import Derived.Test.YtgdjfcmmpjcaaaaGreatDoorLawSpanBothM1
import Derived.Test.YtgdjfcmmpjcaaaaGreatDoorLawSpanBothM3
import Derived.Test.YtgdjfcmmpjcaaaaGreatDoorLawSpanBothM2
namespace Go.Proofs.YtgdjfcmmpjcaaaaGreatDoor.Q
open Go.RowKit Go.Proofs.YtgdjfcmmpjcaaaaGreatDoorW.PrintWords Go.Proofs.YtgdjfcmmpjcaaaaGreatDoorW.PrintLast Go.Proofs.YtgdjfcmmpjcaaaaGreatDoorW.Own Go.Proofs.YtgdjfcmmpjcaaaaGreatDoorW.PrintMore
attribute [local go_sem] max2_int min2_int max_two min_two max_three min_three max_four min_four   -- for this text's walks alone
set_option linter.unusedVariables false
set_option linter.unusedSimpArgs false
set_option maxHeartbeats 20000000
set_option maxRecDepth 100000
mutual
def span_Parse.l0 : Nat → ByteArray → List (S30) → Option ((List (S30)) × Int)
 | 0, _, _ => none
 | k + 1, x0, x4 => (span_one.f k x0).bind fun bt228 => (if bt228.2.2.2.2.2 = true then (if (x4.length : Int) ≥ 20 then (span_Parse.j1 k x4 bt228.2.2.2.2.1 true bt228.1 bt228.2.1 bt228.2.2.1 bt228.2.2.2.1) else (if (x4.length : Int) > 0 then (if 0 ≤ (wrap64 ((x4.length : Int) - 1)) then (if (wrap64 ((x4.length : Int) - 1)) < (x4.length : Int) then ((span_behind.f k ((rd_T30 x4 (wrap64 ((x4.length : Int) - 1))).f0) ((rd_T30 x4 (wrap64 ((x4.length : Int) - 1))).f1) ((rd_T30 x4 (wrap64 ((x4.length : Int) - 1))).f2) ((rd_T30 x4 (wrap64 ((x4.length : Int) - 1))).f3) bt228.1 bt228.2.1 bt228.2.2.1 bt228.2.2.2.1).bind fun t236 => (span_Parse.j1 k x4 bt228.2.2.2.2.1 (!t236) bt228.1 bt228.2.1 bt228.2.2.1 bt228.2.2.2.1)) else (none)) else (none)) else (span_Parse.j1 k x4 bt228.2.2.2.2.1 false bt228.1 bt228.2.1 bt228.2.2.1 bt228.2.2.2.1))) else (span_Parse.j1 k x4 bt228.2.2.2.2.1 true bt228.1 bt228.2.1 bt228.2.2.1 bt228.2.2.2.1))
def span_Parse.j1 : Nat → List (S30) → ByteArray → Bool → ByteArray → ByteArray → Bool → Bool → Option ((List (S30)) × Int)
 | 0, _, _, _, _, _, _, _ => none
 | k + 1, x4, x6, x38, x235000, x235001, x235002, x235003 => if x38 = true then (some (([] : List (S30)), 12)) else (if x4.length < 3518437208883 then ((some (x4 ++ [(⟨x235000, x235001, x235002, x235003⟩ : S30)] : List (S30))).bind fun y237 => (if x6.toList = ([] : List UInt8) then (some (y237, 0)) else ((strings_CutPrefix.f x6 (⟨#[44]⟩ : ByteArray)).bind fun bt240 => (if bt240.2 = true then (span_Parse.l0 k bt240.1 y237) else (some (([] : List (S30)), 12)))))) else (none))
end
def span_Parse.f (k : Nat) (a0 : ByteArray) : Option ((List (S30)) × Int) := span_Parse.l0 k a0 ([] : List (S30))
theorem span_Parse.mono_l : ∀ k, (∀ y0 y1, LeO (span_Parse.l0 k y0 y1) (span_Parse.l0 (k + 1) y0 y1)) ∧ (∀ y0 y1 y2 y3 y4 y5 y6, LeO (span_Parse.j1 k y0 y1 y2 y3 y4 y5 y6) (span_Parse.j1 (k + 1) y0 y1 y2 y3 y4 y5 y6))
 | 0 => ⟨fun _ _ r h => by simp [span_Parse.l0] at h, fun _ _ _ _ _ _ _ r h => by simp [span_Parse.j1] at h⟩
 | k + 1 => by
  obtain ⟨ih0, ih1⟩ := span_Parse.mono_l k
  refine ⟨?_, ?_⟩
  ·intro y0 y1
   unfold span_Parse.l0
   have m0 := @span_behind.mono
   have m1 := @span_one.mono
   exact mo
  ·intro y0 y1 y2 y3 y4 y5 y6
   unfold span_Parse.j1
   have m0 := @span_behind.mono
   have m1 := @span_one.mono
   exact mo
theorem span_Parse.mono : ∀ a0 k, LeO (span_Parse.f k a0) (span_Parse.f (k + 1) a0) := by
 intro a0 k
 obtain ⟨ih0, ih1⟩ := span_Parse.mono_l k
 unfold span_Parse.f
 have m0 := @span_behind.mono
 have m1 := @span_one.mono
 exact mo
def span_Parse.T3 : Bool × List (List Nat × List Nat) := (true, [([], []), ([0], [0]), ([1], [1]), ([2], [2]), ([3, 2], [2, 3]), ([4, 2], [2, 4]), ([2, 5], [2, 5]), ([6, 2], [6]), ([7], [7]), ([8, 7], [7, 8]), ([9, 7], [7, 9]), ([10, 7, 7], [7, 10]), ([11], [11]), ([11], [11]), ([13, 11], [11, 13]), ([14, 11], [11, 14]), ([12, 15, 11], [11, 12, 15]), ([16, 11], [11, 16]), ([11], [11]), ([17, 18, 11, 11], [11, 17, 18]), ([19, 11], [11, 19]), ([11, 20, 7], [7, 11, 20]), ([7, 21], [7, 21])])
def span_Parse.B3 : List Nat := [0, 1, 3, 7, 15, 31, 63, 127, 255, 511, 1023, 2047, 4095, 4095, 12287, 28671, 65535, 131071, 4095, 524287, 1048575, 2097151, 4194303]
theorem span_Parse.tab3 : rtab .any (opsOf Tryz.f9 3) = span_Parse.T3 := by kernel_rfl
theorem span_Parse.bits3 : waitsOk span_Parse.T3.2 span_Parse.B3 = true := by kernel_rfl
theorem span_Parse.calls (k : Nat) (a0 : ByteArray) (r1 : List (S30)) (r2 : Int) (w : World) (hG : Glob w) (h : span_Parse.f k a0 = some (r1, r2)) :
 Calls Tryz.prog 9 #[.string a0] w fun e w' => ∃ v0_ : Value, e = .returned (.tuple #[v0_, .int .i64 r2]) ∧ Kd.R k30 30 w' w.heap.size (fun _ => True) v0_ r1 ∧ Below w.heap.size w w' := by
 have hu30 := Tryz.underlying30
 have HG := Aside0.mk hG
 clear hG
 have HB := Aside0.mk (Below.refl w.heap.size w)
 have H : (span_Parse.l0 k a0 ([] : List (S30))) = some (r1, r2) := h
 clear h
 have HS2 := Aside0.mk H
 clear H
 go_enter Tryz.func9, Tryz.ntmps9
 go_wp2
 refine wp_scope_loop 0 (by rfl) ?_
 have H := HS2.out
 clear HS2
 have H' := Aside0.mk H
 clear H
 go_wp2
 refine wp_label ?_
 rename_i hlb
 refine hlb _ _ ?_
 refine wp_at_label ?_
 refine LoopAt.intro (fun aB_ kq_ a1 w1 => ∃ (u0 u2 u3 u4 u5 u6 u7 u8 u9 u10 u11 u12 u13 u14 u15 u16 u17 u18 u19 u20 u21 u22 u23 u24 u25 u26 u27 u28 u29 u30 u31 u32 u33 u34 u35 u36 u37 u38 u39 u40 u41 u42 u43 u44 u45 u46 u47 u48 u49 u50 u51 u52 u53 : Value), (fun kq v0 v4 w' => ∃ (x0_1 : ByteArray) (x4_1 : List (S30)), v0 = .string x0_1 ∧ Aside0 (span_Parse.l0 kq x0_1 x4_1 = some (r1, r2)) ∧ Aside0 (kq ≤ k) ∧ Aside0 (Kd.R k30 30 w' w.heap.size (fun _ => True) v4 x4_1) ∧ Aside0 (Below w.heap.size w w')) kq_ u0 u4 w1 ∧ a1 = (((((((((((((((((((((((((((((((((((((((((((((((((((((aB_.put (some 0) u0).put (some 2) u2).put (some 3) u3).put (some 4) u4).put (some 5) u5).put (some 6) u6).put (some 7) u7).put (some 8) u8).put (some 9) u9).put (some 10) u10).put (some 11) u11).put (some 12) u12).put (some 13) u13).put (some 14) u14).put (some 15) u15).put (some 16) u16).put (some 17) u17).put (some 18) u18).put (some 19) u19).put (some 20) u20).put (some 21) u21).put (some 22) u22).put (some 23) u23).put (some 24) u24).put (some 25) u25).put (some 26) u26).put (some 27) u27).put (some 28) u28).put (some 29) u29).put (some 30) u30).put (some 31) u31).put (some 32) u32).put (some 33) u33).put (some 34) u34).put (some 35) u35).put (some 36) u36).put (some 37) u37).put (some 38) u38).put (some 39) u39).put (some 40) u40).put (some 41) u41).put (some 42) u42).put (some 43) u43).put (some 44) u44).put (some 45) u45).put (some 46) u46).put (some 47) u47).put (some 48) u48).put (some 49) u49).put (some 50) u50).put (some 51) u51).put (some 52) u52).put (some 53) u53)) k ?_ ?_
 ·(repeat apply Exists.intro)
  (try simp only [Act.put, List.setIfInBounds_toArray, List.set_cons_zero, List.set_cons_succ])
  refine ⟨?_, rfl⟩
  exact ⟨(a0), (([] : List (S30))), cA, H', ⟨Nat.le_refl _⟩, ⟨by first | exact Kd.R_nil _ _ _ _ _ | exact Kd.N_nil _ _ _ _ _ | exact Kd.V_nil _ _ _ _ _ | exact Kd.Q_nil _ _ _ _ _ | exact Kd.S_nil _ _ _ _ _⟩, ⟨bE⟩⟩
 ·intro gk a1 wr hinv
  obtain ⟨u0, u2, u3, u4, u5, u6, u7, u8, u9, u10, u11, u12, u13, u14, u15, u16, u17, u18, u19, u20, u21, u22, u23, u24, u25, u26, u27, u28, u29, u30, u31, u32, u33, u34, u35, u36, u37, u38, u39, u40, u41, u42, u43, u44, u45, u46, u47, u48, u49, u50, u51, u52, u53, hrel, ha⟩ := hinv
  subst ha
  (try simp only [Act.put, List.setIfInBounds_toArray, List.set_cons_zero, List.set_cons_succ])
  intro Js0 Ks0 hJs0 hKs0
  clear H'
  try clear p2
  obtain ⟨x0_1, x4_1, rfl, HA, HK1, HO_4, HB⟩ := hrel
  cases gk with
  | zero => exact absurd HA.out (by simp [span_Parse.l0])
  | succ k1 =>
   have H := HA.out
   clear HA
   simp only [span_Parse.l0] at H
   replace H := bi H
   obtain ⟨⟨t228, t229, t230, t231, t232, t233⟩, A30, H⟩ := H
   try dsimp only at H
   have A3 := Aside0.mk A30
   clear A30
   have HC4 := Aside0.mk H
   clear H
   go_upto_region 3 with (first | (refine gl (some 12) Tryz.func21 #[.string x0_1] ?_; (with_reducible refine (span_one.calls k1 x0_1 t228 t229 t230 t231 t232 t233 _ (gS HG) A3.out).mono ?_); rintro e w5 ⟨rfl, hb⟩; refine ⟨_, rfl, ?_⟩; replace HO_4 := rB HO_4 hb; replace HB := sB hb; (try clear hb)) | ((with_reducible refine gate_dst (N := 5) rfl ?_); (try (refine gate_guard (by rfl) ?_; dsimp only)); refine be 5 #[.string (⟨#[]⟩ : ByteArray), .string (⟨#[]⟩ : ByteArray), .bool false, .bool false] 30 ?_; intro gb234 hg w6 hbox hb; replace HO_4 := Aside0.mk (Kd.R_below (Kd.R_elderB (kR HO_4) gb234 (Nat.le_of_eq hg.symm)) hb); have BK234 := Aside0.mk (hbox); have GW234 := gW hg; have GE234 := gW hg; replace HB := sB hb; clear hb hbox hg; have hcz7_0 : w6.cell? ⟨gb234, 0, none⟩ = some (.string (⟨#[]⟩ : ByteArray)) := (blk_cell BK234.out 0).trans rfl; have hcz7_1 : w6.cell? ⟨gb234, 1, none⟩ = some (.string (⟨#[]⟩ : ByteArray)) := (blk_cell BK234.out 1).trans rfl; have hcz7_2 : w6.cell? ⟨gb234, 2, none⟩ = some (.bool false) := (blk_cell BK234.out 2).trans rfl; have hcz7_3 : w6.cell? ⟨gb234, 3, none⟩ = some (.bool false) := (blk_cell BK234.out 3).trans rfl; have hfz7_0 := blk_frozen BK234.out 0; have hfz7_1 := blk_frozen BK234.out 1; have hfz7_2 := blk_frozen BK234.out 2; have hfz7_3 := blk_frozen BK234.out 3))
   (try simp only [Act.put, List.setIfInBounds_toArray, List.set_cons_zero, List.set_cons_succ])
   go_cut [38] (fun v38 wc => ∃ (kq : Nat) (x38_3 : Bool), v38 = .bool x38_3 ∧ Aside0 (span_Parse.j1 kq x4_1 t232 x38_3 t228 t229 t230 t231 = some (r1, r2)) ∧ Aside0 (kq ≤ k1) ∧ Aside0 (Kd.R k30 30 wc w.heap.size (fun k_ => k_ ≠ gb234) u4 x4_1) ∧ Aside0 (wc.heap[gb234]? = some (.cells #[.string t228, .string t229, .bool t230, .bool t231] 30 (0, 0))) ∧ Aside0 (Below w.heap.size w wc))
   case first =>
    have H := HC4.out
    clear HC4
    by_cases c8 : t233 = true
    rotate_left
    ·replace c8 := Bool.eq_false_iff.mpr c8
     subst c8
     replace H : (span_Parse.j1 k1 x4_1 t232 true t228 t229 t230 t231) = some (r1, r2) := by rw [if_neg nF] at H; exact H
     have H' := Aside0.mk H
     clear H
     try go_wp2
     have n0_ : Aside0 (Kd.R k30 30 ((((w6.setCell ⟨gb234, 0, none⟩ (.string t228)).setCell ⟨gb234, 1, none⟩ (.string t229)).setCell ⟨gb234, 2, none⟩ (.bool t230)).setCell ⟨gb234, 3, none⟩ (.bool t231)) w.heap.size (fun k_ => k_ ≠ gb234) u4 x4_1) := ⟨by (with_reducible repeat (first | apply Kd.R_alloc | apply Kd.R_drewN | apply Kd.R_drew)); exact Kd.R_mono (Kd.R_far (p := ⟨gb234, 3, none⟩) (Kd.R_far (p := ⟨gb234, 2, none⟩) (Kd.R_far (p := ⟨gb234, 1, none⟩) (Kd.R_far (p := ⟨gb234, 0, none⟩) (Kd.R_mono HO_4.out (fun k_ hk => (⟨hk, hk.2⟩ : _ ∧ k_ ≠ gb234))) (fun _ hk => hk.2) (.string t228)) (fun _ hk => hk.2) (.string t229)) (fun _ hk => hk.2) (.bool t230)) (fun _ hk => hk.2) (.bool t231)) (fun _ hk => hk.1.2)⟩
     have n1_ : Aside0 (((((w6.setCell ⟨gb234, 0, none⟩ (.string t228)).setCell ⟨gb234, 1, none⟩ (.string t229)).setCell ⟨gb234, 2, none⟩ (.bool t230)).setCell ⟨gb234, 3, none⟩ (.bool t231)).heap[gb234]? = some (.cells #[.string t228, .string t229, .bool t230, .bool t231] 30 (0, 0))) := ⟨bP BK234⟩
     have n2_ : Aside0 (Below w.heap.size w ((((w6.setCell ⟨gb234, 0, none⟩ (.string t228)).setCell ⟨gb234, 1, none⟩ (.string t229)).setCell ⟨gb234, 2, none⟩ (.bool t230)).setCell ⟨gb234, 3, none⟩ (.bool t231))) := ⟨bG⟩
     (try clear HO_4)
     (try clear BK234)
     (try clear HB)
     generalize ((((w6.setCell ⟨gb234, 0, none⟩ (.string t228)).setCell ⟨gb234, 1, none⟩ (.string t229)).setCell ⟨gb234, 2, none⟩ (.bool t230)).setCell ⟨gb234, 3, none⟩ (.bool t231)) = w25 at n0_ n1_ n2_ ⊢
     have HO_4 := n0_
     have BK234 := n1_
     have HB := n2_
     clear n0_ n1_ n2_
     replace HO_4 := Aside0.mk (Kd.R_drew HO_4.out)
     replace BK234 := Aside0.mk (blk_drew BK234.out)
     replace HB := Aside0.mk (below_drew1 HB.out)
     refine start_ (n := 23) (S := fun w' => True) (ds := []) #[false, false, false, false, false, false, false, false, false, false, false, false, false, false, false, false, false, false, false, false, false, false, false] (by kernel_rfl) rfl rfl trivial (fun hHeld => ?_); refine with_tabW span_Parse.tab3 span_Parse.bits3 (fun HT_ HW_ => ?_)
     generalize w25.drew = w26 at HO_4 BK234 HB hHeld ⊢
     refine pz 0 (some 16) HT_ ?_
     refine pz 1 (some 17) HT_ ?_
     refine pz 2 (some 18) HT_ ?_
     refine pu 3 (some 19) HT_ ?_
     refine pu 4 (some 20) HT_ ?_
     refine pu 5 (some 21) HT_ ?_
     refine pz 6 (some 22) HT_ ?_
     refine pz 7 (some 23) HT_ ?_
     refine pu 8 (some 24) HT_ ?_
     refine pu 9 (some 25) HT_ ?_
     refine pu 10 (some 26) HT_ ?_
     refine pu 11 (some 27) HT_ ?_
     refine pu 12 (some 28) HT_ ?_
     refine pu 13 (some 29) HT_ ?_
     refine pu 14 (some 30) HT_ ?_
     refine pu 15 (some 31) HT_ ?_
     refine pu 16 (some 32) HT_ ?_
     refine pu 17 (some 33) HT_ ?_
     refine pu 18 (some 34) HT_ ?_
     refine pu 19 (some 35) HT_ ?_
     refine pu 20 (some 36) HT_ ?_
     refine pu 21 (some 37) HT_ ?_
     refine pz 22 (some 38) HT_ ?_
     refine done_ (done_of HT_.out (by kernel_rfl)) ?_
     try go_wp2
     go_meet
     case rel => exact ⟨_, (true), cA, H', ⟨by have := HK1.out; first | omega | exact Nat.le_refl _⟩, ⟨kR HO_4⟩, ⟨bK BK234⟩, ⟨bG⟩⟩
    subst c8
    replace H : (if (x4_1.length : Int) ≥ 20 then (span_Parse.j1 k1 x4_1 t232 true t228 t229 t230 t231) else (if (x4_1.length : Int) > 0 then (if 0 ≤ (wrap64 ((x4_1.length : Int) - 1)) then (if (wrap64 ((x4_1.length : Int) - 1)) < (x4_1.length : Int) then ((span_behind.f k1 ((rd_T30 x4_1 (wrap64 ((x4_1.length : Int) - 1))).f0) ((rd_T30 x4_1 (wrap64 ((x4_1.length : Int) - 1))).f1) ((rd_T30 x4_1 (wrap64 ((x4_1.length : Int) - 1))).f2) ((rd_T30 x4_1 (wrap64 ((x4_1.length : Int) - 1))).f3) t228 t229 t230 t231).bind fun t236 => (span_Parse.j1 k1 x4_1 t232 (!t236) t228 t229 t230 t231)) else (none)) else (none)) else (span_Parse.j1 k1 x4_1 t232 false t228 t229 t230 t231))) = some (r1, r2) := by rw [if_pos rfl] at H; exact H
    by_cases c9 : (x4_1.length : Int) ≥ 20
    ·rw [if_pos c9] at H
     have c9b0 := dT c9
     have c9b1 : decide (20 ≤ x4_1.length) = true := decide_eq_true (by omega)
     clear c9
     (first | rw [c9b0] | (simp only [i64_w, i32_w]; rw [c9b0]) | skip)
     have H' := Aside0.mk H
     clear H
     try go_wp2
     have n0_ : Aside0 (Kd.R k30 30 ((((w6.setCell ⟨gb234, 0, none⟩ (.string t228)).setCell ⟨gb234, 1, none⟩ (.string t229)).setCell ⟨gb234, 2, none⟩ (.bool t230)).setCell ⟨gb234, 3, none⟩ (.bool t231)) w.heap.size (fun k_ => k_ ≠ gb234) u4 x4_1) := ⟨by (with_reducible repeat (first | apply Kd.R_alloc | apply Kd.R_drewN | apply Kd.R_drew)); exact Kd.R_mono (Kd.R_far (p := ⟨gb234, 3, none⟩) (Kd.R_far (p := ⟨gb234, 2, none⟩) (Kd.R_far (p := ⟨gb234, 1, none⟩) (Kd.R_far (p := ⟨gb234, 0, none⟩) (Kd.R_mono HO_4.out (fun k_ hk => (⟨hk, hk.2⟩ : _ ∧ k_ ≠ gb234))) (fun _ hk => hk.2) (.string t228)) (fun _ hk => hk.2) (.string t229)) (fun _ hk => hk.2) (.bool t230)) (fun _ hk => hk.2) (.bool t231)) (fun _ hk => hk.1.2)⟩
     have n1_ : Aside0 (((((w6.setCell ⟨gb234, 0, none⟩ (.string t228)).setCell ⟨gb234, 1, none⟩ (.string t229)).setCell ⟨gb234, 2, none⟩ (.bool t230)).setCell ⟨gb234, 3, none⟩ (.bool t231)).heap[gb234]? = some (.cells #[.string t228, .string t229, .bool t230, .bool t231] 30 (0, 0))) := ⟨bP BK234⟩
     have n2_ : Aside0 (Below w.heap.size w ((((w6.setCell ⟨gb234, 0, none⟩ (.string t228)).setCell ⟨gb234, 1, none⟩ (.string t229)).setCell ⟨gb234, 2, none⟩ (.bool t230)).setCell ⟨gb234, 3, none⟩ (.bool t231))) := ⟨bG⟩
     (try clear HO_4)
     (try clear BK234)
     (try clear HB)
     generalize ((((w6.setCell ⟨gb234, 0, none⟩ (.string t228)).setCell ⟨gb234, 1, none⟩ (.string t229)).setCell ⟨gb234, 2, none⟩ (.bool t230)).setCell ⟨gb234, 3, none⟩ (.bool t231)) = w10 at n0_ n1_ n2_ ⊢
     have HO_4 := n0_
     have BK234 := n1_
     have HB := n2_
     clear n0_ n1_ n2_
     replace HO_4 := Aside0.mk (Kd.R_drew HO_4.out)
     replace BK234 := Aside0.mk (blk_drew BK234.out)
     replace HB := Aside0.mk (below_drew1 HB.out)
     obtain ⟨Ao12, co12, eo12⟩ := Kd.R_slice HO_4.out
     (first | subst eo12 | (injection eo12 with f1_ f2_ f3_; have f4_ := f1_.symm; have f5_ := f3_.symm; clear f1_ f2_ f3_; subst f4_; subst f5_))
     refine start_ (n := 23) (S := fun w' => True) (ds := []) #[false, false, false, false, false, false, false, false, false, false, false, false, false, false, false, false, false, false, false, false, false, false, false] (by kernel_rfl) rfl rfl trivial (fun hHeld => ?_); refine with_tabW span_Parse.tab3 span_Parse.bits3 (fun HT_ HW_ => ?_)
     generalize w10.drew = w11 at HO_4 BK234 HB hHeld ⊢
     refine pz 0 (some 16) HT_ ?_
     refine pz 1 (some 17) HT_ ?_
     refine pz 2 (some 18) HT_ ?_
     refine pz 3 (some 19) HT_ ?_
     refine pz 4 (some 20) HT_ ?_
     refine pz 5 (some 21) HT_ ?_
     refine pz 6 (some 22) HT_ ?_
     refine pz 7 (some 23) HT_ ?_
     refine pu 8 (some 24) HT_ ?_
     refine pu 9 (some 25) HT_ ?_
     refine pu 10 (some 26) HT_ ?_
     refine pu 11 (some 27) HT_ ?_
     refine pu 12 (some 28) HT_ ?_
     refine pu 13 (some 29) HT_ ?_
     refine pu 14 (some 30) HT_ ?_
     refine pu 15 (some 31) HT_ ?_
     refine pu 16 (some 32) HT_ ?_
     refine pu 17 (some 33) HT_ ?_
     refine pu 18 (some 34) HT_ ?_
     refine pu 19 (some 35) HT_ ?_
     refine pu 20 (some 36) HT_ ?_
     refine pu 21 (some 37) HT_ ?_
     refine pz 22 (some 38) HT_ ?_
     refine done_ (done_of HT_.out (by kernel_rfl)) ?_
     try go_wp2
     go_meet
     case rel => exact ⟨_, (true), cA, H', ⟨by have := HK1.out; first | omega | exact Nat.le_refl _⟩, ⟨kR HO_4⟩, ⟨bK BK234⟩, ⟨bG⟩⟩
    rw [if_neg c9] at H
    have c9b0 := dF c9
    have c9b1 : decide (20 ≤ x4_1.length) = false := decide_eq_false (by omega)
    clear c9
    (first | rw [c9b0] | (simp only [i64_w, i32_w]; rw [c9b0]) | skip)
    by_cases c13 : (x4_1.length : Int) > 0
    rotate_left
    ·rw [if_neg c13] at H
     have c13b0 := dF c13
     have c13b1 : decide (0 < x4_1.length) = false := decide_eq_false (by omega)
     clear c13
     have H' := Aside0.mk H
     clear H
     try go_wp2
     have n0_ : Aside0 (Kd.R k30 30 ((((w6.setCell ⟨gb234, 0, none⟩ (.string t228)).setCell ⟨gb234, 1, none⟩ (.string t229)).setCell ⟨gb234, 2, none⟩ (.bool t230)).setCell ⟨gb234, 3, none⟩ (.bool t231)) w.heap.size (fun k_ => k_ ≠ gb234) u4 x4_1) := ⟨by (with_reducible repeat (first | apply Kd.R_alloc | apply Kd.R_drewN | apply Kd.R_drew)); exact Kd.R_mono (Kd.R_far (p := ⟨gb234, 3, none⟩) (Kd.R_far (p := ⟨gb234, 2, none⟩) (Kd.R_far (p := ⟨gb234, 1, none⟩) (Kd.R_far (p := ⟨gb234, 0, none⟩) (Kd.R_mono HO_4.out (fun k_ hk => (⟨hk, hk.2⟩ : _ ∧ k_ ≠ gb234))) (fun _ hk => hk.2) (.string t228)) (fun _ hk => hk.2) (.string t229)) (fun _ hk => hk.2) (.bool t230)) (fun _ hk => hk.2) (.bool t231)) (fun _ hk => hk.1.2)⟩
     have n1_ : Aside0 (((((w6.setCell ⟨gb234, 0, none⟩ (.string t228)).setCell ⟨gb234, 1, none⟩ (.string t229)).setCell ⟨gb234, 2, none⟩ (.bool t230)).setCell ⟨gb234, 3, none⟩ (.bool t231)).heap[gb234]? = some (.cells #[.string t228, .string t229, .bool t230, .bool t231] 30 (0, 0))) := ⟨bP BK234⟩
     have n2_ : Aside0 (Below w.heap.size w ((((w6.setCell ⟨gb234, 0, none⟩ (.string t228)).setCell ⟨gb234, 1, none⟩ (.string t229)).setCell ⟨gb234, 2, none⟩ (.bool t230)).setCell ⟨gb234, 3, none⟩ (.bool t231))) := ⟨bG⟩
     (try clear HO_4)
     (try clear BK234)
     (try clear HB)
     generalize ((((w6.setCell ⟨gb234, 0, none⟩ (.string t228)).setCell ⟨gb234, 1, none⟩ (.string t229)).setCell ⟨gb234, 2, none⟩ (.bool t230)).setCell ⟨gb234, 3, none⟩ (.bool t231)) = w22 at n0_ n1_ n2_ ⊢
     have HO_4 := n0_
     have BK234 := n1_
     have HB := n2_
     clear n0_ n1_ n2_
     replace HO_4 := Aside0.mk (Kd.R_drew HO_4.out)
     replace BK234 := Aside0.mk (blk_drew BK234.out)
     replace HB := Aside0.mk (below_drew1 HB.out)
     obtain ⟨Ao24, co24, eo24⟩ := Kd.R_slice HO_4.out
     (first | subst eo24 | (injection eo24 with f1_ f2_ f3_; have f4_ := f1_.symm; have f5_ := f3_.symm; clear f1_ f2_ f3_; subst f4_; subst f5_))
     refine start_ (n := 23) (S := fun w' => True) (ds := []) #[false, false, false, false, false, false, false, false, false, false, false, false, false, false, false, false, false, false, false, false, false, false, false] (by kernel_rfl) rfl rfl trivial (fun hHeld => ?_); refine with_tabW span_Parse.tab3 span_Parse.bits3 (fun HT_ HW_ => ?_)
     generalize w22.drew = w23 at HO_4 BK234 HB hHeld ⊢
     refine pz 0 (some 16) HT_ ?_
     refine pz 1 (some 17) HT_ ?_
     refine pz 2 (some 18) HT_ ?_
     refine pz 3 (some 19) HT_ ?_
     refine pz 4 (some 20) HT_ ?_
     refine pz 5 (some 21) HT_ ?_
     refine pz 6 (some 22) HT_ ?_
     refine pz 7 (some 23) HT_ ?_
     refine pz 8 (some 24) HT_ ?_
     refine pz 9 (some 25) HT_ ?_
     refine pz 10 (some 26) HT_ ?_
     refine pz 11 (some 27) HT_ ?_
     refine pu 12 (some 28) HT_ ?_
     refine pu 13 (some 29) HT_ ?_
     refine pu 14 (some 30) HT_ ?_
     refine pu 15 (some 31) HT_ ?_
     refine pu 16 (some 32) HT_ ?_
     refine pu 17 (some 33) HT_ ?_
     refine pu 18 (some 34) HT_ ?_
     refine pu 19 (some 35) HT_ ?_
     refine pu 20 (some 36) HT_ ?_
     refine pz 21 (some 37) HT_ ?_
     refine pz 22 (some 38) HT_ ?_
     refine done_ (done_of HT_.out (by kernel_rfl)) ?_
     try go_wp2
     go_meet
     case rel => exact ⟨_, (false), cA, H', ⟨by have := HK1.out; first | omega | exact Nat.le_refl _⟩, ⟨kR HO_4⟩, ⟨bK BK234⟩, ⟨bG⟩⟩
    rw [if_pos c13] at H
    have c13b0 := dT c13
    have c13b1 : decide (0 < x4_1.length) = true := decide_eq_true (by omega)
    clear c13
    obtain ⟨ji14, hji14⟩ : ∃ j_ : Int, (wrap64 ((x4_1.length : Int) - 1)) = j_ := ⟨_, rfl⟩
    rw [hji14] at H
    have hji14w : (IntKind.i64.wrap ((x4_1.length : Int) - 1)) = ji14 := (i64_w _).trans hji14
    obtain ⟨c15, H⟩ := gp H
    have c15b0 := dT c15
    clear c15
    obtain ⟨c16, H⟩ := gp H
    have c16b0 := dT c16
    clear c16
    replace H := bi H
    obtain ⟨t236, A170, H⟩ := H
    try dsimp only at H
    have A17 := Aside0.mk A170
    clear A170
    have H' := Aside0.mk H
    clear H
    try go_wp2
    have n0_ : Aside0 (Kd.R k30 30 ((((w6.setCell ⟨gb234, 0, none⟩ (.string t228)).setCell ⟨gb234, 1, none⟩ (.string t229)).setCell ⟨gb234, 2, none⟩ (.bool t230)).setCell ⟨gb234, 3, none⟩ (.bool t231)) w.heap.size (fun k_ => k_ ≠ gb234) u4 x4_1) := ⟨by (with_reducible repeat (first | apply Kd.R_alloc | apply Kd.R_drewN | apply Kd.R_drew)); exact Kd.R_mono (Kd.R_far (p := ⟨gb234, 3, none⟩) (Kd.R_far (p := ⟨gb234, 2, none⟩) (Kd.R_far (p := ⟨gb234, 1, none⟩) (Kd.R_far (p := ⟨gb234, 0, none⟩) (Kd.R_mono HO_4.out (fun k_ hk => (⟨hk, hk.2⟩ : _ ∧ k_ ≠ gb234))) (fun _ hk => hk.2) (.string t228)) (fun _ hk => hk.2) (.string t229)) (fun _ hk => hk.2) (.bool t230)) (fun _ hk => hk.2) (.bool t231)) (fun _ hk => hk.1.2)⟩
    have n1_ : Aside0 (((((w6.setCell ⟨gb234, 0, none⟩ (.string t228)).setCell ⟨gb234, 1, none⟩ (.string t229)).setCell ⟨gb234, 2, none⟩ (.bool t230)).setCell ⟨gb234, 3, none⟩ (.bool t231)).heap[gb234]? = some (.cells #[.string t228, .string t229, .bool t230, .bool t231] 30 (0, 0))) := ⟨bP BK234⟩
    have n2_ : Aside0 (Below w.heap.size w ((((w6.setCell ⟨gb234, 0, none⟩ (.string t228)).setCell ⟨gb234, 1, none⟩ (.string t229)).setCell ⟨gb234, 2, none⟩ (.bool t230)).setCell ⟨gb234, 3, none⟩ (.bool t231))) := ⟨bG⟩
    (try clear HO_4)
    (try clear BK234)
    (try clear HB)
    generalize ((((w6.setCell ⟨gb234, 0, none⟩ (.string t228)).setCell ⟨gb234, 1, none⟩ (.string t229)).setCell ⟨gb234, 2, none⟩ (.bool t230)).setCell ⟨gb234, 3, none⟩ (.bool t231)) = w18 at n0_ n1_ n2_ ⊢
    have HO_4 := n0_
    have BK234 := n1_
    have HB := n2_
    clear n0_ n1_ n2_
    replace HO_4 := Aside0.mk (Kd.R_drew HO_4.out)
    replace BK234 := Aside0.mk (blk_drew BK234.out)
    replace HB := Aside0.mk (below_drew1 HB.out)
    obtain ⟨Ao20, co20, eo20⟩ := Kd.R_slice HO_4.out
    (first | subst eo20 | (injection eo20 with f1_ f2_ f3_; have f4_ := f1_.symm; have f5_ := f3_.symm; clear f1_ f2_ f3_; subst f4_; subst f5_))
    have p235 : 0 ≤ ((ji14) : Int) := dA
    have q235 : (ji14) < (x4_1.length : Int) := dA
    obtain ⟨ad235, e235, hx235_0, hx235_1, hx235_2, hx235_3⟩ := at_T30 (Kd.R_reads' HO_4.out).2.2 (ji14) p235 q235
    cases e235
    replace p235 := eq_true p235
    replace q235 := eq_true q235
    refine start_ (n := 23) (S := fun w' => w'.cell? ⟨gb234, 0, none⟩ = some (.string t228) ∧ w'.cell? ⟨gb234, 1, none⟩ = some (.string t229) ∧ w'.cell? ⟨gb234, 2, none⟩ = some (.bool t230) ∧ w'.cell? ⟨gb234, 3, none⟩ = some (.bool t231) ∧ w'.cell? (ad235.add (((ji14)).toNat * 4)) = some (.string ((rd_T30 x4_1 (ji14)).f0)) ∧ w'.cell? ⟨(ad235.add (((ji14)).toNat * 4)).block, (ad235.add (((ji14)).toNat * 4)).off + 1, none⟩ = some (.string ((rd_T30 x4_1 (ji14)).f1)) ∧ w'.cell? ⟨(ad235.add (((ji14)).toNat * 4)).block, (ad235.add (((ji14)).toNat * 4)).off + 2, none⟩ = some (.bool ((rd_T30 x4_1 (ji14)).f2)) ∧ w'.cell? ⟨(ad235.add (((ji14)).toNat * 4)).block, (ad235.add (((ji14)).toNat * 4)).off + 3, none⟩ = some (.bool ((rd_T30 x4_1 (ji14)).f3))) (ds := []) #[false, false, false, false, false, false, false, false, false, false, false, false, false, false, false, false, false, false, false, false, false, false, false] (by kernel_rfl) rfl rfl ⟨(blk_cell BK234.out 0).trans rfl, (blk_cell BK234.out 1).trans rfl, (blk_cell BK234.out 2).trans rfl, (blk_cell BK234.out 3).trans rfl, hx235_0, hx235_1, hx235_2, hx235_3⟩ (fun hHeld => ?_); refine with_tabW span_Parse.tab3 span_Parse.bits3 (fun HT_ HW_ => ?_)
    generalize w18.drew = w19 at HO_4 BK234 HB hx235_0 hx235_1 hx235_2 hx235_3 hHeld ⊢
    refine pz 0 (some 16) HT_ ?_
    refine pz 1 (some 17) HT_ ?_
    refine pz 2 (some 18) HT_ ?_
    refine pz 3 (some 19) HT_ ?_
    refine pz 4 (some 20) HT_ ?_
    refine pz 5 (some 21) HT_ ?_
    refine pz 6 (some 22) HT_ ?_
    refine pz 7 (some 23) HT_ ?_
    refine pz 8 (some 24) HT_ ?_
    refine pz 9 (some 25) HT_ ?_
    refine pz 10 (some 26) HT_ ?_
    refine pz 11 (some 27) HT_ ?_
    refine pz 12 (some 28) HT_ ?_
    refine pz 13 (some 29) HT_ ?_
    refine pz 14 (some 30) HT_ ?_
    refine pz 15 (some 31) HT_ ?_
    refine pz 16 (some 32) HT_ ?_
    refine tm 17 (some 33) HT_ HW_ hHeld ?_
    refine tm 18 (some 34) HT_ HW_ hHeld ?_
    refine on 19 (some 35) HT_ (fun K hK => ?_)
    refine goes_ Tryz.func22 (by kernel_rfl) rfl #[.agg #[.string ((rd_T30 x4_1 (ji14)).f0), .string ((rd_T30 x4_1 (ji14)).f1), .bool ((rd_T30 x4_1 (ji14)).f2), .bool ((rd_T30 x4_1 (ji14)).f3)], .agg #[.string t228, .string t229, .bool t230, .bool t231]] (by rfl) rfl rfl (by (try simp only [List.map_toArray, List.map_cons, List.map_nil]); first | done | (simp only [hji14]; rfl) | rfl | (simp only [List.length_drop, List.length_take]; rfl)) ?_
    with_reducible refine (span_behind.calls k1 ((rd_T30 x4_1 (ji14)).f0) ((rd_T30 x4_1 (ji14)).f1) ((rd_T30 x4_1 (ji14)).f2) ((rd_T30 x4_1 (ji14)).f3) t228 t229 t230 t231 t236 _ (gS HG) A17.out).mono ?_
    rintro e w21 ⟨rfl, hb⟩
    have HS4_ := (hb.cell (World.block_lt_of_cell? _ _ (hHeld.2.2.2.2.1))).trans (hHeld.2.2.2.2.1)
    have HS5_ := (hb.cell (World.block_lt_of_cell? _ _ (hHeld.2.2.2.2.2.1))).trans (hHeld.2.2.2.2.2.1)
    have HS6_ := (hb.cell (World.block_lt_of_cell? _ _ (hHeld.2.2.2.2.2.2.1))).trans (hHeld.2.2.2.2.2.2.1)
    have HS7_ := (hb.cell (World.block_lt_of_cell? _ _ (hHeld.2.2.2.2.2.2.2))).trans (hHeld.2.2.2.2.2.2.2)
    refine ⟨_, rfl, ?_⟩
    replace HO_4 := rB HO_4 hb
    replace BK234 := kB BK234 hb
    replace HB := sB hb
    (try clear hb)
    refine hK.out _ _ ⟨(blk_cell BK234.out 0).trans rfl, (blk_cell BK234.out 1).trans rfl, (blk_cell BK234.out 2).trans rfl, (blk_cell BK234.out 3).trans rfl, HS4_, HS5_, HS6_, HS7_⟩ (fun hHeld => ?_)
    clear hK K
    refine nz (some 35) ?_
    refine pz 20 (some 36) HT_ ?_
    refine pz 21 (some 37) HT_ ?_
    refine pz 22 (some 38) HT_ ?_
    refine done_ (done_of HT_.out (by kernel_rfl)) ?_
    try go_wp2
    go_meet
    case rel => exact ⟨_, (!t236), cA, H', ⟨by have := HK1.out; first | omega | exact Nat.le_refl _⟩, ⟨kR HO_4⟩, ⟨bK BK234⟩, ⟨bG⟩⟩
   clear HC4
   try clear c1
   try clear c2
   try clear p2
   try clear q2
   try clear hx2
   try clear c8
   try clear c13
   try clear c13b0
   try clear c13b1
   try clear c15
   try clear c15b0
   try clear c16
   try clear c16b0
   try clear c22
   try clear p23
   try clear q23
   try clear hx23
   try clear hx235_0
   try clear hx235_1
   try clear hx235_2
   try clear hx235_3
   try clear p235
   try clear q235
   obtain ⟨kq, x38_3, rfl, HA, HJ3, HO_4, BK234, HB⟩ := hcut
   cases kq with
   | zero => exact absurd HA.out (by simp [span_Parse.j1])
   | succ kj3 =>
    have H := HA.out
    clear HA
    simp only [span_Parse.j1] at H
    by_cases c27 : x38_3 = true
    ·subst c27
     replace H : (some (([] : List (S30)), 12)) = some (r1, r2) := by rw [if_pos rfl] at H; exact H
     simp only [Option.some.injEq, Prod.mk.injEq] at H
     obtain ⟨rfl, rfl⟩ := H
     go_wp2
     (try simp only [Exit.inBlock, Exit.then, jump_ret])
     go_ret2
     exact ⟨_, by first | rfl | (simp [errW_none, errW_some] <;> rfl) | (simp [*, errW_none, errW_some] <;> rfl), by first | exact Kd.R_nil _ _ _ _ _ | exact Kd.N_nil _ _ _ _ _ | exact Kd.V_nil _ _ _ _ _ | exact Kd.Q_nil _ _ _ _ _ | exact Kd.S_nil _ _ _ _ _, bG⟩
    replace c27 := Bool.eq_false_iff.mpr c27
    subst c27
    replace H : (if x4_1.length < 3518437208883 then ((some (x4_1 ++ [(⟨t228, t229, t230, t231⟩ : S30)] : List (S30))).bind fun y237 => (if t232.toList = ([] : List UInt8) then (some (y237, 0)) else ((strings_CutPrefix.f t232 (⟨#[44]⟩ : ByteArray)).bind fun bt240 => (if bt240.2 = true then (span_Parse.l0 kj3 bt240.1 y237) else (some (([] : List (S30)), 12)))))) else (none)) = some (r1, r2) := by rw [if_neg nF] at H; exact H
    obtain ⟨c28, H⟩ := gp H
    have LMc28 := Aside0.mk c28
    clear c28
    obtain ⟨y237, hy237⟩ : ∃ y_ : List (S30), y_ = (x4_1 ++ [(⟨t228, t229, t230, t231⟩ : S30)]) := ⟨_, rfl⟩
    replace H : (if t232.toList = ([] : List UInt8) then (some (y237, 0)) else ((strings_CutPrefix.f t232 (⟨#[44]⟩ : ByteArray)).bind fun bt240 => (if bt240.2 = true then (span_Parse.l0 kj3 bt240.1 y237) else (some (([] : List (S30)), 12))))) = some (r1, r2) := by first | (rw [hy237]; with_reducible exact H) | (have H2_ := (Option.bind_some _ _).symm.trans H; rw [hy237]; with_reducible exact H2_) | (have H2_ := (Option.bind_some _ _).symm.trans H; with_reducible exact H2_) | with_reducible exact H | (rw [hy237]; exact H) | exact H
    have Ny237 := Aside0.mk hy237
    clear hy237
    by_cases c29 : t232.toList = ([] : List UInt8)
    ·rw [if_pos c29] at H
     obtain ⟨c29b0, c29b1⟩ := eqT c29
     (try (have c29b2 : t232.toList.isEmpty = true := by simpa using c29))
     clear c29
     simp only [Option.some.injEq, Prod.mk.injEq] at H
     obtain ⟨rfl, rfl⟩ := H
     obtain ⟨hcz30_0, hcz30_1, hcz30_2, hcz30_3, hfz30_0, hfz30_1, hfz30_2, hfz30_3⟩ := cells4 BK234
     go_wp2_with (first | ((with_reducible refine gate_builtin (b := .append) (xs := #[.tmp 39, .tmp 41]) rfl ?_); (try (refine gate_guard (by rfl) ?_; dsimp only)); at_builtin; refine Kd.R_append k30 (w0 := w) w.heap.size rfl (.tmp 39) (.tmp 41) 22 30 (.agg #[(.string ⟨#[]⟩), (.string ⟨#[]⟩), (.bool false), (.bool false)]) 40 rfl Tryz.underlying22 info30 rfl (by decide) (by omega) u4 x4_1 (⟨t228, t229, t230, t231⟩ : S30) [.string t228, .string t229, .bool t230, .bool t231] (fun k_ => k_ ≠ gb234) (fun _ => False) rfl rfl ?aP (fun _ hk => hk.elim) ?aF ?aO ?aB ?aS ?aL ?_; (case aP => exact k30_mkM _ _ _ (⟨t228, t229, t230, t231⟩ : S30)); (case aB => exact bG); (case aF => exact (fun k_ hk => Kd.freshB (g := gb234) (o := .cells #[.string t228, .string t229, .bool t230, .bool t231] 30 (0, 0)) (bK BK234) k_ hk)); (case aO => exact (kR HO_4)); (case aS => exact (below_size bG)); (case aL => have := LMc28.out; omega); intro v238 w31 ho hb hg hat; rw [← Ny237.out] at ho; replace BK234 := Aside0.mk (blk_grown (g := gb234) (o := .cells #[.string t228, .string t229, .bool t230, .bool t231] 30 (0, 0)) (bK BK234) hg (Kd.R_away HO_4.out (fun _ hk => hk))); replace HB := Aside0.mk (hb); have HO239 := Aside0.mk (ho); clear HO_4; clear ho hb hg hat))
     (try simp only [Exit.inBlock, Exit.then, jump_ret])
     go_ret2
     exact ⟨_, by first | rfl | (simp [errW_none, errW_some] <;> rfl) | (simp [*, errW_none, errW_some] <;> rfl), by (with_reducible repeat (first | apply Kd.R_alloc | apply Kd.R_drewN | apply Kd.R_drew)); exact Kd.R_mono HO239.out (fun _ hk => trivial), bG⟩
    rw [if_neg c29] at H
    obtain ⟨c29b0, c29b1⟩ := eqF c29
    (try (have c29b2 : t232.toList.isEmpty = false := by simpa using c29))
    replace H := bi H
    obtain ⟨⟨t240, t241⟩, A320, H⟩ := H
    try dsimp only at H
    have A32 := Aside0.mk A320
    clear A320
    by_cases c33 : t241 = true
    rotate_left
    ·replace c33 := Bool.eq_false_iff.mpr c33
     subst c33
     replace H : (some (([] : List (S30)), 12)) = some (r1, r2) := by rw [if_neg nF] at H; exact H
     simp only [Option.some.injEq, Prod.mk.injEq] at H
     obtain ⟨rfl, rfl⟩ := H
     obtain ⟨hcz36_0, hcz36_1, hcz36_2, hcz36_3, hfz36_0, hfz36_1, hfz36_2, hfz36_3⟩ := cells4 BK234
     go_wp2_with (first | ((with_reducible refine gate_builtin (b := .append) (xs := #[.tmp 39, .tmp 41]) rfl ?_); (try (refine gate_guard (by rfl) ?_; dsimp only)); at_builtin; refine Kd.R_append k30 (w0 := w) w.heap.size rfl (.tmp 39) (.tmp 41) 22 30 (.agg #[(.string ⟨#[]⟩), (.string ⟨#[]⟩), (.bool false), (.bool false)]) 40 rfl Tryz.underlying22 info30 rfl (by decide) (by omega) u4 x4_1 (⟨t228, t229, t230, t231⟩ : S30) [.string t228, .string t229, .bool t230, .bool t231] (fun k_ => k_ ≠ gb234) (fun _ => False) rfl rfl ?aP (fun _ hk => hk.elim) ?aF ?aO ?aB ?aS ?aL ?_; (case aP => exact k30_mkM _ _ _ (⟨t228, t229, t230, t231⟩ : S30)); (case aB => exact bG); (case aF => exact (fun k_ hk => Kd.freshB (g := gb234) (o := .cells #[.string t228, .string t229, .bool t230, .bool t231] 30 (0, 0)) (bK BK234) k_ hk)); (case aO => exact (kR HO_4)); (case aS => exact (below_size bG)); (case aL => have := LMc28.out; omega); intro v238 w37 ho hb hg hat; rw [← Ny237.out] at ho; replace BK234 := Aside0.mk (blk_grown (g := gb234) (o := .cells #[.string t228, .string t229, .bool t230, .bool t231] 30 (0, 0)) (bK BK234) hg (Kd.R_away HO_4.out (fun _ hk => hk))); replace HB := Aside0.mk (hb); have HO239 := Aside0.mk (ho); clear HO_4; clear ho hb hg hat) | (refine gl (some 48) Tryz.func23 #[.string t232, .string (⟨#[44]⟩ : ByteArray)] ?_; (with_reducible refine (strings_CutPrefix.calls t232 (⟨#[44]⟩ : ByteArray) t240 false _ (gS HG) A32.out).mono ?_); rintro e w' ⟨rfl, ⟨nd, rfl⟩⟩; refine ⟨_, rfl, ?_⟩))
     (try simp only [Exit.inBlock, Exit.then, jump_ret])
     go_ret2
     exact ⟨_, by first | rfl | (simp [errW_none, errW_some] <;> rfl) | (simp [*, errW_none, errW_some] <;> rfl), by first | exact Kd.R_nil _ _ _ _ _ | exact Kd.N_nil _ _ _ _ _ | exact Kd.V_nil _ _ _ _ _ | exact Kd.Q_nil _ _ _ _ _ | exact Kd.S_nil _ _ _ _ _, bG⟩
    subst c33
    replace H : (span_Parse.l0 kj3 t240 y237) = some (r1, r2) := by rw [if_pos rfl] at H; exact H
    have H' := Aside0.mk H
    clear H
    obtain ⟨hcz34_0, hcz34_1, hcz34_2, hcz34_3, hfz34_0, hfz34_1, hfz34_2, hfz34_3⟩ := cells4 BK234
    go_wp2_with (first | ((with_reducible refine gate_builtin (b := .append) (xs := #[.tmp 39, .tmp 41]) rfl ?_); (try (refine gate_guard (by rfl) ?_; dsimp only)); at_builtin; refine Kd.R_append k30 (w0 := w) w.heap.size rfl (.tmp 39) (.tmp 41) 22 30 (.agg #[(.string ⟨#[]⟩), (.string ⟨#[]⟩), (.bool false), (.bool false)]) 40 rfl Tryz.underlying22 info30 rfl (by decide) (by omega) u4 x4_1 (⟨t228, t229, t230, t231⟩ : S30) [.string t228, .string t229, .bool t230, .bool t231] (fun k_ => k_ ≠ gb234) (fun _ => False) rfl rfl ?aP (fun _ hk => hk.elim) ?aF ?aO ?aB ?aS ?aL ?_; (case aP => exact k30_mkM _ _ _ (⟨t228, t229, t230, t231⟩ : S30)); (case aB => exact bG); (case aF => exact (fun k_ hk => Kd.freshB (g := gb234) (o := .cells #[.string t228, .string t229, .bool t230, .bool t231] 30 (0, 0)) (bK BK234) k_ hk)); (case aO => exact (kR HO_4)); (case aS => exact (below_size bG)); (case aL => have := LMc28.out; omega); intro v238 w35 ho hb hg hat; rw [← Ny237.out] at ho; replace BK234 := Aside0.mk (blk_grown (g := gb234) (o := .cells #[.string t228, .string t229, .bool t230, .bool t231] 30 (0, 0)) (bK BK234) hg (Kd.R_away HO_4.out (fun _ hk => hk))); replace HB := Aside0.mk (hb); have HO239 := Aside0.mk (ho); clear HO_4; clear ho hb hg hat) | (refine gl (some 48) Tryz.func23 #[.string t232, .string (⟨#[44]⟩ : ByteArray)] ?_; (with_reducible refine (strings_CutPrefix.calls t232 (⟨#[44]⟩ : ByteArray) t240 true _ (gS HG) A32.out).mono ?_); rintro e w' ⟨rfl, ⟨nd, rfl⟩⟩; refine ⟨_, rfl, ?_⟩))
    refine wp_goto (And.intro rfl ?_)
    refine hKs0 _ _ ?_
    go_roundg kj3
    case measure => have := HK1.out; have := HJ3.out; omega
    case rel => exact ⟨(t240), (y237), cA, H', ⟨by have := HK1.out; have := HJ3.out; omega⟩, ⟨by (with_reducible repeat (first | apply Kd.R_alloc | apply Kd.R_drewN | apply Kd.R_drew)); exact Kd.R_mono HO239.out (fun _ hk => trivial)⟩, ⟨bG⟩⟩
def newellaw07_awake.f (k : Nat)  : Option (Bool) := (span_Parse.f k (⟨#[91, 49, 44, 50, 41]⟩ : ByteArray)).bind fun bt268 => (if bt268.2 = 0 then (if (bt268.1.length : Int) = 1 then ((span_Holds.f k bt268.1 (⟨#[49, 46, 53]⟩ : ByteArray)).bind fun t272 => (if t272 = true then ((span_Is.f (⟨#[40]⟩ : ByteArray)).bind fun t273 => (if t273 = true then ((span_Text.f k bt268.1).bind fun t274 => (some (t274.toList == ([91, 49, 44, 50, 41] : List UInt8)))) else (some false))) else (some false))) else (some false)) else (some false))
theorem newellaw07_awake.mono : ∀ k, LeO (newellaw07_awake.f k ) (newellaw07_awake.f (k + 1) ) := by
 intro  k
 unfold newellaw07_awake.f
 have m0 := @span_Holds.mono
 have m1 := @span_Parse.mono
 have m2 := @span_Text.mono
 exact mo
theorem newellaw07_awake.calls (k : Nat)  (r : Bool) (w : World) (hG : Glob w) (h : newellaw07_awake.f k  = some r) :
 Calls Tryz.prog 5 #[] w fun e w' => e = .returned (.bool r) ∧ Below w.heap.size w w' := by
 have HG := Aside0.mk hG
 clear hG
 have HB := Aside0.mk (Below.refl w.heap.size w)
 have H : ((span_Parse.f k (⟨#[91, 49, 44, 50, 41]⟩ : ByteArray)).bind fun bt268 => (if bt268.2 = 0 then (if (bt268.1.length : Int) = 1 then ((span_Holds.f k bt268.1 (⟨#[49, 46, 53]⟩ : ByteArray)).bind fun t272 => (if t272 = true then ((span_Is.f (⟨#[40]⟩ : ByteArray)).bind fun t273 => (if t273 = true then ((span_Text.f k bt268.1).bind fun t274 => (some (t274.toList == ([91, 49, 44, 50, 41] : List UInt8)))) else (some false))) else (some false))) else (some false)) else (some false))) = some r := h
 clear h
 replace H := bi H
 obtain ⟨⟨t268, t269⟩, A10, H⟩ := H
 try dsimp only at H
 have A1 := Aside0.mk A10
 clear A10
 by_cases c2 : t269 = 0
 rotate_left
 ·rw [if_neg c2] at H
  obtain ⟨c2b0, c2b1⟩ := eqF c2
  obtain rfl := Option.some.inj H
  go_enter Tryz.func5, Tryz.ntmps5
  go_wp2_with (first | (refine gl (some 4) Tryz.func9 #[.string (⟨#[91, 49, 44, 50, 41]⟩ : ByteArray)] ?_; (with_reducible refine (span_Parse.calls k (⟨#[91, 49, 44, 50, 41]⟩ : ByteArray) t268 t269 _ (gS HG) A1.out).mono ?_); rintro e w21 ⟨v270, rfl, ho0, hb⟩; refine ⟨_, rfl, ?_⟩; have HO271 := Aside0.mk (Kd.R_lower ho0 (below_size bE)); replace HB := sB hb; (try clear hb); (try clear ho0)))
  go_ret
  exact ⟨eA, bE⟩
 rw [if_pos c2] at H
 obtain ⟨c2b0, c2b1⟩ := eqT c2
 clear c2
 by_cases c3 : (t268.length : Int) = 1
 rotate_left
 ·rw [if_neg c3] at H
  obtain ⟨c3b0, c3b1⟩ := eqF c3
  obtain rfl := Option.some.inj H
  go_enter Tryz.func5, Tryz.ntmps5
  go_wp2_with (first | (refine gl (some 4) Tryz.func9 #[.string (⟨#[91, 49, 44, 50, 41]⟩ : ByteArray)] ?_; (with_reducible refine (span_Parse.calls k (⟨#[91, 49, 44, 50, 41]⟩ : ByteArray) t268 t269 _ (gS HG) A1.out).mono ?_); rintro e w19 ⟨v270, rfl, ho0, hb⟩; refine ⟨_, rfl, ?_⟩; have HO271 := Aside0.mk (Kd.R_lower ho0 (below_size bE)); replace HB := sB hb; (try clear hb); (try clear ho0); obtain ⟨Ao20, co20, eo20⟩ := Kd.R_slice HO271.out; subst eo20))
  go_ret
  exact ⟨eA, bE⟩
 rw [if_pos c3] at H
 obtain ⟨c3b0, c3b1⟩ := eqT c3
 clear c3
 replace H := bi H
 obtain ⟨t272, A40, H⟩ := H
 try dsimp only at H
 have A4 := Aside0.mk A40
 clear A40
 by_cases c5 : t272 = true
 rotate_left
 ·replace c5 := Bool.eq_false_iff.mpr c5
  subst c5
  replace H : (some false) = some r := by rw [if_neg nF] at H; exact H
  obtain rfl := Option.some.inj H
  go_enter Tryz.func5, Tryz.ntmps5
  go_wp2_with (first | (refine gl (some 4) Tryz.func9 #[.string (⟨#[91, 49, 44, 50, 41]⟩ : ByteArray)] ?_; (with_reducible refine (span_Parse.calls k (⟨#[91, 49, 44, 50, 41]⟩ : ByteArray) t268 t269 _ (gS HG) A1.out).mono ?_); rintro e w16 ⟨v270, rfl, ho0, hb⟩; refine ⟨_, rfl, ?_⟩; have HO271 := Aside0.mk (Kd.R_lower ho0 (below_size bE)); replace HB := sB hb; (try clear hb); (try clear ho0); obtain ⟨Ao17, co17, eo17⟩ := Kd.R_slice HO271.out; subst eo17) | (go_at_call 8; (with_reducible refine (span_Holds.calls k _ _ t268 (⟨#[49, 46, 53]⟩ : ByteArray) false _ ?side1 ?side2 (gS HG) A4.out).mono ?_); (case side1 => repeat (first | exact (Kd.R_reads' HO271.out).2.2 | (with_reducible refine Kd.C_alloc ?_ _) | (with_reducible refine Kd.C_drewN ?_ _) | (with_reducible refine Kd.C_drew ?_))); (case side2 => exact (Kd.R_reads' HO271.out).2.1); rintro e w18 ⟨rfl, hb⟩; replace HO271 := rB HO271 hb; replace HB := sB hb; (try clear hb)))
  go_ret
  exact ⟨eA, bE⟩
 subst c5
 replace H : ((span_Is.f (⟨#[40]⟩ : ByteArray)).bind fun t273 => (if t273 = true then ((span_Text.f k t268).bind fun t274 => (some (t274.toList == ([91, 49, 44, 50, 41] : List UInt8)))) else (some false))) = some r := by rw [if_pos rfl] at H; exact H
 replace H := bi H
 obtain ⟨t273, A60, H⟩ := H
 try dsimp only at H
 have A6 := Aside0.mk A60
 clear A60
 by_cases c7 : t273 = true
 rotate_left
 ·replace c7 := Bool.eq_false_iff.mpr c7
  subst c7
  replace H : (some false) = some r := by rw [if_neg nF] at H; exact H
  obtain rfl := Option.some.inj H
  go_enter Tryz.func5, Tryz.ntmps5
  go_wp2_with (first | (refine gl (some 4) Tryz.func9 #[.string (⟨#[91, 49, 44, 50, 41]⟩ : ByteArray)] ?_; (with_reducible refine (span_Parse.calls k (⟨#[91, 49, 44, 50, 41]⟩ : ByteArray) t268 t269 _ (gS HG) A1.out).mono ?_); rintro e w13 ⟨v270, rfl, ho0, hb⟩; refine ⟨_, rfl, ?_⟩; have HO271 := Aside0.mk (Kd.R_lower ho0 (below_size bE)); replace HB := sB hb; (try clear hb); (try clear ho0); obtain ⟨Ao14, co14, eo14⟩ := Kd.R_slice HO271.out; subst eo14) | (go_at_call 8; (with_reducible refine (span_Holds.calls k _ _ t268 (⟨#[49, 46, 53]⟩ : ByteArray) true _ ?side1 ?side2 (gS HG) A4.out).mono ?_); (case side1 => repeat (first | exact (Kd.R_reads' HO271.out).2.2 | (with_reducible refine Kd.C_alloc ?_ _) | (with_reducible refine Kd.C_drewN ?_ _) | (with_reducible refine Kd.C_drew ?_))); (case side2 => exact (Kd.R_reads' HO271.out).2.1); rintro e w15 ⟨rfl, hb⟩; replace HO271 := rB HO271 hb; replace HB := sB hb; (try clear hb)) | (go_at_call 10; (with_reducible refine (span_Is.calls (⟨#[40]⟩ : ByteArray) false _ (gS HG) A6.out).mono ?_); rintro e w' ⟨rfl, ⟨nd, rfl⟩⟩))
  go_ret
  exact ⟨eA, bE⟩
 subst c7
 replace H : ((span_Text.f k t268).bind fun t274 => (some (t274.toList == ([91, 49, 44, 50, 41] : List UInt8)))) = some r := by rw [if_pos rfl] at H; exact H
 replace H := bi H
 obtain ⟨t274, A80, H⟩ := H
 try dsimp only at H
 have A8 := Aside0.mk A80
 clear A80
 obtain rfl := Option.some.inj H
 go_enter Tryz.func5, Tryz.ntmps5
 go_wp2_with (first | (refine gl (some 4) Tryz.func9 #[.string (⟨#[91, 49, 44, 50, 41]⟩ : ByteArray)] ?_; (with_reducible refine (span_Parse.calls k (⟨#[91, 49, 44, 50, 41]⟩ : ByteArray) t268 t269 _ (gS HG) A1.out).mono ?_); rintro e w9 ⟨v270, rfl, ho0, hb⟩; refine ⟨_, rfl, ?_⟩; have HO271 := Aside0.mk (Kd.R_lower ho0 (below_size bE)); replace HB := sB hb; (try clear hb); (try clear ho0); obtain ⟨Ao10, co10, eo10⟩ := Kd.R_slice HO271.out; subst eo10) | (go_at_call 8; (with_reducible refine (span_Holds.calls k _ _ t268 (⟨#[49, 46, 53]⟩ : ByteArray) true _ ?side1 ?side2 (gS HG) A4.out).mono ?_); (case side1 => repeat (first | exact (Kd.R_reads' HO271.out).2.2 | (with_reducible refine Kd.C_alloc ?_ _) | (with_reducible refine Kd.C_drewN ?_ _) | (with_reducible refine Kd.C_drew ?_))); (case side2 => exact (Kd.R_reads' HO271.out).2.1); rintro e w11 ⟨rfl, hb⟩; replace HO271 := rB HO271 hb; replace HB := sB hb; (try clear hb)) | (go_at_call 10; (with_reducible refine (span_Is.calls (⟨#[40]⟩ : ByteArray) true _ (gS HG) A6.out).mono ?_); rintro e w' ⟨rfl, ⟨nd, rfl⟩⟩) | (go_at_call 11; (with_reducible refine (span_Text.calls k _ _ t268 t274 _ ?side1 ?side2 (gS HG) A8.out).mono ?_); (case side1 => repeat (first | exact (Kd.R_reads' HO271.out).2.2 | (with_reducible refine Kd.C_alloc ?_ _) | (with_reducible refine Kd.C_drewN ?_ _) | (with_reducible refine Kd.C_drew ?_))); (case side2 => exact (Kd.R_reads' HO271.out).2.1); rintro e w12 ⟨rfl, hb⟩; replace HO271 := rB HO271 hb; replace HB := sB hb; (try clear hb)))
 go_ret
 exact ⟨eA, bE⟩
def newelref05_Right.l0 : Nat → ByteArray → Int → Option (Bool)
 | 0, _, _ => none
 | k + 1, x0, x3 => if x3 < (x0.size : Int) then (if 0 ≤ x3 then (if (bt x0 x3) < 33 then (some false) else (if (bt x0 x3) > 126 then (some false) else (if (bt x0 x3) = 91 then (some false) else (if (bt x0 x3) = 93 then (some false) else (if (bt x0 x3) = 40 then (some false) else (if (bt x0 x3) = 41 then (some false) else (if (bt x0 x3) = 44 then (some false) else (newelref05_Right.l0 k x0 (wrap64 (x3 + 1)))))))))) else (none)) else (if (x0.size : Int) ≥ 1 then (some (decide ((x0.size : Int) ≤ 100))) else (some false))
def newelref05_Right.f (k : Nat) (a0 : ByteArray) : Option (Bool) := newelref05_Right.l0 k a0 0
theorem newelref05_Right.mono_l : ∀ k, (∀ y0 y1, LeO (newelref05_Right.l0 k y0 y1) (newelref05_Right.l0 (k + 1) y0 y1))
 | 0 => fun _ _ r h => by simp [newelref05_Right.l0] at h
 | k + 1 => by
  have ih0 := newelref05_Right.mono_l k
  ·intro y0 y1
   unfold newelref05_Right.l0
   exact mo
theorem newelref05_Right.mono : ∀ a0 k, LeO (newelref05_Right.f k a0) (newelref05_Right.f (k + 1) a0) := by
 intro a0 k
 have ih0 := newelref05_Right.mono_l k
 unfold newelref05_Right.f
 exact mo
theorem newelref05_Right.calls (k : Nat) (a0 : ByteArray) (r : Bool) (w : World) (hG : Glob w) (h : newelref05_Right.f k a0 = some r) :
 Calls Tryz.prog 30 #[.string a0] w fun e w' => e = .returned (.bool r) ∧ Drawn0 w w' := by
 have HG := Aside0.mk hG
 clear hG
 have H : (newelref05_Right.l0 k a0 0) = some r := h
 clear h
 have H' := Aside0.mk H
 clear H
 go_enter Tryz.func30, Tryz.ntmps30
 go_wp2
 go_loopg [3] k (fun kq v3 w' => ∃ (x3_1 : Int), v3 = .int .i64 x3_1 ∧ Aside0 (newelref05_Right.l0 kq a0 x3_1 = some r) ∧ Aside0 (kq ≤ k) ∧ Drawn0 w w')
 case atStart => exact ⟨(0), cA, H', ⟨Nat.le_refl _⟩, by repeat (first | exact Drawn0.refl _ | apply Drawn0.step)⟩
 clear H'
 obtain ⟨x3_1, rfl, HA, HK1, ⟨m1, rfl⟩⟩ := hrel
 cases gk with
 | zero => exact absurd HA.out (by simp [newelref05_Right.l0])
 | succ k1 =>
  have H := HA.out
  clear HA
  simp only [newelref05_Right.l0] at H
  by_cases c2 : x3_1 < (a0.size : Int)
  rotate_left
  ·rw [if_neg c2] at H
   have c2b0 := dF c2
   clear c2
   by_cases c12 : (a0.size : Int) ≥ 1
   rotate_left
   ·rw [if_neg c12] at H
    have c12b0 := dF c12
    have c12b1 : decide (1 ≤ a0.size) = false := decide_eq_false (by omega)
    clear c12
    obtain rfl := Option.some.inj H
    go_wp2
    go_ret
    exact ⟨by first | rfl | (simp; done) | (simp [*]; done), by repeat (first | exact Drawn0.refl _ | apply Drawn0.step)⟩
   rw [if_pos c12] at H
   have c12b0 := dT c12
   have c12b1 : decide (1 ≤ a0.size) = true := decide_eq_true (by omega)
   clear c12
   obtain rfl := Option.some.inj H
   go_wp2
   go_ret
   exact ⟨by first | rfl | (simp; done) | (simp [*]; done), by repeat (first | exact Drawn0.refl _ | apply Drawn0.step)⟩
  rw [if_pos c2] at H
  have c2b0 := dT c2
  clear c2
  obtain ⟨c3, H⟩ := gp H
  have c3b0 := dT c3
  clear c3
  by_cases c5 : (bt a0 x3_1) < 33
  ·rw [if_pos c5] at H
   have c5b0 := dT c5
   clear c5
   obtain rfl := Option.some.inj H
   have p4 : 0 ≤ (x3_1 : Int) := dA
   have q4 : x3_1 < (a0.size : Int) := dA
   have hx4 := bt_at a0 x3_1
   replace p4 := eq_true p4
   replace q4 := eq_true q4
   go_wp2
   go_ret
   exact ⟨by first | rfl | (simp; done) | (simp [*]; done), by repeat (first | exact Drawn0.refl _ | apply Drawn0.step)⟩
  rw [if_neg c5] at H
  have c5b0 := dF c5
  clear c5
  by_cases c6 : (bt a0 x3_1) > 126
  ·rw [if_pos c6] at H
   have c6b0 := dT c6
   clear c6
   obtain rfl := Option.some.inj H
   have p4 : 0 ≤ (x3_1 : Int) := dA
   have q4 : x3_1 < (a0.size : Int) := dA
   have hx4 := bt_at a0 x3_1
   replace p4 := eq_true p4
   replace q4 := eq_true q4
   go_wp2
   go_ret
   exact ⟨by first | rfl | (simp; done) | (simp [*]; done), by repeat (first | exact Drawn0.refl _ | apply Drawn0.step)⟩
  rw [if_neg c6] at H
  have c6b0 := dF c6
  clear c6
  by_cases c7 : (bt a0 x3_1) = 91
  ·rw [if_pos c7] at H
   obtain ⟨c7b0, c7b1⟩ := eqT c7
   clear c7
   obtain rfl := Option.some.inj H
   have p4 : 0 ≤ (x3_1 : Int) := dA
   have q4 : x3_1 < (a0.size : Int) := dA
   have hx4 := bt_at a0 x3_1
   replace p4 := eq_true p4
   replace q4 := eq_true q4
   go_wp2
   go_ret
   exact ⟨by first | rfl | (simp; done) | (simp [*]; done), by repeat (first | exact Drawn0.refl _ | apply Drawn0.step)⟩
  rw [if_neg c7] at H
  obtain ⟨c7b0, c7b1⟩ := eqF c7
  by_cases c8 : (bt a0 x3_1) = 93
  ·rw [if_pos c8] at H
   obtain ⟨c8b0, c8b1⟩ := eqT c8
   clear c8
   obtain rfl := Option.some.inj H
   have p4 : 0 ≤ (x3_1 : Int) := dA
   have q4 : x3_1 < (a0.size : Int) := dA
   have hx4 := bt_at a0 x3_1
   replace p4 := eq_true p4
   replace q4 := eq_true q4
   go_wp2
   go_ret
   exact ⟨by first | rfl | (simp; done) | (simp [*]; done), by repeat (first | exact Drawn0.refl _ | apply Drawn0.step)⟩
  rw [if_neg c8] at H
  obtain ⟨c8b0, c8b1⟩ := eqF c8
  by_cases c9 : (bt a0 x3_1) = 40
  ·rw [if_pos c9] at H
   obtain ⟨c9b0, c9b1⟩ := eqT c9
   clear c9
   obtain rfl := Option.some.inj H
   have p4 : 0 ≤ (x3_1 : Int) := dA
   have q4 : x3_1 < (a0.size : Int) := dA
   have hx4 := bt_at a0 x3_1
   replace p4 := eq_true p4
   replace q4 := eq_true q4
   go_wp2
   go_ret
   exact ⟨by first | rfl | (simp; done) | (simp [*]; done), by repeat (first | exact Drawn0.refl _ | apply Drawn0.step)⟩
  rw [if_neg c9] at H
  obtain ⟨c9b0, c9b1⟩ := eqF c9
  by_cases c10 : (bt a0 x3_1) = 41
  ·rw [if_pos c10] at H
   obtain ⟨c10b0, c10b1⟩ := eqT c10
   clear c10
   obtain rfl := Option.some.inj H
   have p4 : 0 ≤ (x3_1 : Int) := dA
   have q4 : x3_1 < (a0.size : Int) := dA
   have hx4 := bt_at a0 x3_1
   replace p4 := eq_true p4
   replace q4 := eq_true q4
   go_wp2
   go_ret
   exact ⟨by first | rfl | (simp; done) | (simp [*]; done), by repeat (first | exact Drawn0.refl _ | apply Drawn0.step)⟩
  rw [if_neg c10] at H
  obtain ⟨c10b0, c10b1⟩ := eqF c10
  by_cases c11 : (bt a0 x3_1) = 44
  ·rw [if_pos c11] at H
   obtain ⟨c11b0, c11b1⟩ := eqT c11
   clear c11
   obtain rfl := Option.some.inj H
   have p4 : 0 ≤ (x3_1 : Int) := dA
   have q4 : x3_1 < (a0.size : Int) := dA
   have hx4 := bt_at a0 x3_1
   replace p4 := eq_true p4
   replace q4 := eq_true q4
   go_wp2
   go_ret
   exact ⟨by first | rfl | (simp; done) | (simp [*]; done), by repeat (first | exact Drawn0.refl _ | apply Drawn0.step)⟩
  rw [if_neg c11] at H
  obtain ⟨c11b0, c11b1⟩ := eqF c11
  have H' := Aside0.mk H
  clear H
  have p4 : 0 ≤ (x3_1 : Int) := dA
  have q4 : x3_1 < (a0.size : Int) := dA
  have hx4 := bt_at a0 x3_1
  replace p4 := eq_true p4
  replace q4 := eq_true q4
  go_wp2
  go_roundg k1
  case measure => have := HK1.out; omega
  case rel => exact ⟨(wrap64 (x3_1 + 1)), cA, H', ⟨by have := HK1.out; omega⟩, by repeat (first | exact Drawn0.refl _ | apply Drawn0.step)⟩
section
theorem bytesLess_turn_r : ∀ x y : List UInt8, (!(Op.bytesLess x y || x == y)) = Op.bytesLess y x
 | [], [] => rfl
 | [], _ :: _ => rfl
 | _ :: _, [] => rfl
 | a :: x, b :: y => by
  have ih := bytesLess_turn_r x y
  rcases Nat.lt_trichotomy a.toNat b.toNat with h | h | h
  ·have h1 : decide (a < b) = true := decide_eq_true (UInt8.lt_iff_toNat_lt.2 h)
   have h2 : decide (b < a) = false := decide_eq_false (fun g => by have := UInt8.lt_iff_toNat_lt.1 g; omega)
   have h3 : (b == a) = false := by rw [Bool.eq_false_iff]; intro g; rw [beq_iff_eq] at g; rw [g] at h; omega
   simp [Op.bytesLess, h1, h2, h3]
  ·obtain rfl : a = b := UInt8.toNat_inj.1 h
   have h1 : decide (a < a) = false := decide_eq_false (fun g => by have := UInt8.lt_iff_toNat_lt.1 g; omega)
   simp only [Op.bytesLess, h1, beq_self_eq_true, Bool.true_and, Bool.false_or]
   rw [← ih]
   simp
  ·have h1 : decide (b < a) = true := decide_eq_true (UInt8.lt_iff_toNat_lt.2 h)
   have h2 : decide (a < b) = false := decide_eq_false (fun g => by have := UInt8.lt_iff_toNat_lt.1 g; omega)
   have h3 : (a == b) = false := by rw [Bool.eq_false_iff]; intro g; rw [beq_iff_eq] at g; rw [g] at h; omega
   have h4 : ¬ a = b := by simpa using h3
   simp [Op.bytesLess, h1, h2, h3, h4]
theorem binOp_gtr_turned_r (t : TypeId) (a b : ByteArray) : binOp .gtr t (.string a) (.string b) = pure (.bool (Op.bytesLess b.toList a.toList)) := by
 rw [← bytesLess_turn_r]
 simp [binOp, Op.stringOp]
attribute [local go_sem] binOp_gtr_turned_r
def newelref05_text.f (a0 : ByteArray) (a1 : ByteArray) : Option (Int) := if (Op.bytesLess a0.toList a1.toList) = true then (some (-1)) else (if (Op.bytesLess a1.toList a0.toList) = true then (some 1) else (some 0))
theorem newelref05_text.calls (a0 : ByteArray) (a1 : ByteArray) (r : Int) (w : World) (hG : Glob w) (h : newelref05_text.f a0 a1 = some r) :
 Calls Tryz.prog 86 #[.string a0, .string a1] w fun e w' => e = .returned (.int .i64 r) ∧ Drawn0 w w' := by
 have HG := Aside0.mk hG
 clear hG
 have H : (if (Op.bytesLess a0.toList a1.toList) = true then (some (-1)) else (if (Op.bytesLess a1.toList a0.toList) = true then (some 1) else (some 0))) = some r := h
 clear h
 by_cases c3 : (Op.bytesLess a0.toList a1.toList) = true
 ·rw [if_pos c3] at H
  have c3b0 : (Op.bytesLess a0.toList a1.toList) = true := c3
  clear c3
  obtain rfl := Option.some.inj H
  go_enter Tryz.func86, Tryz.ntmps86
  go_wp2
  go_ret
  exact ⟨by first | rfl | (simp; done) | (simp [*]; done), by repeat (first | exact Drawn0.refl _ | apply Drawn0.step)⟩
 rw [if_neg c3] at H
 have c3b0 : (Op.bytesLess a0.toList a1.toList) = false := by simpa using c3
 clear c3
 by_cases c4 : (Op.bytesLess a1.toList a0.toList) = true
 rotate_left
 ·rw [if_neg c4] at H
  have c4b0 : (Op.bytesLess a1.toList a0.toList) = false := by simpa using c4
  clear c4
  obtain rfl := Option.some.inj H
  go_enter Tryz.func86, Tryz.ntmps86
  go_wp2
  go_ret
  exact ⟨by first | rfl | (simp; done) | (simp [*]; done), by repeat (first | exact Drawn0.refl _ | apply Drawn0.step)⟩
 rw [if_pos c4] at H
 have c4b0 : (Op.bytesLess a1.toList a0.toList) = true := c4
 clear c4
 obtain rfl := Option.some.inj H
 go_enter Tryz.func86, Tryz.ntmps86
 go_wp2
 go_ret
 exact ⟨by first | rfl | (simp; done) | (simp [*]; done), by repeat (first | exact Drawn0.refl _ | apply Drawn0.step)⟩
end
def newelref05_one.j0 : Nat → Bool → Int → ByteArray → Int → ByteArray → Option (Int)
 | 0, _, _, _, _, _ => none
 | k + 1, x26, x363000, x363001, x364000, x364001 => if x26 = true then (if (x363001.size : Int) = (x364001.size : Int) then ((newelref05_text.f x363001 x364001).bind fun t365 => (some t365)) else (if (x363001.size : Int) < (x364001.size : Int) then (some (-1)) else (some 1))) else (some 0)
def newelref05_one.f (k : Nat) (a0_0 : Int) (a0_1 : ByteArray) (a1_0 : Int) (a1_1 : ByteArray) : Option (Int) := if a0_0 < a1_0 then (some (-1)) else (if a0_0 > a1_0 then (some 1) else (if a0_0 = 8 then ((newelref05_text.f a0_1 a1_1).bind fun t364 => (some t364)) else (if a0_0 = 9 then (newelref05_one.j0 k true a0_0 a0_1 a1_0 a1_1) else (newelref05_one.j0 k (a0_0 == 10) a0_0 a0_1 a1_0 a1_1))))
theorem newelref05_one.mono_l : ∀ k, (∀ y0 y1 y2 y3 y4, LeO (newelref05_one.j0 k y0 y1 y2 y3 y4) (newelref05_one.j0 (k + 1) y0 y1 y2 y3 y4))
 | 0 => fun _ _ _ _ _ r h => by simp [newelref05_one.j0] at h
 | k + 1 => by
  have ih0 := newelref05_one.mono_l k
  ·intro y0 y1 y2 y3 y4
   unfold newelref05_one.j0
   exact mo
theorem newelref05_one.mono : ∀ a0 a1 a2 a3 k, LeO (newelref05_one.f k a0 a1 a2 a3) (newelref05_one.f (k + 1) a0 a1 a2 a3) := by
 intro a0 a1 a2 a3 k
 have ih0 := newelref05_one.mono_l k
 unfold newelref05_one.f
 exact mo
theorem newelref05_one.calls (k : Nat) (a0_0 : Int) (a0_1 : ByteArray) (a1_0 : Int) (a1_1 : ByteArray) (r : Int) (w : World) (hG : Glob w) (h : newelref05_one.f k a0_0 a0_1 a1_0 a1_1 = some r) :
 Calls Tryz.prog 64 #[.agg #[.int .i64 a0_0, .string a0_1], .agg #[.int .i64 a1_0, .string a1_1]] w fun e w' => e = .returned (.int .i64 r) ∧ Below w.heap.size w w' := by
 have hu85 := Tryz.underlying85
 have HG := Aside0.mk hG
 clear hG
 have HB := Aside0.mk (Below.refl w.heap.size w)
 have H : (if a0_0 < a1_0 then (some (-1)) else (if a0_0 > a1_0 then (some 1) else (if a0_0 = 8 then ((newelref05_text.f a0_1 a1_1).bind fun t364 => (some t364)) else (if a0_0 = 9 then (newelref05_one.j0 k true a0_0 a0_1 a1_0 a1_1) else (newelref05_one.j0 k (a0_0 == 10) a0_0 a0_1 a1_0 a1_1))))) = some r := h
 clear h
 by_cases c3 : a0_0 < a1_0
 ·rw [if_pos c3] at H
  have c3b0 := dT c3
  clear c3
  obtain rfl := Option.some.inj H
  go_enter Tryz.func64, Tryz.ntmps64
  go_wp2_with (first | (refine be 2 #[.int .i64 a0_0, .string a0_1] 85 ?_; intro gb362 hg w4 hbox hb; have BK362 := Aside0.mk (hbox); have GW362 := gW hg; have GE362 := gW hg; replace HB := sB hb; clear hb hbox hg) | (refine be 3 #[.int .i64 a1_0, .string a1_1] 85 ?_; intro gb363 hg w5 hbox hb; have BK363 := Aside0.mk (hbox); have GW363 := gW hg; have GE363 := gW hg; replace HB := sB hb; have NB362_363 := nL BK362 hg; have NB363_362 := nG BK362 hg; replace BK362 := kB BK362 hb; clear hb hbox hg; have hnb6 := NB362_363.out; have hnc6 := NB363_362.out; have hcz7_0 : w5.cell? ⟨gb362, 0, none⟩ = some (.int .i64 a0_0) := (blk_cell BK362.out 0).trans rfl; have hcz7_1 : w5.cell? ⟨gb362, 1, none⟩ = some (.string a0_1) := (blk_cell BK362.out 1).trans rfl; have hfz7_0 := blk_frozen BK362.out 0; have hfz7_1 := blk_frozen BK362.out 1; have hcz8_0 : w5.cell? ⟨gb363, 0, none⟩ = some (.int .i64 a1_0) := (blk_cell BK363.out 0).trans rfl; have hcz8_1 : w5.cell? ⟨gb363, 1, none⟩ = some (.string a1_1) := (blk_cell BK363.out 1).trans rfl; have hfz8_0 := blk_frozen BK363.out 0; have hfz8_1 := blk_frozen BK363.out 1))
  go_ret
  exact ⟨eA, bG⟩
 rw [if_neg c3] at H
 have c3b0 := dF c3
 clear c3
 by_cases c9 : a0_0 > a1_0
 ·rw [if_pos c9] at H
  have c9b0 := dT c9
  clear c9
  obtain rfl := Option.some.inj H
  go_enter Tryz.func64, Tryz.ntmps64
  go_wp2_with (first | (refine be 2 #[.int .i64 a0_0, .string a0_1] 85 ?_; intro gb362 hg w10 hbox hb; have BK362 := Aside0.mk (hbox); have GW362 := gW hg; have GE362 := gW hg; replace HB := sB hb; clear hb hbox hg) | (refine be 3 #[.int .i64 a1_0, .string a1_1] 85 ?_; intro gb363 hg w11 hbox hb; have BK363 := Aside0.mk (hbox); have GW363 := gW hg; have GE363 := gW hg; replace HB := sB hb; have NB362_363 := nL BK362 hg; have NB363_362 := nG BK362 hg; replace BK362 := kB BK362 hb; clear hb hbox hg; have hnb12 := NB362_363.out; have hnc12 := NB363_362.out; have hcz13_0 : w11.cell? ⟨gb362, 0, none⟩ = some (.int .i64 a0_0) := (blk_cell BK362.out 0).trans rfl; have hcz13_1 : w11.cell? ⟨gb362, 1, none⟩ = some (.string a0_1) := (blk_cell BK362.out 1).trans rfl; have hfz13_0 := blk_frozen BK362.out 0; have hfz13_1 := blk_frozen BK362.out 1; have hcz14_0 : w11.cell? ⟨gb363, 0, none⟩ = some (.int .i64 a1_0) := (blk_cell BK363.out 0).trans rfl; have hcz14_1 : w11.cell? ⟨gb363, 1, none⟩ = some (.string a1_1) := (blk_cell BK363.out 1).trans rfl; have hfz14_0 := blk_frozen BK363.out 0; have hfz14_1 := blk_frozen BK363.out 1))
  go_ret
  exact ⟨eA, bG⟩
 rw [if_neg c9] at H
 have c9b0 := dF c9
 clear c9
 by_cases c15 : a0_0 = 8
 ·rw [if_pos c15] at H
  obtain ⟨c15b0, c15b1⟩ := eqT c15
  clear c15
  replace H := bi H
  obtain ⟨t364, A160, H⟩ := H
  try dsimp only at H
  have A16 := Aside0.mk A160
  clear A160
  obtain rfl := Option.some.inj H
  go_enter Tryz.func64, Tryz.ntmps64
  go_wp2_with (first | (refine be 2 #[.int .i64 a0_0, .string a0_1] 85 ?_; intro gb362 hg w17 hbox hb; have BK362 := Aside0.mk (hbox); have GW362 := gW hg; have GE362 := gW hg; replace HB := sB hb; clear hb hbox hg) | (refine be 3 #[.int .i64 a1_0, .string a1_1] 85 ?_; intro gb363 hg w18 hbox hb; have BK363 := Aside0.mk (hbox); have GW363 := gW hg; have GE363 := gW hg; replace HB := sB hb; have NB362_363 := nL BK362 hg; have NB363_362 := nG BK362 hg; replace BK362 := kB BK362 hb; clear hb hbox hg; have hnb19 := NB362_363.out; have hnc19 := NB363_362.out; have hcz20_0 : w18.cell? ⟨gb362, 0, none⟩ = some (.int .i64 a0_0) := (blk_cell BK362.out 0).trans rfl; have hcz20_1 : w18.cell? ⟨gb362, 1, none⟩ = some (.string a0_1) := (blk_cell BK362.out 1).trans rfl; have hfz20_0 := blk_frozen BK362.out 0; have hfz20_1 := blk_frozen BK362.out 1; have hcz21_0 : w18.cell? ⟨gb363, 0, none⟩ = some (.int .i64 a1_0) := (blk_cell BK363.out 0).trans rfl; have hcz21_1 : w18.cell? ⟨gb363, 1, none⟩ = some (.string a1_1) := (blk_cell BK363.out 1).trans rfl; have hfz21_0 := blk_frozen BK363.out 0; have hfz21_1 := blk_frozen BK363.out 1) | (refine gl (some 25) Tryz.func86 #[.string a0_1, .string a1_1] ?_; (with_reducible refine (newelref05_text.calls a0_1 a1_1 t364 _ (gS HG) A16.out).mono ?_); rintro e w' ⟨rfl, ⟨nd, rfl⟩⟩; refine ⟨_, rfl, ?_⟩))
  go_ret
  exact ⟨eA, bG⟩
 rw [if_neg c15] at H
 obtain ⟨c15b0, c15b1⟩ := eqF c15
 have HC22 := Aside0.mk H
 clear H
 go_enter Tryz.func64, Tryz.ntmps64
 go_upto_region 7 with (first | (refine be 2 #[.int .i64 a0_0, .string a0_1] 85 ?_; intro gb362 hg w23 hbox hb; have BK362 := Aside0.mk (hbox); have GW362 := gW hg; have GE362 := gW hg; replace HB := sB hb; clear hb hbox hg) | (refine be 3 #[.int .i64 a1_0, .string a1_1] 85 ?_; intro gb363 hg w24 hbox hb; have BK363 := Aside0.mk (hbox); have GW363 := gW hg; have GE363 := gW hg; replace HB := sB hb; have NB362_363 := nL BK362 hg; have NB363_362 := nG BK362 hg; replace BK362 := kB BK362 hb; clear hb hbox hg; have hnb25 := NB362_363.out; have hnc25 := NB363_362.out; have hcz26_0 : w24.cell? ⟨gb362, 0, none⟩ = some (.int .i64 a0_0) := (blk_cell BK362.out 0).trans rfl; have hcz26_1 : w24.cell? ⟨gb362, 1, none⟩ = some (.string a0_1) := (blk_cell BK362.out 1).trans rfl; have hfz26_0 := blk_frozen BK362.out 0; have hfz26_1 := blk_frozen BK362.out 1; have hcz27_0 : w24.cell? ⟨gb363, 0, none⟩ = some (.int .i64 a1_0) := (blk_cell BK363.out 0).trans rfl; have hcz27_1 : w24.cell? ⟨gb363, 1, none⟩ = some (.string a1_1) := (blk_cell BK363.out 1).trans rfl; have hfz27_0 := blk_frozen BK363.out 0; have hfz27_1 := blk_frozen BK363.out 1))
 (try simp only [Act.put, List.setIfInBounds_toArray, List.set_cons_zero, List.set_cons_succ])
 go_cut [26] (fun v26 wc => ∃ (kq : Nat) (x26_21 : Bool), v26 = .bool x26_21 ∧ Aside0 (newelref05_one.j0 kq x26_21 a0_0 a0_1 a1_0 a1_1 = some r) ∧ Aside0 (kq ≤ k) ∧ Aside0 (wc.heap[gb362]? = some (.cells #[.int .i64 a0_0, .string a0_1] 85 (0, 0))) ∧ Aside0 (wc.heap[gb363]? = some (.cells #[.int .i64 a1_0, .string a1_1] 85 (0, 0))) ∧ Aside0 (Below w.heap.size w wc))
 case first =>
  have H := HC22.out
  clear HC22
  by_cases c28 : a0_0 = 9
  rotate_left
  ·rw [if_neg c28] at H
   obtain ⟨c28b0, c28b1⟩ := eqF c28
   (first | rw [c28b0] | (simp only [i64_w, i32_w]; rw [c28b0]) | skip)
   have H' := Aside0.mk H
   clear H
   have hnb31 := NB362_363.out
   have hnc31 := NB363_362.out
   obtain ⟨hcz32_0, hcz32_1, hfz32_0, hfz32_1⟩ := cells2 BK362
   go_wp2
   go_meet
   case rel => exact ⟨_, ((a0_0 == 10)), cA, H', ⟨by first | omega | exact Nat.le_refl _⟩, ⟨bK BK362⟩, ⟨bK BK363⟩, ⟨bG⟩⟩
  rw [if_pos c28] at H
  obtain ⟨c28b0, c28b1⟩ := eqT c28
  clear c28
  (first | rw [c28b0] | (simp only [i64_w, i32_w]; rw [c28b0]) | skip)
  have H' := Aside0.mk H
  clear H
  have hnb29 := NB362_363.out
  have hnc29 := NB363_362.out
  obtain ⟨hcz30_0, hcz30_1, hfz30_0, hfz30_1⟩ := cells2 BK362
  go_wp2
  go_meet
  case rel => exact ⟨_, (true), cA, H', ⟨by first | omega | exact Nat.le_refl _⟩, ⟨bK BK362⟩, ⟨bK BK363⟩, ⟨bG⟩⟩
 clear HC22
 try clear c1
 try clear c2
 try clear p2
 try clear c3
 try clear c3b0
 try clear c6
 try clear c8
 try clear c9
 try clear c9b0
 try clear c12
 try clear c15
 try clear c15b0
 try clear c15b1
 try clear c19
 try clear c25
 try clear c28
 try clear c28b0
 try clear c28b1
 try clear c29
 try clear c31
 try clear hcz13_0
 try clear hcz13_1
 try clear hcz14_0
 try clear hcz14_1
 try clear hcz20_0
 try clear hcz20_1
 try clear hcz21_0
 try clear hcz21_1
 try clear hcz26_0
 try clear hcz26_1
 try clear hcz27_0
 try clear hcz27_1
 try clear hcz30_0
 try clear hcz30_1
 try clear hcz32_0
 try clear hcz32_1
 try clear hcz7_0
 try clear hcz7_1
 try clear hcz8_0
 try clear hcz8_1
 try clear hfz13_0
 try clear hfz13_1
 try clear hfz14_0
 try clear hfz14_1
 try clear hfz20_0
 try clear hfz20_1
 try clear hfz21_0
 try clear hfz21_1
 try clear hfz26_0
 try clear hfz26_1
 try clear hfz27_0
 try clear hfz27_1
 try clear hfz30_0
 try clear hfz30_1
 try clear hfz32_0
 try clear hfz32_1
 try clear hfz7_0
 try clear hfz7_1
 try clear hfz8_0
 try clear hfz8_1
 obtain ⟨kq, x26_21, rfl, HA, HJ21, BK362, BK363, HB⟩ := hcut
 cases kq with
 | zero => exact absurd HA.out (by simp [newelref05_one.j0])
 | succ kj21 =>
  have H := HA.out
  clear HA
  simp only [newelref05_one.j0] at H
  by_cases c33 : x26_21 = true
  rotate_left
  ·replace c33 := Bool.eq_false_iff.mpr c33
   subst c33
   replace H : (some 0) = some r := by rw [if_neg nF] at H; exact H
   obtain rfl := Option.some.inj H
   go_wp2
   go_ret
   exact ⟨eA, bG⟩
  subst c33
  replace H : (if (a0_1.size : Int) = (a1_1.size : Int) then ((newelref05_text.f a0_1 a1_1).bind fun t365 => (some t365)) else (if (a0_1.size : Int) < (a1_1.size : Int) then (some (-1)) else (some 1))) = some r := by rw [if_pos rfl] at H; exact H
  by_cases c34 : (a0_1.size : Int) = (a1_1.size : Int)
  ·rw [if_pos c34] at H
   obtain ⟨c34b0, c34b1⟩ := eqT c34
   have c34b2 : (a0_1.size == a1_1.size) = true := by first | simpa using c34 | (simp at c34 ⊢; omega)
   clear c34
   replace H := bi H
   obtain ⟨t365, A350, H⟩ := H
   try dsimp only at H
   have A35 := Aside0.mk A350
   clear A350
   obtain rfl := Option.some.inj H
   have hnb36 := NB362_363.out
   have hnc36 := NB363_362.out
   obtain ⟨hcz37_0, hcz37_1, hfz37_0, hfz37_1⟩ := cells2 BK362
   obtain ⟨hcz38_0, hcz38_1, hfz38_0, hfz38_1⟩ := cells2 BK363
   go_wp2_with (first | (refine gl (some 53) Tryz.func86 #[.string a0_1, .string a1_1] ?_; (with_reducible refine (newelref05_text.calls a0_1 a1_1 t365 _ (gS HG) A35.out).mono ?_); rintro e w' ⟨rfl, ⟨nd, rfl⟩⟩; refine ⟨_, rfl, ?_⟩))
   go_ret
   exact ⟨eA, bG⟩
  rw [if_neg c34] at H
  obtain ⟨c34b0, c34b1⟩ := eqF c34
  have c34b2 : (a0_1.size == a1_1.size) = false := by first | simpa using c34 | (simp at c34 ⊢; omega)
  by_cases c39 : (a0_1.size : Int) < (a1_1.size : Int)
  rotate_left
  ·rw [if_neg c39] at H
   have c39b0 := dF c39
   have c39b1 : decide (a0_1.size < a1_1.size) = false := decide_eq_false (fun h => c39 (Int.ofNat_lt.mpr h))
   clear c39
   obtain rfl := Option.some.inj H
   have hnb43 := NB362_363.out
   have hnc43 := NB363_362.out
   obtain ⟨hcz44_0, hcz44_1, hfz44_0, hfz44_1⟩ := cells2 BK362
   obtain ⟨hcz45_0, hcz45_1, hfz45_0, hfz45_1⟩ := cells2 BK363
   go_wp2
   go_ret
   exact ⟨eA, bG⟩
  rw [if_pos c39] at H
  have c39b0 := dT c39
  have c39b1 : decide (a0_1.size < a1_1.size) = true := decide_eq_true (Int.ofNat_lt.mp c39)
  clear c39
  obtain rfl := Option.some.inj H
  have hnb40 := NB362_363.out
  have hnc40 := NB363_362.out
  obtain ⟨hcz41_0, hcz41_1, hfz41_0, hfz41_1⟩ := cells2 BK362
  obtain ⟨hcz42_0, hcz42_1, hfz42_0, hfz42_1⟩ := cells2 BK363
  go_wp2
  go_ret
  exact ⟨eA, bG⟩
mutual
def newelref05_Words.l0 : Nat → List (S85) → List (S85) → Int → Option (Int)
 | 0, _, _, _ => none
 | k + 1, x0, x1, x5 => if x5 < (x0.length : Int) then (newelref05_Words.j1 k x0 x1 x5 true) else (newelref05_Words.j1 k x0 x1 x5 (decide (x5 < (x1.length : Int))))
def newelref05_Words.j1 : Nat → List (S85) → List (S85) → Int → Bool → Option (Int)
 | 0, _, _, _, _ => none
 | k + 1, x0, x1, x5, x18 => if x18 = true then (if x5 < (x0.length : Int) then (if 0 ≤ x5 then (newelref05_Words.j2 k x0 x1 x5 ((rd_T85 x0 x5).f0) ((rd_T85 x0 x5).f1) 6 (⟨#[]⟩ : ByteArray)) else (none)) else (newelref05_Words.j2 k x0 x1 x5 6 (⟨#[]⟩ : ByteArray) 6 (⟨#[]⟩ : ByteArray))) else (some 0)
def newelref05_Words.j2 : Nat → List (S85) → List (S85) → Int → Int → ByteArray → Int → ByteArray → Option (Int)
 | 0, _, _, _, _, _, _, _ => none
 | k + 1, x0, x1, x5, x367000, x367001, x368000, x368001 => if x5 < (x1.length : Int) then (if 0 ≤ x5 then ((newelref05_one.f k x367000 x367001 ((rd_T85 x1 x5).f0) ((rd_T85 x1 x5).f1)).bind fun t370 => (if t370 = 0 then (newelref05_Words.l0 k x0 x1 (wrap64 (x5 + 1))) else (some t370))) else (none)) else ((newelref05_one.f k x367000 x367001 x368000 x368001).bind fun t371 => (if t371 = 0 then (newelref05_Words.l0 k x0 x1 (wrap64 (x5 + 1))) else (some t371)))
end
def newelref05_Words.f (k : Nat) (l0 : List (S85)) (l1 : List (S85)) : Option (Int) := newelref05_Words.l0 k l0 l1 0
theorem newelref05_Words.mono_l : ∀ k, (∀ y0 y1 y2, LeO (newelref05_Words.l0 k y0 y1 y2) (newelref05_Words.l0 (k + 1) y0 y1 y2)) ∧ (∀ y0 y1 y2 y3, LeO (newelref05_Words.j1 k y0 y1 y2 y3) (newelref05_Words.j1 (k + 1) y0 y1 y2 y3)) ∧ (∀ y0 y1 y2 y3 y4 y5 y6, LeO (newelref05_Words.j2 k y0 y1 y2 y3 y4 y5 y6) (newelref05_Words.j2 (k + 1) y0 y1 y2 y3 y4 y5 y6))
 | 0 => ⟨fun _ _ _ r h => by simp [newelref05_Words.l0] at h, fun _ _ _ _ r h => by simp [newelref05_Words.j1] at h, fun _ _ _ _ _ _ _ r h => by simp [newelref05_Words.j2] at h⟩
 | k + 1 => by
  obtain ⟨ih0, ih1, ih2⟩ := newelref05_Words.mono_l k
  refine ⟨?_, ?_, ?_⟩
  ·intro y0 y1 y2
   unfold newelref05_Words.l0
   have m0 := @newelref05_one.mono
   exact mo
  ·intro y0 y1 y2 y3
   unfold newelref05_Words.j1
   have m0 := @newelref05_one.mono
   exact mo
  ·intro y0 y1 y2 y3 y4 y5 y6
   unfold newelref05_Words.j2
   have m0 := @newelref05_one.mono
   exact mo
theorem newelref05_Words.mono : ∀ a0 a1 k, LeO (newelref05_Words.f k a0 a1) (newelref05_Words.f (k + 1) a0 a1) := by
 intro a0 a1 k
 obtain ⟨ih0, ih1, ih2⟩ := newelref05_Words.mono_l k
 unfold newelref05_Words.f
 have m0 := @newelref05_one.mono
 exact mo
theorem newelref05_Words.calls (k : Nat) (A0 : Option Addr) (c0 : Nat) (l0 : List (S85)) (A1 : Option Addr) (c1 : Nat) (l1 : List (S85)) (r : Int) (w : World) (hr0 : Kd.C k85 w A0 l0.length l0) (hc0 : l0.length ≤ c0) (hr1 : Kd.C k85 w A1 l1.length l1) (hc1 : l1.length ≤ c1) (hG : Glob w) (h : newelref05_Words.f k l0 l1 = some r) :
 Calls Tryz.prog 46 #[.slice A0 l0.length c0, .slice A1 l1.length c1] w fun e w' => e = .returned (.int .i64 r) ∧ Below w.heap.size w w' := by
 have hu85 := Tryz.underlying85
 have HG := Aside0.mk hG
 clear hG
 have HR0 := Aside0.mk hr0
 have HC0 := Aside0.mk hc0
 clear hr0 hc0
 have HR1 := Aside0.mk hr1
 have HC1 := Aside0.mk hc1
 clear hr1 hc1
 have HB := Aside0.mk (Below.refl w.heap.size w)
 have H : (newelref05_Words.l0 k l0 l1 0) = some r := h
 clear h
 have H' := Aside0.mk H
 clear H
 go_enter Tryz.func46, Tryz.ntmps46
 go_wp2
 go_loopg [5] k (fun kq v5 w' => ∃ (x5_1 : Int), v5 = .int .i64 x5_1 ∧ Aside0 (newelref05_Words.l0 kq l0 l1 x5_1 = some r) ∧ Aside0 (kq ≤ k) ∧ Aside0 (Below w.heap.size w w'))
 case atStart => exact ⟨(0), cA, H', ⟨Nat.le_refl _⟩, ⟨bE⟩⟩
 clear H'
 try clear c1
 try clear p2
 obtain ⟨x5_1, rfl, HA, HK1, HB⟩ := hrel
 cases gk with
 | zero => exact absurd HA.out (by simp [newelref05_Words.l0])
 | succ k1 =>
  have H := HA.out
  clear HA
  simp only [newelref05_Words.l0] at H
  have HC3 := Aside0.mk H
  clear H
  go_upto_region 2 with (fail)
  go_cut [18] (fun v18 wc => ∃ (kq : Nat) (x18_2 : Bool), v18 = .bool x18_2 ∧ Aside0 (newelref05_Words.j1 kq l0 l1 x5_1 x18_2 = some r) ∧ Aside0 (kq ≤ k1) ∧ Aside0 (Below w.heap.size w wc))
  case first =>
   have H := HC3.out
   clear HC3
   by_cases c4 : x5_1 < (l0.length : Int)
   rotate_left
   ·rw [if_neg c4] at H
    have c4b0 := dF c4
    clear c4
    (first | rw [c4b0] | (simp only [i64_w, i32_w]; rw [c4b0]) | skip)
    have H' := Aside0.mk H
    clear H
    go_wp2
    go_meet
    case rel => exact ⟨_, (decide (x5_1 < (l1.length : Int))), cA, H', ⟨by have := HK1.out; first | omega | exact Nat.le_refl _⟩, ⟨bE⟩⟩
   rw [if_pos c4] at H
   have c4b0 := dT c4
   clear c4
   (first | rw [c4b0] | (simp only [i64_w, i32_w]; rw [c4b0]) | skip)
   have H' := Aside0.mk H
   clear H
   go_wp2
   go_meet
   case rel => exact ⟨_, (true), cA, H', ⟨by have := HK1.out; first | omega | exact Nat.le_refl _⟩, ⟨bE⟩⟩
  clear HC3
  try clear c1
  try clear p2
  try clear c4
  try clear c4b0
  try clear p2
  obtain ⟨kq, x18_2, rfl, HA, HJ2, HB⟩ := hcut
  cases kq with
  | zero => exact absurd HA.out (by simp [newelref05_Words.j1])
  | succ kj2 =>
   have H := HA.out
   clear HA
   simp only [newelref05_Words.j1] at H
   by_cases c5 : x18_2 = true
   rotate_left
   ·replace c5 := Bool.eq_false_iff.mpr c5
    subst c5
    replace H : (some 0) = some r := by rw [if_neg nF] at H; exact H
    obtain rfl := Option.some.inj H
    go_wp2
    go_ret
    exact ⟨eA, bE⟩
   subst c5
   replace H : (if x5_1 < (l0.length : Int) then (if 0 ≤ x5_1 then (newelref05_Words.j2 kj2 l0 l1 x5_1 ((rd_T85 l0 x5_1).f0) ((rd_T85 l0 x5_1).f1) 6 (⟨#[]⟩ : ByteArray)) else (none)) else (newelref05_Words.j2 kj2 l0 l1 x5_1 6 (⟨#[]⟩ : ByteArray) 6 (⟨#[]⟩ : ByteArray))) = some r := by rw [if_pos rfl] at H; exact H
   have HC6 := Aside0.mk H
   clear H
   go_upto_if 26 with (first | ((with_reducible refine gate_dst (N := 6) rfl ?_); (try (refine gate_guard (by rfl) ?_; dsimp only)); refine be 6 #[.int .i64 0, .string (⟨#[]⟩ : ByteArray)] 85 ?_; intro gb366 hg w7 hbox hb; have BK366 := Aside0.mk (hbox); have GW366 := gW hg; have GE366 := gW hg; replace HB := sB hb; clear hb hbox hg) | ((with_reducible refine gate_dst (N := 7) rfl ?_); (try (refine gate_guard (by rfl) ?_; dsimp only)); refine be 7 #[.int .i64 0, .string (⟨#[]⟩ : ByteArray)] 85 ?_; intro gb367 hg w8 hbox hb; have BK367 := Aside0.mk (hbox); have GW367 := gW hg; have GE367 := gW hg; replace HB := sB hb; have NB366_367 := nL BK366 hg; have NB367_366 := nG BK366 hg; replace BK366 := kB BK366 hb; clear hb hbox hg; have hnb9 := NB366_367.out; have hnc9 := NB367_366.out; have hcz10_0 : w8.cell? ⟨gb366, 0, none⟩ = some (.int .i64 0) := (blk_cell BK366.out 0).trans rfl; have hcz10_1 : w8.cell? ⟨gb366, 1, none⟩ = some (.string (⟨#[]⟩ : ByteArray)) := (blk_cell BK366.out 1).trans rfl; have hfz10_0 := blk_frozen BK366.out 0; have hfz10_1 := blk_frozen BK366.out 1; have hcz11_0 : w8.cell? ⟨gb367, 0, none⟩ = some (.int .i64 0) := (blk_cell BK367.out 0).trans rfl; have hcz11_1 : w8.cell? ⟨gb367, 1, none⟩ = some (.string (⟨#[]⟩ : ByteArray)) := (blk_cell BK367.out 1).trans rfl; have hfz11_0 := blk_frozen BK367.out 0; have hfz11_1 := blk_frozen BK367.out 1))
   (try simp only [Act.put, List.setIfInBounds_toArray, List.set_cons_zero, List.set_cons_succ])
   go_cut [] (fun wc => ∃ (kq : Nat) (x367000_5 : Int) (x367001_5 : ByteArray), Aside0 (newelref05_Words.j2 kq l0 l1 x5_1 x367000_5 x367001_5 6 (⟨#[]⟩ : ByteArray) = some r) ∧ Aside0 (kq ≤ kj2) ∧ Aside0 (wc.heap[gb366]? = some (.cells #[.int .i64 x367000_5, .string x367001_5] 85 (0, 0))) ∧ Aside0 (wc.heap[gb367]? = some (.cells #[.int .i64 6, .string (⟨#[]⟩ : ByteArray)] 85 (0, 0))) ∧ Aside0 (Below w.heap.size w wc))
   case first =>
    have H := HC6.out
    clear HC6
    by_cases c12 : x5_1 < (l0.length : Int)
    rotate_left
    ·rw [if_neg c12] at H
     have c12b0 := dF c12
     clear c12
     (first | rw [c12b0] | (simp only [i64_w, i32_w]; rw [c12b0]) | skip)
     have H' := Aside0.mk H
     clear H
     go_wp2
     go_meet
     case rel => exact ⟨_, (6), ((⟨#[]⟩ : ByteArray)), H', ⟨by have := HK1.out; have := HJ2.out; first | omega | exact Nat.le_refl _⟩, ⟨by (with_reducible repeat (first | refine blk_drewN ?_ _ | refine blk_drew ?_ | refine blk_alloc ?_ _)); refine blk_far ?_ NB366_367.out _; (with_reducible repeat (first | refine blk_drewN ?_ _ | refine blk_drew ?_ | refine blk_alloc ?_ _)); refine blk_far ?_ NB366_367.out _; (with_reducible repeat (first | refine blk_drewN ?_ _ | refine blk_drew ?_ | refine blk_alloc ?_ _)); refine blk_put (cs := #[.int .i64 6, .string (⟨#[]⟩ : ByteArray)]) ?_ 1 _ rfl; (with_reducible repeat (first | refine blk_drewN ?_ _ | refine blk_drew ?_ | refine blk_alloc ?_ _)); refine blk_put (cs := #[.int .i64 0, .string (⟨#[]⟩ : ByteArray)]) ?_ 0 _ rfl; (with_reducible repeat (first | refine blk_drewN ?_ _ | refine blk_drew ?_ | refine blk_alloc ?_ _)); exact BK366.out⟩, ⟨by (with_reducible repeat (first | refine blk_drewN ?_ _ | refine blk_drew ?_ | refine blk_alloc ?_ _)); refine blk_put (cs := #[.int .i64 6, .string (⟨#[]⟩ : ByteArray)]) ?_ 1 _ rfl; (with_reducible repeat (first | refine blk_drewN ?_ _ | refine blk_drew ?_ | refine blk_alloc ?_ _)); refine blk_put (cs := #[.int .i64 0, .string (⟨#[]⟩ : ByteArray)]) ?_ 0 _ rfl; (with_reducible repeat (first | refine blk_drewN ?_ _ | refine blk_drew ?_ | refine blk_alloc ?_ _)); refine blk_far ?_ NB367_366.out _; (with_reducible repeat (first | refine blk_drewN ?_ _ | refine blk_drew ?_ | refine blk_alloc ?_ _)); refine blk_far ?_ NB367_366.out _; (with_reducible repeat (first | refine blk_drewN ?_ _ | refine blk_drew ?_ | refine blk_alloc ?_ _)); exact BK367.out⟩, ⟨bG⟩⟩
    rw [if_pos c12] at H
    have c12b0 := dT c12
    clear c12
    (first | rw [c12b0] | (simp only [i64_w, i32_w]; rw [c12b0]) | skip)
    obtain ⟨c13, H⟩ := gp H
    have c13b0 := dT c13
    clear c13
    have H' := Aside0.mk H
    clear H
    have p368 : 0 ≤ (x5_1 : Int) := dA
    have q368 : x5_1 < (l0.length : Int) := dA
    obtain ⟨ad368, e368, hx368_0, hx368_1⟩ := at_T85 HR0.out x5_1 p368 q368
    cases e368
    have hn368_0 : ad368.block ≠ gb366 := Nat.ne_of_lt (Nat.lt_of_lt_of_le (by have := World.block_lt_of_cell? _ _ hx368_0; first | rwa [add_block] at this | exact this) GW366.out)
    have hn368_1 : ad368.block ≠ gb366 := Nat.ne_of_lt (Nat.lt_of_lt_of_le (by have := World.block_lt_of_cell? _ _ hx368_0; first | rwa [add_block] at this | exact this) GW366.out)
    have hn368_2 : ad368.block ≠ gb367 := Nat.ne_of_lt (Nat.lt_of_lt_of_le (by have := World.block_lt_of_cell? _ _ hx368_0; first | rwa [add_block] at this | exact this) GW367.out)
    have hn368_3 : ad368.block ≠ gb367 := Nat.ne_of_lt (Nat.lt_of_lt_of_le (by have := World.block_lt_of_cell? _ _ hx368_0; first | rwa [add_block] at this | exact this) GW367.out)
    replace hx368_0 := (HB.out.cell (World.block_lt_of_cell? w _ hx368_0)).trans hx368_0
    replace hx368_1 := (HB.out.cell (World.block_lt_of_cell? w _ hx368_1)).trans hx368_1
    replace hx368_0 := (cell_far (p := ⟨gb366, 0, none⟩) (by first | (rw [add_block]; exact hn368_0) | (show (Addr.add _ _).block ≠ _; rw [add_block]; exact hn368_0) | exact hn368_0) (.int .i64 6)).trans hx368_0
    replace hx368_1 := (cell_far (p := ⟨gb366, 0, none⟩) (by first | (rw [add_block]; exact hn368_0) | (show (Addr.add _ _).block ≠ _; rw [add_block]; exact hn368_0) | exact hn368_0) (.int .i64 6)).trans hx368_1
    replace hx368_0 := (cell_far (p := ⟨gb366, 1, none⟩) (by first | (rw [add_block]; exact hn368_1) | (show (Addr.add _ _).block ≠ _; rw [add_block]; exact hn368_1) | exact hn368_1) (.string (⟨#[]⟩ : ByteArray))).trans hx368_0
    replace hx368_1 := (cell_far (p := ⟨gb366, 1, none⟩) (by first | (rw [add_block]; exact hn368_1) | (show (Addr.add _ _).block ≠ _; rw [add_block]; exact hn368_1) | exact hn368_1) (.string (⟨#[]⟩ : ByteArray))).trans hx368_1
    replace hx368_0 := (cell_far (p := ⟨gb367, 0, none⟩) (by first | (rw [add_block]; exact hn368_2) | (show (Addr.add _ _).block ≠ _; rw [add_block]; exact hn368_2) | exact hn368_2) (.int .i64 6)).trans hx368_0
    replace hx368_1 := (cell_far (p := ⟨gb367, 0, none⟩) (by first | (rw [add_block]; exact hn368_2) | (show (Addr.add _ _).block ≠ _; rw [add_block]; exact hn368_2) | exact hn368_2) (.int .i64 6)).trans hx368_1
    replace hx368_0 := (cell_far (p := ⟨gb367, 1, none⟩) (by first | (rw [add_block]; exact hn368_3) | (show (Addr.add _ _).block ≠ _; rw [add_block]; exact hn368_3) | exact hn368_3) (.string (⟨#[]⟩ : ByteArray))).trans hx368_0
    replace hx368_1 := (cell_far (p := ⟨gb367, 1, none⟩) (by first | (rw [add_block]; exact hn368_3) | (show (Addr.add _ _).block ≠ _; rw [add_block]; exact hn368_3) | exact hn368_3) (.string (⟨#[]⟩ : ByteArray))).trans hx368_1
    clear hn368_0
    clear hn368_1
    clear hn368_2
    clear hn368_3
    replace p368 := eq_true p368
    replace q368 := eq_true q368
    have hnb14 := NB366_367.out
    have hnc14 := NB367_366.out
    obtain ⟨hcz15_0, hcz15_1, hfz15_0, hfz15_1⟩ := cells2 BK366
    go_wp2
    go_meet
    case rel => exact ⟨_, ((rd_T85 l0 x5_1).f0), ((rd_T85 l0 x5_1).f1), H', ⟨by have := HK1.out; have := HJ2.out; first | omega | exact Nat.le_refl _⟩, ⟨by (with_reducible repeat (first | refine blk_drewN ?_ _ | refine blk_drew ?_ | refine blk_alloc ?_ _)); refine blk_put (cs := #[.int .i64 ((rd_T85 l0 x5_1).f0), .string (⟨#[]⟩ : ByteArray)]) ?_ 1 _ rfl; (with_reducible repeat (first | refine blk_drewN ?_ _ | refine blk_drew ?_ | refine blk_alloc ?_ _)); refine blk_put (cs := #[.int .i64 6, .string (⟨#[]⟩ : ByteArray)]) ?_ 0 _ rfl; (with_reducible repeat (first | refine blk_drewN ?_ _ | refine blk_drew ?_ | refine blk_alloc ?_ _)); refine blk_far ?_ NB366_367.out _; (with_reducible repeat (first | refine blk_drewN ?_ _ | refine blk_drew ?_ | refine blk_alloc ?_ _)); refine blk_far ?_ NB366_367.out _; (with_reducible repeat (first | refine blk_drewN ?_ _ | refine blk_drew ?_ | refine blk_alloc ?_ _)); refine blk_put (cs := #[.int .i64 6, .string (⟨#[]⟩ : ByteArray)]) ?_ 1 _ rfl; (with_reducible repeat (first | refine blk_drewN ?_ _ | refine blk_drew ?_ | refine blk_alloc ?_ _)); refine blk_put (cs := #[.int .i64 0, .string (⟨#[]⟩ : ByteArray)]) ?_ 0 _ rfl; (with_reducible repeat (first | refine blk_drewN ?_ _ | refine blk_drew ?_ | refine blk_alloc ?_ _)); exact BK366.out⟩, ⟨by (with_reducible repeat (first | refine blk_drewN ?_ _ | refine blk_drew ?_ | refine blk_alloc ?_ _)); refine blk_far ?_ NB367_366.out _; (with_reducible repeat (first | refine blk_drewN ?_ _ | refine blk_drew ?_ | refine blk_alloc ?_ _)); refine blk_far ?_ NB367_366.out _; (with_reducible repeat (first | refine blk_drewN ?_ _ | refine blk_drew ?_ | refine blk_alloc ?_ _)); refine blk_put (cs := #[.int .i64 6, .string (⟨#[]⟩ : ByteArray)]) ?_ 1 _ rfl; (with_reducible repeat (first | refine blk_drewN ?_ _ | refine blk_drew ?_ | refine blk_alloc ?_ _)); refine blk_put (cs := #[.int .i64 0, .string (⟨#[]⟩ : ByteArray)]) ?_ 0 _ rfl; (with_reducible repeat (first | refine blk_drewN ?_ _ | refine blk_drew ?_ | refine blk_alloc ?_ _)); refine blk_far ?_ NB367_366.out _; (with_reducible repeat (first | refine blk_drewN ?_ _ | refine blk_drew ?_ | refine blk_alloc ?_ _)); refine blk_far ?_ NB367_366.out _; (with_reducible repeat (first | refine blk_drewN ?_ _ | refine blk_drew ?_ | refine blk_alloc ?_ _)); exact BK367.out⟩, ⟨bG⟩⟩
   clear HC6
   try clear c1
   try clear p2
   try clear p3
   try clear q3
   try clear hx3
   try clear c4
   try clear c4b0
   try clear c5
   try clear c9
   try clear c12
   try clear c12b0
   try clear c13
   try clear c13b0
   try clear c14
   try clear hcz10_0
   try clear hcz10_1
   try clear hcz11_0
   try clear hcz11_1
   try clear hcz15_0
   try clear hcz15_1
   try clear hfz10_0
   try clear hfz10_1
   try clear hfz11_0
   try clear hfz11_1
   try clear hfz15_0
   try clear hfz15_1
   try clear hx368_0
   try clear hx368_1
   try clear p2
   try clear p368
   try clear q368
   obtain ⟨kq, x367000_5, x367001_5, HA, HJ5, BK366, BK367, HB⟩ := hcut
   cases kq with
   | zero => exact absurd HA.out (by simp [newelref05_Words.j2])
   | succ kj5 =>
    have H := HA.out
    clear HA
    simp only [newelref05_Words.j2] at H
    (try simp only [toList_lit] at H)
    by_cases c16 : x5_1 < (l1.length : Int)
    rotate_left
    ·rw [if_neg c16] at H
     have c16b0 := dF c16
     clear c16
     replace H := bi H
     obtain ⟨t371, A280, H⟩ := H
     try dsimp only at H
     have A28 := Aside0.mk A280
     clear A280
     by_cases c29 : t371 = 0
     rotate_left
     ·rw [if_neg c29] at H
      obtain ⟨c29b0, c29b1⟩ := eqF c29
      obtain rfl := Option.some.inj H
      have hnb34 := NB366_367.out
      have hnc34 := NB367_366.out
      obtain ⟨hcz35_0, hcz35_1, hfz35_0, hfz35_1⟩ := cells2 BK366
      obtain ⟨hcz36_0, hcz36_1, hfz36_0, hfz36_1⟩ := cells2 BK367
      go_wp2_with (first | (refine gl (some 41) Tryz.func64 #[.agg #[.int .i64 x367000_5, .string x367001_5], .agg #[.int .i64 6, .string (⟨#[]⟩ : ByteArray)]] ?_; (with_reducible refine (newelref05_one.calls kj5 x367000_5 x367001_5 6 (⟨#[]⟩ : ByteArray) t371 _ (gS HG) A28.out).mono ?_); rintro e w37 ⟨rfl, hb⟩; refine ⟨_, rfl, ?_⟩; replace BK366 := kB BK366 hb; replace BK367 := kB BK367 hb; replace HB := sB hb; (try clear hb)))
      go_ret
      exact ⟨eA, bG⟩
     rw [if_pos c29] at H
     obtain ⟨c29b0, c29b1⟩ := eqT c29
     clear c29
     have H' := Aside0.mk H
     clear H
     have hnb30 := NB366_367.out
     have hnc30 := NB367_366.out
     obtain ⟨hcz31_0, hcz31_1, hfz31_0, hfz31_1⟩ := cells2 BK366
     obtain ⟨hcz32_0, hcz32_1, hfz32_0, hfz32_1⟩ := cells2 BK367
     go_wp2_with (first | (refine gl (some 41) Tryz.func64 #[.agg #[.int .i64 x367000_5, .string x367001_5], .agg #[.int .i64 6, .string (⟨#[]⟩ : ByteArray)]] ?_; (with_reducible refine (newelref05_one.calls kj5 x367000_5 x367001_5 6 (⟨#[]⟩ : ByteArray) t371 _ (gS HG) A28.out).mono ?_); rintro e w33 ⟨rfl, hb⟩; refine ⟨_, rfl, ?_⟩; replace BK366 := kB BK366 hb; replace BK367 := kB BK367 hb; replace HB := sB hb; (try clear hb)))
     go_roundg kj5
     case measure => have := HK1.out; have := HJ2.out; have := HJ5.out; omega
     case rel => exact ⟨(wrap64 (x5_1 + 1)), cA, H', ⟨by have := HK1.out; have := HJ2.out; have := HJ5.out; omega⟩, ⟨bG⟩⟩
    rw [if_pos c16] at H
    have c16b0 := dT c16
    clear c16
    obtain ⟨c17, H⟩ := gp H
    have c17b0 := dT c17
    clear c17
    replace H := bi H
    obtain ⟨t370, A180, H⟩ := H
    try dsimp only at H
    have A18 := Aside0.mk A180
    clear A180
    by_cases c19 : t370 = 0
    rotate_left
    ·rw [if_neg c19] at H
     obtain ⟨c19b0, c19b1⟩ := eqF c19
     obtain rfl := Option.some.inj H
     have p369 : 0 ≤ (x5_1 : Int) := dA
     have q369 : x5_1 < (l1.length : Int) := dA
     obtain ⟨ad369, e369, hx369_0, hx369_1⟩ := at_T85 HR1.out x5_1 p369 q369
     cases e369
     replace hx369_0 := (HB.out.cell (World.block_lt_of_cell? w _ hx369_0)).trans hx369_0
     replace hx369_1 := (HB.out.cell (World.block_lt_of_cell? w _ hx369_1)).trans hx369_1
     replace p369 := eq_true p369
     replace q369 := eq_true q369
     have hnb24 := NB367_366.out
     have hnc24 := NB366_367.out
     obtain ⟨hcz25_0, hcz25_1, hfz25_0, hfz25_1⟩ := cells2 BK367
     obtain ⟨hcz26_0, hcz26_1, hfz26_0, hfz26_1⟩ := cells2 BK366
     go_wp2_with (first | (refine gl (some 41) Tryz.func64 #[.agg #[.int .i64 x367000_5, .string x367001_5], .agg #[.int .i64 ((rd_T85 l1 x5_1).f0), .string ((rd_T85 l1 x5_1).f1)]] ?_; (with_reducible refine (newelref05_one.calls kj5 x367000_5 x367001_5 ((rd_T85 l1 x5_1).f0) ((rd_T85 l1 x5_1).f1) t370 _ (gS HG) A18.out).mono ?_); rintro e w27 ⟨rfl, hb⟩; refine ⟨_, rfl, ?_⟩; replace BK366 := Aside0.mk (blk_below (g := gb366) (o := .cells #[.int .i64 x367000_5, .string x367001_5] 85 (0, 0)) (by (with_reducible repeat (first | refine blk_drewN ?_ _ | refine blk_drew ?_ | refine blk_alloc ?_ _)); refine blk_far ?_ NB366_367.out _; (with_reducible repeat (first | refine blk_drewN ?_ _ | refine blk_drew ?_ | refine blk_alloc ?_ _)); refine blk_far ?_ NB366_367.out _; (with_reducible repeat (first | refine blk_drewN ?_ _ | refine blk_drew ?_ | refine blk_alloc ?_ _)); exact BK366.out) hb); replace BK367 := Aside0.mk (blk_below (g := gb367) (o := .cells #[.int .i64 ((rd_T85 l1 x5_1).f0), .string ((rd_T85 l1 x5_1).f1)] 85 (0, 0)) (bP BK367) hb); replace HB := sB hb; (try clear hb)))
     go_ret
     exact ⟨eA, bG⟩
    rw [if_pos c19] at H
    obtain ⟨c19b0, c19b1⟩ := eqT c19
    clear c19
    have H' := Aside0.mk H
    clear H
    have p369 : 0 ≤ (x5_1 : Int) := dA
    have q369 : x5_1 < (l1.length : Int) := dA
    obtain ⟨ad369, e369, hx369_0, hx369_1⟩ := at_T85 HR1.out x5_1 p369 q369
    cases e369
    replace hx369_0 := (HB.out.cell (World.block_lt_of_cell? w _ hx369_0)).trans hx369_0
    replace hx369_1 := (HB.out.cell (World.block_lt_of_cell? w _ hx369_1)).trans hx369_1
    replace p369 := eq_true p369
    replace q369 := eq_true q369
    have hnb20 := NB367_366.out
    have hnc20 := NB366_367.out
    obtain ⟨hcz21_0, hcz21_1, hfz21_0, hfz21_1⟩ := cells2 BK367
    obtain ⟨hcz22_0, hcz22_1, hfz22_0, hfz22_1⟩ := cells2 BK366
    go_wp2_with (first | (refine gl (some 41) Tryz.func64 #[.agg #[.int .i64 x367000_5, .string x367001_5], .agg #[.int .i64 ((rd_T85 l1 x5_1).f0), .string ((rd_T85 l1 x5_1).f1)]] ?_; (with_reducible refine (newelref05_one.calls kj5 x367000_5 x367001_5 ((rd_T85 l1 x5_1).f0) ((rd_T85 l1 x5_1).f1) t370 _ (gS HG) A18.out).mono ?_); rintro e w23 ⟨rfl, hb⟩; refine ⟨_, rfl, ?_⟩; replace BK366 := Aside0.mk (blk_below (g := gb366) (o := .cells #[.int .i64 x367000_5, .string x367001_5] 85 (0, 0)) (by (with_reducible repeat (first | refine blk_drewN ?_ _ | refine blk_drew ?_ | refine blk_alloc ?_ _)); refine blk_far ?_ NB366_367.out _; (with_reducible repeat (first | refine blk_drewN ?_ _ | refine blk_drew ?_ | refine blk_alloc ?_ _)); refine blk_far ?_ NB366_367.out _; (with_reducible repeat (first | refine blk_drewN ?_ _ | refine blk_drew ?_ | refine blk_alloc ?_ _)); exact BK366.out) hb); replace BK367 := Aside0.mk (blk_below (g := gb367) (o := .cells #[.int .i64 ((rd_T85 l1 x5_1).f0), .string ((rd_T85 l1 x5_1).f1)] 85 (0, 0)) (bP BK367) hb); replace HB := sB hb; (try clear hb)))
    go_roundg kj5
    case measure => have := HK1.out; have := HJ2.out; have := HJ5.out; omega
    case rel => exact ⟨(wrap64 (x5_1 + 1)), cA, H', ⟨by have := HK1.out; have := HJ2.out; have := HJ5.out; omega⟩, ⟨bG⟩⟩
def newelref01_Digit.f (a0 : Int) : Option (Bool) := if a0 ≥ 48 then (some (decide (a0 ≤ 57))) else (some false)
theorem newelref01_Digit.calls (a0 : Int) (r : Bool) (w : World) (hG : Glob w) (h : newelref01_Digit.f a0 = some r) :
 Calls Tryz.prog 87 #[.int .u8 a0] w fun e w' => e = .returned (.bool r) ∧ Drawn0 w w' := by
 have HG := Aside0.mk hG
 clear hG
 have H : (if a0 ≥ 48 then (some (decide (a0 ≤ 57))) else (some false)) = some r := h
 clear h
 by_cases c2 : a0 ≥ 48
 rotate_left
 ·rw [if_neg c2] at H
  have c2b0 := dF c2
  clear c2
  obtain rfl := Option.some.inj H
  go_enter Tryz.func87, Tryz.ntmps87
  go_wp2
  go_ret
  exact ⟨by first | rfl | (simp; done) | (simp [*]; done), by repeat (first | exact Drawn0.refl _ | apply Drawn0.step)⟩
 rw [if_pos c2] at H
 have c2b0 := dT c2
 clear c2
 obtain rfl := Option.some.inj H
 go_enter Tryz.func87, Tryz.ntmps87
 go_wp2
 go_ret
 exact ⟨by first | rfl | (simp; done) | (simp [*]; done), by repeat (first | exact Drawn0.refl _ | apply Drawn0.step)⟩
def newelref05_parts.l0 : Nat → ByteArray → List (S91) → Int → Option ((List (S91)))
 | 0, _, _, _ => none
 | k + 1, x0, x3, x4 => if x4 < (x0.size : Int) then (if 0 ≤ (wrap64 ((x3.length : Int) - 1)) then (if (wrap64 ((x3.length : Int) - 1)) < (x3.length : Int) then (if 0 ≤ x4 then (if (bt x0 x4) = 46 then (if x3.length < 5864062014805 then (newelref05_parts.l0 k x0 (x3 ++ [(⟨(⟨#[]⟩ : ByteArray), ((bt x0 x4) == 45), false⟩ : S91)]) (wrap64 (x4 + 1))) else (none)) else (if (bt x0 x4) = 45 then (if x3.length < 5864062014805 then (newelref05_parts.l0 k x0 (x3 ++ [(⟨(⟨#[]⟩ : ByteArray), true, false⟩ : S91)]) (wrap64 (x4 + 1))) else (none)) else (if ((rd_T91 x3 (wrap64 ((x3.length : Int) - 1))).f0).toList = ([] : List UInt8) then (if x4 ≤ (wrap64 (x4 + 1)) then (if (wrap64 (x4 + 1)) ≤ (x0.size : Int) then (if ((rd_T91 x3 (wrap64 ((x3.length : Int) - 1))).f0).size + (x0.extract (x4 : Int).toNat ((wrap64 (x4 + 1)) : Int).toNat).size ≤ 9223372036854775807 then (newelref05_parts.l0 k x0 (x3.set ((wrap64 ((x3.length : Int) - 1)) : Int).toNat (⟨((rd_T91 x3 (wrap64 ((x3.length : Int) - 1))).f0) ++ (x0.extract (x4 : Int).toNat ((wrap64 (x4 + 1)) : Int).toNat), (rd_T91 x3 (wrap64 ((x3.length : Int) - 1))).f1, (rd_T91 x3 (wrap64 ((x3.length : Int) - 1))).f2⟩ : S91)) (wrap64 (x4 + 1))) else (none)) else (none)) else (none)) else (if 0 ≤ (wrap64 ((((rd_T91 x3 (wrap64 ((x3.length : Int) - 1))).f0).size : Int) - 1)) then (if (wrap64 ((((rd_T91 x3 (wrap64 ((x3.length : Int) - 1))).f0).size : Int) - 1)) < (((rd_T91 x3 (wrap64 ((x3.length : Int) - 1))).f0).size : Int) then ((newelref01_Digit.f (bt ((rd_T91 x3 (wrap64 ((x3.length : Int) - 1))).f0) (wrap64 ((((rd_T91 x3 (wrap64 ((x3.length : Int) - 1))).f0).size : Int) - 1)))).bind fun t304 => ((newelref01_Digit.f (bt x0 x4)).bind fun t305 => (if (t304 != t305) = true then ((newelref01_Digit.f (bt x0 x4)).bind fun t306 => ((some (x3.set ((wrap64 ((x3.length : Int) - 1)) : Int).toNat (⟨(rd_T91 x3 (wrap64 ((x3.length : Int) - 1))).f0, (rd_T91 x3 (wrap64 ((x3.length : Int) - 1))).f1, t306⟩ : S91) : List (S91))).bind fun y307 => (if y307.length < 5864062014805 then ((some (y307 ++ [(⟨(⟨#[]⟩ : ByteArray), true, false⟩ : S91)] : List (S91))).bind fun y308 => (if 0 ≤ (wrap64 ((y308.length : Int) - 1)) then (if (wrap64 ((y308.length : Int) - 1)) < (y308.length : Int) then (if x4 ≤ (wrap64 (x4 + 1)) then (if (wrap64 (x4 + 1)) ≤ (x0.size : Int) then (if ((rd_T91 y308 (wrap64 ((y308.length : Int) - 1))).f0).size + (x0.extract (x4 : Int).toNat ((wrap64 (x4 + 1)) : Int).toNat).size ≤ 9223372036854775807 then (newelref05_parts.l0 k x0 (y308.set ((wrap64 ((y308.length : Int) - 1)) : Int).toNat (⟨((rd_T91 y308 (wrap64 ((y308.length : Int) - 1))).f0) ++ (x0.extract (x4 : Int).toNat ((wrap64 (x4 + 1)) : Int).toNat), (rd_T91 y308 (wrap64 ((y308.length : Int) - 1))).f1, (rd_T91 y308 (wrap64 ((y308.length : Int) - 1))).f2⟩ : S91)) (wrap64 (x4 + 1))) else (none)) else (none)) else (none)) else (none)) else (none))) else (none)))) else (if x4 ≤ (wrap64 (x4 + 1)) then (if (wrap64 (x4 + 1)) ≤ (x0.size : Int) then (if ((rd_T91 x3 (wrap64 ((x3.length : Int) - 1))).f0).size + (x0.extract (x4 : Int).toNat ((wrap64 (x4 + 1)) : Int).toNat).size ≤ 9223372036854775807 then (newelref05_parts.l0 k x0 (x3.set ((wrap64 ((x3.length : Int) - 1)) : Int).toNat (⟨((rd_T91 x3 (wrap64 ((x3.length : Int) - 1))).f0) ++ (x0.extract (x4 : Int).toNat ((wrap64 (x4 + 1)) : Int).toNat), (rd_T91 x3 (wrap64 ((x3.length : Int) - 1))).f1, (rd_T91 x3 (wrap64 ((x3.length : Int) - 1))).f2⟩ : S91)) (wrap64 (x4 + 1))) else (none)) else (none)) else (none))))) else (none)) else (none))))) else (none)) else (none)) else (none)) else (some x3)
def newelref05_parts.f (k : Nat) (a0 : ByteArray) : Option ((List (S91))) := newelref05_parts.l0 k a0 (([(⟨(⟨#[]⟩ : ByteArray), false, false⟩ : S91)] : List (S91))) 0
theorem newelref05_parts.mono_l : ∀ k, (∀ y0 y1 y2, LeO (newelref05_parts.l0 k y0 y1 y2) (newelref05_parts.l0 (k + 1) y0 y1 y2))
 | 0 => fun _ _ _ r h => by simp [newelref05_parts.l0] at h
 | k + 1 => by
  have ih0 := newelref05_parts.mono_l k
  ·intro y0 y1 y2
   unfold newelref05_parts.l0
   exact mo
theorem newelref05_parts.mono : ∀ a0 k, LeO (newelref05_parts.f k a0) (newelref05_parts.f (k + 1) a0) := by
 intro a0 k
 have ih0 := newelref05_parts.mono_l k
 unfold newelref05_parts.f
 exact mo
def newelref05_parts.T8 : Bool × List (List Nat × List Nat) := (true, [([], []), ([0], [0]), ([1], [1]), ([2], [2]), ([3], [3]), ([4], [4]), ([5], [5]), ([6, 5], [5, 6]), ([7, 5], [5, 7]), ([8, 5], [5, 8]), ([5], [5]), ([10, 5], [5, 10]), ([11, 5], [5, 11]), ([12, 5], [5, 12]), ([13, 5], [5, 13]), ([14, 5], [5, 14]), ([9, 15, 5], [5, 9, 15]), ([16, 5, 5], [5, 16]), ([5], [5]), ([5], [5]), ([18, 19, 5], [5, 18, 19]), ([20, 17, 5], [5, 20]), ([17, 21, 5], [5, 17, 21]), ([5, 22], [5, 22])])
def newelref05_parts.B8 : List Nat := [0, 1, 3, 7, 15, 31, 63, 127, 255, 511, 63, 1087, 3135, 7231, 15423, 31807, 65535, 131071, 63, 63, 786495, 2097151, 4194303, 8388607]
theorem newelref05_parts.tab8 : rtab .any (opsOf Tryz.f65 8) = newelref05_parts.T8 := by kernel_rfl
theorem newelref05_parts.bits8 : waitsOk newelref05_parts.T8.2 newelref05_parts.B8 = true := by kernel_rfl
def newelref05_parts.T12 : Bool × List (List Nat × List Nat) := (true, [([], []), ([], []), ([1], [1]), ([2], [2]), ([3], [3]), ([], []), ([], []), ([], []), ([7], [7]), ([5, 6, 8], [5, 6, 8]), ([4, 9], [4, 9]), ([0, 0, 1, 2, 3, 4, 5, 6, 7, 8, 9, 10], [0]), ([11, 0, 1, 2, 3, 4, 5, 6, 7, 8, 9, 10], [11]), ([12, 10, 0, 1, 2, 3, 4, 5, 6, 7, 8, 9, 10], [10, 12])])
def newelref05_parts.B12 : List Nat := [0, 0, 2, 6, 14, 0, 0, 0, 128, 480, 1022, 2047, 4095, 8191]
theorem newelref05_parts.tab12 : rtab .any (opsOf Tryz.f65 12) = newelref05_parts.T12 := by kernel_rfl
theorem newelref05_parts.bits12 : waitsOk newelref05_parts.T12.2 newelref05_parts.B12 = true := by kernel_rfl
theorem newelref05_parts.calls (k : Nat) (a0 : ByteArray) (r : List (S91)) (w : World) (hG : Glob w) (h : newelref05_parts.f k a0 = some r) :
 Calls Tryz.prog 65 #[.string a0] w fun e w' => ∃ v0_ : Value, e = .returned (v0_) ∧ Kd.R k91 91 w' w.heap.size (fun _ => True) v0_ r ∧ Below w.heap.size w w' := by
 have hu91 := Tryz.underlying91
 have HG := Aside0.mk hG
 clear hG
 have HB := Aside0.mk (Below.refl w.heap.size w)
 have H : (newelref05_parts.l0 k a0 (([(⟨(⟨#[]⟩ : ByteArray), false, false⟩ : S91)] : List (S91))) 0) = some r := h
 clear h
 obtain ⟨y290, hy290⟩ : ∃ y_ : List (S91), y_ = (([(⟨(⟨#[]⟩ : ByteArray), false, false⟩ : S91)] : List (S91))) := ⟨_, rfl⟩
 replace H : (newelref05_parts.l0 k a0 y290 0) = some r := by first | (rw [hy290]; with_reducible exact H) | (have H2_ := (Option.bind_some _ _).symm.trans H; rw [hy290]; with_reducible exact H2_) | (have H2_ := (Option.bind_some _ _).symm.trans H; with_reducible exact H2_) | with_reducible exact H | (rw [hy290]; exact H) | exact H
 have Ny290 := Aside0.mk hy290
 clear hy290
 have H' := Aside0.mk H
 clear H
 go_enter Tryz.func65, Tryz.ntmps65
 go_wp2_with (first | ((with_reducible refine gate_dst (N := 7) rfl ?_); (try (refine gate_guard (by rfl) ?_; dsimp only)); refine Kd.R_lit k91 _ 91 ?hg (N := 7) ?hd (xs := ([(⟨(⟨#[]⟩ : ByteArray), false, false⟩ : S91)] : List (S91))) (inner := [.string (⟨#[]⟩ : ByteArray), .bool false, .bool false]) (ok := fun _ => True) (okp := fun _ => True) ?hr ?hp (fun _ hk => hk) trivial (Below.refl _ _) (Nat.le_refl _) (by simp) ?_; (case hd => rfl); (case hg => rfl); (case hr => first | (go_simp; done) | (go_simp; rfl)); (case hp => exact (Reps.c3 (show Kd.M k91 _ _ _ (⟨(⟨#[]⟩ : ByteArray), false, false⟩ : S91) [.string (⟨#[]⟩ : ByteArray), .bool false, .bool false] from (k91_mkM _ _ _ (⟨(⟨#[]⟩ : ByteArray), false, false⟩ : S91) )) (Reps.none _ _))); intro v291 w2 ho3 hb hg_ hnew_; clear hg_ hnew_; (first | rw [← Ny290.out] at ho3 | (simp only [Int.reduceToNat] at ho3; rw [← Ny290.out] at ho3)); have HO292 := Aside0.mk (Kd.R_lower ho3 (below_size bE)); replace HB := sB hb; clear hb ho3))
 (try simp only [Act.put, List.setIfInBounds_toArray, List.set_cons_zero, List.set_cons_succ])
 go_loopg [3, 4] k (fun kq v3 v4 w' => ∃ (x3_1 : List (S91)) (x4_1 : Int), v4 = .int .i64 x4_1 ∧ Aside0 (newelref05_parts.l0 kq a0 x3_1 x4_1 = some r) ∧ Aside0 (kq ≤ k) ∧ Aside0 (Kd.R k91 91 w' w.heap.size (fun _ => True) v3 x3_1) ∧ Aside0 (Below w.heap.size w w'))
 case atStart => exact ⟨(y290), (0), cA, H', ⟨Nat.le_refl _⟩, ⟨kR HO292⟩, ⟨bE⟩⟩
 clear H'
 try clear p2
 try clear c3
 obtain ⟨x3_1, x4_1, rfl, HA, HK1, HO_3, HB⟩ := hrel
 cases gk with
 | zero => exact absurd HA.out (by simp [newelref05_parts.l0])
 | succ k1 =>
  have H := HA.out
  clear HA
  simp only [newelref05_parts.l0] at H
  by_cases c4 : x4_1 < (a0.size : Int)
  rotate_left
  ·rw [if_neg c4] at H
   have c4b0 := dF c4
   clear c4
   obtain rfl := Option.some.inj H
   go_wp2
   go_ret
   exact ⟨_, by first | rfl | (simp [errW_none, errW_some] <;> rfl) | (simp [*, errW_none, errW_some] <;> rfl), by (with_reducible repeat (first | apply Kd.R_alloc | apply Kd.R_drewN | apply Kd.R_drew)); exact HO_3.out, bE⟩
  rw [if_pos c4] at H
  have c4b0 := dT c4
  clear c4
  obtain ⟨ji5, hji5⟩ : ∃ j_ : Int, (wrap64 ((x3_1.length : Int) - 1)) = j_ := ⟨_, rfl⟩
  rw [hji5] at H
  have hji5w : (IntKind.i64.wrap ((x3_1.length : Int) - 1)) = ji5 := (i64_w _).trans hji5
  obtain ⟨c6, H⟩ := gp H
  have c6b0 := dT c6
  clear c6
  obtain ⟨c7, H⟩ := gp H
  have c7b0 := dT c7
  clear c7
  obtain ⟨c9, H⟩ := gp H
  have c9b0 := dT c9
  clear c9
  by_cases c11 : (bt a0 x4_1) = 46
  ·rw [if_pos c11] at H
   obtain ⟨c11b0, c11b1⟩ := eqT c11
   clear c11
   obtain ⟨c13, H⟩ := gp H
   have LMc13 := Aside0.mk c13
   clear c13
   obtain ⟨y293, hy293⟩ : ∃ y_ : List (S91), y_ = (x3_1 ++ [(⟨(⟨#[]⟩ : ByteArray), ((bt a0 x4_1) == 45), false⟩ : S91)]) := ⟨_, rfl⟩
   replace H : (newelref05_parts.l0 k1 a0 y293 (wrap64 (x4_1 + 1))) = some r := by first | (rw [hy293]; with_reducible exact H) | (have H2_ := (Option.bind_some _ _).symm.trans H; rw [hy293]; with_reducible exact H2_) | (have H2_ := (Option.bind_some _ _).symm.trans H; with_reducible exact H2_) | with_reducible exact H | (rw [hy293]; exact H) | exact H
   have Ny293 := Aside0.mk hy293
   clear hy293
   have H' := Aside0.mk H
   clear H
   obtain ⟨Ao14, co14, eo14⟩ := Kd.R_slice HO_3.out
   subst eo14
   have p8 : 0 ≤ ((ji5) : Int) := dA
   have q8 : ((ji5) : Int) < ((x3_1.length : Int) : Int) := dA
   obtain ⟨go8, co8, eo8, gb8, gl8, cl8, HG8⟩ := Kd.R_form HO_3.out (by omega)
   (first | cases eo8 | (injection eo8 with ea_ en_ ec_; (first | subst ea_ | (injection ea_ with ea_; subst ea_)); subst ec_; clear en_))
   have GB8 := Aside0.mk gb8
   have GG8 := Aside0.mk HG8
   clear gb8 gl8 HG8
   obtain ⟨ce8, hcl8, hM8, hcc8, hfr8⟩ := Kd.R_elem HO_3.out z91 ((ji5) : Int) p8 q8
   obtain rfl := k91_openM hM8
   have hx8_0 : wr.cell? ⟨go8, ((ji5) : Int).toNat * 3, none⟩ = some (.string ((rd_T91 x3_1 (ji5)).f0)) := hcc8 0 _ rfl
   have hx8_1 : wr.cell? ⟨go8, ((ji5) : Int).toNat * 3 + 1, none⟩ = some (.bool ((rd_T91 x3_1 (ji5)).f1)) := hcc8 1 _ rfl
   have hx8_2 : wr.cell? ⟨go8, ((ji5) : Int).toNat * 3 + 2, none⟩ = some (.bool ((rd_T91 x3_1 (ji5)).f2)) := hcc8 2 _ rfl
   have hf8_0 : wr.frozen? ⟨go8, ((ji5) : Int).toNat * 3, none⟩ = false := hfr8 0
   have hf8_1 : wr.frozen? ⟨go8, ((ji5) : Int).toNat * 3 + 1, none⟩ = false := hfr8 1
   have hf8_2 : wr.frozen? ⟨go8, ((ji5) : Int).toNat * 3 + 2, none⟩ = false := hfr8 2
   clear hcl8 hcc8 hfr8 hM8
   replace p8 := eq_true p8
   replace q8 := eq_true q8
   have p10 : 0 ≤ (x4_1 : Int) := dA
   have q10 : x4_1 < (a0.size : Int) := dA
   have hx10 := bt_at a0 x4_1
   replace p10 := eq_true p10
   replace q10 := eq_true q10
   have p12 : 0 ≤ (x4_1 : Int) := dA
   have q12 : x4_1 < (a0.size : Int) := dA
   have hx12 := bt_at a0 x4_1
   replace p12 := eq_true p12
   replace q12 := eq_true q12
   go_wp2_with (first | ((with_reducible refine gate_builtin (b := .append) (xs := #[.tmp 29, .tmp 35]) rfl ?_); (try (refine gate_guard (by rfl) ?_; dsimp only)); at_builtin; refine Kd.R_append k91 (w0 := w) w.heap.size rfl (.tmp 29) (.tmp 35) 87 91 (.agg #[(.string ⟨#[]⟩), (.bool false), (.bool false)]) 24 rfl Tryz.underlying87 info91 rfl (by decide) (by omega) (.slice (some ⟨go8, 0, none⟩) x3_1.length co14) x3_1 (⟨(⟨#[]⟩ : ByteArray), ((bt a0 x4_1) == 45), false⟩ : S91) [.string (⟨#[]⟩ : ByteArray), .bool ((bt a0 x4_1) == 45), .bool false] (fun _ => True) (fun _ => False) rfl rfl ?aP (fun _ hk => hk.elim) ?aF ?aO ?aB ?aS ?aL ?_; (case aP => exact k91_mkM _ _ _ (⟨(⟨#[]⟩ : ByteArray), ((bt a0 x4_1) == 45), false⟩ : S91)); (case aB => exact bE); (case aF => exact (fun _ _ => trivial)); (case aO => exact (kR HO_3)); (case aS => exact (below_size bE)); (case aL => have := LMc13.out; omega); intro v294 w15 ho hb hg hat; rw [← Ny293.out] at ho; replace HB := Aside0.mk (hb); have HO295 := Aside0.mk (ho); clear HO_3; clear ho hb hg hat))
   go_roundg k1
   case measure => have := HK1.out; omega
   case rel => exact ⟨(y293), (wrap64 (x4_1 + 1)), cA, H', ⟨by have := HK1.out; omega⟩, ⟨kR HO295⟩, ⟨bE⟩⟩
  rw [if_neg c11] at H
  obtain ⟨c11b0, c11b1⟩ := eqF c11
  by_cases c17 : (bt a0 x4_1) = 45
  ·rw [if_pos c17] at H
   obtain ⟨c17b0, c17b1⟩ := eqT c17
   clear c17
   obtain ⟨c19, H⟩ := gp H
   have LMc19 := Aside0.mk c19
   clear c19
   obtain ⟨y296, hy296⟩ : ∃ y_ : List (S91), y_ = (x3_1 ++ [(⟨(⟨#[]⟩ : ByteArray), true, false⟩ : S91)]) := ⟨_, rfl⟩
   replace H : (newelref05_parts.l0 k1 a0 y296 (wrap64 (x4_1 + 1))) = some r := by first | (rw [hy296]; with_reducible exact H) | (have H2_ := (Option.bind_some _ _).symm.trans H; rw [hy296]; with_reducible exact H2_) | (have H2_ := (Option.bind_some _ _).symm.trans H; with_reducible exact H2_) | with_reducible exact H | (rw [hy296]; exact H) | exact H
   have Ny296 := Aside0.mk hy296
   clear hy296
   have H' := Aside0.mk H
   clear H
   obtain ⟨Ao20, co20, eo20⟩ := Kd.R_slice HO_3.out
   subst eo20
   have p8 : 0 ≤ ((ji5) : Int) := dA
   have q8 : ((ji5) : Int) < ((x3_1.length : Int) : Int) := dA
   obtain ⟨go8, co8, eo8, gb8, gl8, cl8, HG8⟩ := Kd.R_form HO_3.out (by omega)
   (first | cases eo8 | (injection eo8 with ea_ en_ ec_; (first | subst ea_ | (injection ea_ with ea_; subst ea_)); subst ec_; clear en_))
   have GB8 := Aside0.mk gb8
   have GG8 := Aside0.mk HG8
   clear gb8 gl8 HG8
   obtain ⟨ce8, hcl8, hM8, hcc8, hfr8⟩ := Kd.R_elem HO_3.out z91 ((ji5) : Int) p8 q8
   obtain rfl := k91_openM hM8
   have hx8_0 : wr.cell? ⟨go8, ((ji5) : Int).toNat * 3, none⟩ = some (.string ((rd_T91 x3_1 (ji5)).f0)) := hcc8 0 _ rfl
   have hx8_1 : wr.cell? ⟨go8, ((ji5) : Int).toNat * 3 + 1, none⟩ = some (.bool ((rd_T91 x3_1 (ji5)).f1)) := hcc8 1 _ rfl
   have hx8_2 : wr.cell? ⟨go8, ((ji5) : Int).toNat * 3 + 2, none⟩ = some (.bool ((rd_T91 x3_1 (ji5)).f2)) := hcc8 2 _ rfl
   have hf8_0 : wr.frozen? ⟨go8, ((ji5) : Int).toNat * 3, none⟩ = false := hfr8 0
   have hf8_1 : wr.frozen? ⟨go8, ((ji5) : Int).toNat * 3 + 1, none⟩ = false := hfr8 1
   have hf8_2 : wr.frozen? ⟨go8, ((ji5) : Int).toNat * 3 + 2, none⟩ = false := hfr8 2
   clear hcl8 hcc8 hfr8 hM8
   replace p8 := eq_true p8
   replace q8 := eq_true q8
   have p10 : 0 ≤ (x4_1 : Int) := dA
   have q10 : x4_1 < (a0.size : Int) := dA
   have hx10 := bt_at a0 x4_1
   replace p10 := eq_true p10
   replace q10 := eq_true q10
   have p16 : 0 ≤ (x4_1 : Int) := dA
   have q16 : x4_1 < (a0.size : Int) := dA
   have hx16 := bt_at a0 x4_1
   replace p16 := eq_true p16
   replace q16 := eq_true q16
   have p18 : 0 ≤ (x4_1 : Int) := dA
   have q18 : x4_1 < (a0.size : Int) := dA
   have hx18 := bt_at a0 x4_1
   replace p18 := eq_true p18
   replace q18 := eq_true q18
   go_wp2_with (first | ((with_reducible refine gate_builtin (b := .append) (xs := #[.tmp 29, .tmp 35]) rfl ?_); (try (refine gate_guard (by rfl) ?_; dsimp only)); at_builtin; refine Kd.R_append k91 (w0 := w) w.heap.size rfl (.tmp 29) (.tmp 35) 87 91 (.agg #[(.string ⟨#[]⟩), (.bool false), (.bool false)]) 24 rfl Tryz.underlying87 info91 rfl (by decide) (by omega) (.slice (some ⟨go8, 0, none⟩) x3_1.length co20) x3_1 (⟨(⟨#[]⟩ : ByteArray), true, false⟩ : S91) [.string (⟨#[]⟩ : ByteArray), .bool true, .bool false] (fun _ => True) (fun _ => False) rfl rfl ?aP (fun _ hk => hk.elim) ?aF ?aO ?aB ?aS ?aL ?_; (case aP => exact k91_mkM _ _ _ (⟨(⟨#[]⟩ : ByteArray), true, false⟩ : S91)); (case aB => exact bE); (case aF => exact (fun _ _ => trivial)); (case aO => exact (kR HO_3)); (case aS => exact (below_size bE)); (case aL => have := LMc19.out; omega); intro v297 w21 ho hb hg hat; rw [← Ny296.out] at ho; replace HB := Aside0.mk (hb); have HO298 := Aside0.mk (ho); clear HO_3; clear ho hb hg hat))
   go_roundg k1
   case measure => have := HK1.out; omega
   case rel => exact ⟨(y296), (wrap64 (x4_1 + 1)), cA, H', ⟨by have := HK1.out; omega⟩, ⟨kR HO298⟩, ⟨bE⟩⟩
  rw [if_neg c17] at H
  obtain ⟨c17b0, c17b1⟩ := eqF c17
  by_cases c22 : ((rd_T91 x3_1 (ji5)).f0).toList = ([] : List UInt8)
  ·rw [if_pos c22] at H
   obtain ⟨c22b0, c22b1⟩ := eqT c22
   (try (have c22b2 : (((rd_T91 x3_1 (ji5)).f0).toList).isEmpty = true := by simpa using c22))
   clear c22
   have c24b0 := eq_true (dA : 0 ≤ x4_1)
   obtain ⟨c25, H⟩ := gp H
   have c25b0 := eq_true c25
   have c25b1 := dT c25
   obtain ⟨c26, H⟩ := gp H
   have c26b0 := eq_true c26
   have c26b1 := dT c26
   obtain ⟨c27, H⟩ := gp H
   have c27b0 := eq_true c27
   have c27b1 := dT c27
   try have c27b2 : (9223372036854775807 < ((rd_T91 x3_1 (ji5)).f0).size + (a0.extract (x4_1 : Int).toNat ((wrap64 (x4_1 + 1)) : Int).toNat).size) = False := eq_false (Nat.not_lt.2 c27)
   try have c27q : (9223372036854775807 < ((rd_T91 x3_1 (ji5)).f0).size + (((wrap64 (x4_1 + 1)) : Int).toNat - (x4_1 : Int).toNat)) = False := eq_false (by have z_ := c27; have y_ : ((wrap64 (x4_1 + 1)) : Int) ≤ ((a0).size : Int) := of_decide_eq_true (by assumption); simp only [ByteArray.size_extract] at z_; omega)
   obtain ⟨y301, hy301⟩ : ∃ y_ : List (S91), y_ = (x3_1.set ((ji5) : Int).toNat (⟨((rd_T91 x3_1 (ji5)).f0) ++ (a0.extract (x4_1 : Int).toNat ((wrap64 (x4_1 + 1)) : Int).toNat), (rd_T91 x3_1 (ji5)).f1, (rd_T91 x3_1 (ji5)).f2⟩ : S91)) := ⟨_, rfl⟩
   replace H : (newelref05_parts.l0 k1 a0 y301 (wrap64 (x4_1 + 1))) = some r := by first | (rw [hy301]; with_reducible exact H) | (have H2_ := (Option.bind_some _ _).symm.trans H; rw [hy301]; with_reducible exact H2_) | (have H2_ := (Option.bind_some _ _).symm.trans H; with_reducible exact H2_) | with_reducible exact H | (rw [hy301]; exact H) | exact H
   have Ny301 := Aside0.mk hy301
   clear hy301
   have H' := Aside0.mk H
   clear H
   obtain ⟨Ao29, co29, eo29⟩ := Kd.R_slice HO_3.out
   subst eo29
   have p8 : 0 ≤ ((ji5) : Int) := dA
   have q8 : ((ji5) : Int) < ((x3_1.length : Int) : Int) := dA
   obtain ⟨go8, co8, eo8, gb8, gl8, cl8, HG8⟩ := Kd.R_form HO_3.out (by omega)
   (first | cases eo8 | (injection eo8 with ea_ en_ ec_; (first | subst ea_ | (injection ea_ with ea_; subst ea_)); subst ec_; clear en_))
   have GB8 := Aside0.mk gb8
   have GG8 := Aside0.mk HG8
   clear gb8 gl8 HG8
   obtain ⟨ce8, hcl8, hM8, hcc8, hfr8⟩ := Kd.R_elem HO_3.out z91 ((ji5) : Int) p8 q8
   obtain rfl := k91_openM hM8
   have hx8_0 : wr.cell? ⟨go8, ((ji5) : Int).toNat * 3, none⟩ = some (.string ((rd_T91 x3_1 (ji5)).f0)) := hcc8 0 _ rfl
   have hx8_1 : wr.cell? ⟨go8, ((ji5) : Int).toNat * 3 + 1, none⟩ = some (.bool ((rd_T91 x3_1 (ji5)).f1)) := hcc8 1 _ rfl
   have hx8_2 : wr.cell? ⟨go8, ((ji5) : Int).toNat * 3 + 2, none⟩ = some (.bool ((rd_T91 x3_1 (ji5)).f2)) := hcc8 2 _ rfl
   have hf8_0 : wr.frozen? ⟨go8, ((ji5) : Int).toNat * 3, none⟩ = false := hfr8 0
   have hf8_1 : wr.frozen? ⟨go8, ((ji5) : Int).toNat * 3 + 1, none⟩ = false := hfr8 1
   have hf8_2 : wr.frozen? ⟨go8, ((ji5) : Int).toNat * 3 + 2, none⟩ = false := hfr8 2
   clear hcl8 hcc8 hfr8 hM8
   replace p8 := eq_true p8
   replace q8 := eq_true q8
   have p10 : 0 ≤ (x4_1 : Int) := dA
   have q10 : x4_1 < (a0.size : Int) := dA
   have hx10 := bt_at a0 x4_1
   replace p10 := eq_true p10
   replace q10 := eq_true q10
   have p16 : 0 ≤ (x4_1 : Int) := dA
   have q16 : x4_1 < (a0.size : Int) := dA
   have hx16 := bt_at a0 x4_1
   replace p16 := eq_true p16
   replace q16 := eq_true q16
   try go_wp2
   replace HO_3 := Aside0.mk (Kd.R_drew HO_3.out)
   replace HB := Aside0.mk (below_drew1 HB.out)
   have p299 : 0 ≤ ((ji5) : Int) := dA
   have q299 : (ji5) < (x3_1.length : Int) := dA
   obtain ⟨ad299, e299, hx299_0, hx299_1, hx299_2⟩ := at_T91 (Kd.R_reads' HO_3.out).2.2 (ji5) p299 q299
   obtain rfl : (⟨go8, 0, none⟩ : Addr) = ad299 := (by injection e299)
   (first | simp only [add_plain] at hx299_0 | simp only [add_at] at hx299_0 | simp only [Addr.add, Nat.zero_add] at hx299_0 | skip)
   (first | simp only [add_plain] at hx299_1 | simp only [add_at] at hx299_1 | simp only [Addr.add, Nat.zero_add] at hx299_1 | skip)
   (first | simp only [add_plain] at hx299_2 | simp only [add_at] at hx299_2 | simp only [Addr.add, Nat.zero_add] at hx299_2 | skip)
   replace p299 := eq_true p299
   replace q299 := eq_true q299
   refine start_ (n := 24) (S := fun w' => w'.cell? ⟨go8, ((ji5)).toNat * 3, none⟩ = some (.string ((rd_T91 x3_1 (ji5)).f0)) ∧ w'.cell? ⟨go8, ((ji5)).toNat * 3 + 1, none⟩ = some (.bool ((rd_T91 x3_1 (ji5)).f1)) ∧ w'.cell? ⟨go8, ((ji5)).toNat * 3 + 2, none⟩ = some (.bool ((rd_T91 x3_1 (ji5)).f2))) (ds := []) #[false, false, false, false, false, false, false, false, false, false, false, false, false, false, false, false, false, false, false, false, false, false, false, false] (by kernel_rfl) rfl rfl ⟨hx299_0, hx299_1, hx299_2⟩ (fun hHeld => ?_); refine with_tabW newelref05_parts.tab8 newelref05_parts.bits8 (fun HT_ HW_ => ?_)
   generalize wr.drew = w30 at HO_3 HB hx299_0 hx299_1 hx299_2 hHeld ⊢
   refine pz 0 (some 37) HT_ ?_
   refine pz 1 (some 38) HT_ ?_
   refine pz 2 (some 39) HT_ ?_
   refine tm 3 (some 40) HT_ HW_ hHeld ?_
   refine pz 4 (some 41) HT_ ?_
   refine pz 5 (some 42) HT_ ?_
   refine pu 6 (some 43) HT_ ?_
   refine pu 7 (some 44) HT_ ?_
   refine pu 8 (some 45) HT_ ?_
   refine pu 9 (some 46) HT_ ?_
   refine pu 10 (some 47) HT_ ?_
   refine pu 11 (some 48) HT_ ?_
   refine pu 12 (some 49) HT_ ?_
   refine pu 13 (some 50) HT_ ?_
   refine pu 14 (some 51) HT_ ?_
   refine pu 15 (some 52) HT_ ?_
   refine pu 16 (some 53) HT_ ?_
   refine pu 17 (some 54) HT_ ?_
   refine pu 18 (some 55) HT_ ?_
   refine pu 19 (some 56) HT_ ?_
   refine pu 20 (some 57) HT_ ?_
   refine pu 21 (some 58) HT_ ?_
   refine pu 22 (some 59) HT_ ?_
   refine pz 23 (some 60) HT_ ?_
   refine done_ (done_of HT_.out (by kernel_rfl)) ?_
   have p23 : 0 ≤ ((ji5) : Int) := dA
   have q23 : ((ji5) : Int) < ((x3_1.length : Int) : Int) := dA
   obtain ⟨ce23, hcl23, hM23, hcc23, hfr23⟩ := Kd.R_elem HO_3.out z91 ((ji5) : Int) p23 q23
   obtain rfl := k91_openM hM23
   have hx23_0 : w30.cell? ⟨go8, ((ji5) : Int).toNat * 3, none⟩ = some (.string ((rd_T91 x3_1 (ji5)).f0)) := hcc23 0 _ rfl
   have hx23_1 : w30.cell? ⟨go8, ((ji5) : Int).toNat * 3 + 1, none⟩ = some (.bool ((rd_T91 x3_1 (ji5)).f1)) := hcc23 1 _ rfl
   have hx23_2 : w30.cell? ⟨go8, ((ji5) : Int).toNat * 3 + 2, none⟩ = some (.bool ((rd_T91 x3_1 (ji5)).f2)) := hcc23 2 _ rfl
   have hf23_0 : w30.frozen? ⟨go8, ((ji5) : Int).toNat * 3, none⟩ = false := hfr23 0
   have hf23_1 : w30.frozen? ⟨go8, ((ji5) : Int).toNat * 3 + 1, none⟩ = false := hfr23 1
   have hf23_2 : w30.frozen? ⟨go8, ((ji5) : Int).toNat * 3 + 2, none⟩ = false := hfr23 2
   clear hcl23 hcc23 hfr23 hM23
   replace p23 := eq_true p23
   replace q23 := eq_true q23
   try go_wp2
   replace HO_3 := Aside0.mk (Kd.R_drew HO_3.out)
   replace HB := Aside0.mk (below_drew1 HB.out)
   have p300 : 0 ≤ ((ji5) : Int) := dA
   have q300 : (ji5) < (x3_1.length : Int) := dA
   obtain ⟨ad300, e300, hx300_0, hx300_1, hx300_2⟩ := at_T91 (Kd.R_reads' HO_3.out).2.2 (ji5) p300 q300
   obtain rfl : (⟨go8, 0, none⟩ : Addr) = ad300 := (by injection e300)
   (first | simp only [add_plain] at hx300_0 | simp only [add_at] at hx300_0 | simp only [Addr.add, Nat.zero_add] at hx300_0 | skip)
   (first | simp only [add_plain] at hx300_1 | simp only [add_at] at hx300_1 | simp only [Addr.add, Nat.zero_add] at hx300_1 | skip)
   (first | simp only [add_plain] at hx300_2 | simp only [add_at] at hx300_2 | simp only [Addr.add, Nat.zero_add] at hx300_2 | skip)
   replace p300 := eq_true p300
   replace q300 := eq_true q300
   have p28 : 0 ≤ ((ji5) : Int) := dA
   have q28 : ((ji5) : Int) < ((x3_1.length : Int) : Int) := dA
   obtain ⟨ce28, hcl28, hM28, hcc28, hfr28⟩ := Kd.R_elem HO_3.out z91 ((ji5) : Int) p28 q28
   obtain rfl := k91_openM hM28
   have hx28_0 : World.cell? _ ⟨go8, ((ji5) : Int).toNat * 3, none⟩ = some (.string ((rd_T91 x3_1 (ji5)).f0)) := hcc28 0 _ rfl
   have hx28_1 : World.cell? _ ⟨go8, ((ji5) : Int).toNat * 3 + 1, none⟩ = some (.bool ((rd_T91 x3_1 (ji5)).f1)) := hcc28 1 _ rfl
   have hx28_2 : World.cell? _ ⟨go8, ((ji5) : Int).toNat * 3 + 2, none⟩ = some (.bool ((rd_T91 x3_1 (ji5)).f2)) := hcc28 2 _ rfl
   have hf28_0 : World.frozen? _ ⟨go8, ((ji5) : Int).toNat * 3, none⟩ = false := hfr28 0
   have hf28_1 : World.frozen? _ ⟨go8, ((ji5) : Int).toNat * 3 + 1, none⟩ = false := hfr28 1
   have hf28_2 : World.frozen? _ ⟨go8, ((ji5) : Int).toNat * 3 + 2, none⟩ = false := hfr28 2
   clear hcl28 hcc28 hfr28 hM28
   replace p28 := eq_true p28
   replace q28 := eq_true q28
   obtain ⟨ce32, hcl32, hM32, hcc32, hfr32⟩ := Kd.R_elem HO_3.out z91 ((ji5) : Int) (dA) (by have h_ : ((ji5) : Int) < ((x3_1.length : Int) : Int) := dA; first | exact h_ | (have e_ := (Kd.R_reads' HO_3.out).1; omega) | simpa using h_)
   obtain rfl := k91_openM hM32
   have HP32 := (Kd.R_seg HO_3.out ((ji5) : Int) (dA) (by have h_ : ((ji5) : Int) < ((x3_1.length : Int) : Int) := dA; first | exact h_ | (have e_ := (Kd.R_reads' HO_3.out).1; omega) | simpa using h_) (seg := [.string (((rd_T91 x3_1 (ji5)).f0) ++ (a0.extract (x4_1 : Int).toNat ((wrap64 (x4_1 + 1)) : Int).toNat))]) (j := 0) hcl32 hcc32 (show 1 ≤ 3 from by decide) (x' := (⟨((rd_T91 x3_1 (ji5)).f0) ++ (a0.extract (x4_1 : Int).toNat ((wrap64 (x4_1 + 1)) : Int).toNat), (rd_T91 x3_1 (ji5)).f1, (rd_T91 x3_1 (ji5)).f2⟩ : S91)) (k91_mkM _ _ _ (⟨((rd_T91 x3_1 (ji5)).f0) ++ (a0.extract (x4_1 : Int).toNat ((wrap64 (x4_1 + 1)) : Int).toNat), (rd_T91 x3_1 (ji5)).f1, (rd_T91 x3_1 (ji5)).f2⟩ : S91) ) (fun _ hk => hk)).1
   rw [← Ny301.out] at HP32
   have HQ32 := Aside0.mk HP32
   clear hcl32 hcc32 hfr32 hM32 HP32
   refine start_ (n := 14) (S := fun w' => w'.cell? ⟨go8, ((ji5)).toNat * 3, none⟩ = some (.string ((rd_T91 x3_1 (ji5)).f0)) ∧ w'.cell? ⟨go8, ((ji5)).toNat * 3 + 1, none⟩ = some (.bool ((rd_T91 x3_1 (ji5)).f1)) ∧ w'.cell? ⟨go8, ((ji5)).toNat * 3 + 2, none⟩ = some (.bool ((rd_T91 x3_1 (ji5)).f2))) (ds := [13]) #[false, false, false, false, false, false, false, false, false, false, false, false, false, false] (by kernel_rfl) rfl rfl ⟨hx300_0, hx300_1, hx300_2⟩ (fun hHeld => ?_); refine with_tabW newelref05_parts.tab12 newelref05_parts.bits12 (fun HT_ HW_ => ?_)
   generalize w30.drew = w31 at HO_3 HB HQ32 hf28_0 hf28_1 hf28_2 hx28_0 hx28_1 hx28_2 hx300_0 hx300_1 hx300_2 hHeld ⊢
   refine pz 0 (some 77) HT_ ?_
   refine pz 1 (some 78) HT_ ?_
   refine pz 2 (some 79) HT_ ?_
   refine pz 3 (some 80) HT_ ?_
   refine pz 5 (some 82) HT_ ?_
   refine pz 6 (some 83) HT_ ?_
   refine pz 7 (some 84) HT_ ?_
   refine pz 8 (some 85) HT_ ?_
   refine pz 9 (some 86) HT_ ?_
   refine tm 4 (some 81) HT_ HW_ hHeld ?_
   refine pz 10 (some 87) HT_ ?_
   refine pz 11 (some 88) HT_ ?_
   refine pz 12 (some 89) HT_ ?_
   refine last_ (i := 13) (N := none) #[true, true, true, true, true, true, true, true, true, true, true, true, true, true] rfl rfl (one_of HT_.out (by kernel_rfl)) (by decide) (fun K hK => ?_)
   refine skip_ (w1 := ?_) (by rfl) rfl ?_ ?_
   rotate_left
   ·go_simp
    rfl
   refine hK.out _ _ ?_
   clear hK K
   refine done_ (done_of HT_.out (by kernel_rfl)) ?_
   try go_wp2
   go_roundg k1
   case measure => have := HK1.out; omega
   case rel => exact ⟨(y301), (wrap64 (x4_1 + 1)), cA, H', ⟨by have := HK1.out; omega⟩, ⟨by (with_reducible repeat (first | apply Kd.R_alloc | apply Kd.R_drewN | apply Kd.R_drew)); exact HQ32.out⟩, ⟨by repeat (first | (with_reducible first | exact HB.out | apply below_alloc | apply pw_below_drewN | apply below_drew1 | refine below_set ?_ GB8.out) | exact HB.out)⟩⟩
  rw [if_neg c22] at H
  obtain ⟨c22b0, c22b1⟩ := eqF c22
  (try (have c22b2 : (((rd_T91 x3_1 (ji5)).f0).toList).isEmpty = false := by simpa using c22))
  obtain ⟨ji33, hji33⟩ : ∃ j_ : Int, (wrap64 ((((rd_T91 x3_1 (ji5)).f0).size : Int) - 1)) = j_ := ⟨_, rfl⟩
  rw [hji33] at H
  have hji33w : (IntKind.i64.wrap ((((rd_T91 x3_1 (ji5)).f0).size : Int) - 1)) = ji33 := (i64_w _).trans hji33
  obtain ⟨c34, H⟩ := gp H
  have c34b0 := dT c34
  clear c34
  obtain ⟨c35, H⟩ := gp H
  have c35b0 := dT c35
  clear c35
  replace H := bi H
  obtain ⟨t304, A370, H⟩ := H
  try dsimp only at H
  have A37 := Aside0.mk A370
  clear A370
  replace H := bi H
  obtain ⟨t305, A390, H⟩ := H
  try dsimp only at H
  have A39 := Aside0.mk A390
  clear A390
  by_cases c40 : (t304 != t305) = true
  rotate_left
  ·rw [if_neg c40] at H
   have c40b0 : (t304 != t305) = false := by simpa using c40
   (try (have c40b1 : decide (t304 = t305) = true := by simpa using c40))
   (try (have c40b2 : (t304 == t305) = true := by simpa using c40))
   clear c40
   have c63b0 := eq_true (dA : 0 ≤ x4_1)
   obtain ⟨c64, H⟩ := gp H
   have c64b0 := eq_true c64
   have c64b1 := dT c64
   obtain ⟨c65, H⟩ := gp H
   have c65b0 := eq_true c65
   have c65b1 := dT c65
   obtain ⟨c66, H⟩ := gp H
   have c66b0 := eq_true c66
   have c66b1 := dT c66
   try have c66b2 : (9223372036854775807 < ((rd_T91 x3_1 (ji5)).f0).size + (a0.extract (x4_1 : Int).toNat ((wrap64 (x4_1 + 1)) : Int).toNat).size) = False := eq_false (Nat.not_lt.2 c66)
   try have c66q : (9223372036854775807 < ((rd_T91 x3_1 (ji5)).f0).size + (((wrap64 (x4_1 + 1)) : Int).toNat - (x4_1 : Int).toNat)) = False := eq_false (by have z_ := c66; have y_ : ((wrap64 (x4_1 + 1)) : Int) ≤ ((a0).size : Int) := of_decide_eq_true (by assumption); simp only [ByteArray.size_extract] at z_; omega)
   obtain ⟨y314, hy314⟩ : ∃ y_ : List (S91), y_ = (x3_1.set ((ji5) : Int).toNat (⟨((rd_T91 x3_1 (ji5)).f0) ++ (a0.extract (x4_1 : Int).toNat ((wrap64 (x4_1 + 1)) : Int).toNat), (rd_T91 x3_1 (ji5)).f1, (rd_T91 x3_1 (ji5)).f2⟩ : S91)) := ⟨_, rfl⟩
   replace H : (newelref05_parts.l0 k1 a0 y314 (wrap64 (x4_1 + 1))) = some r := by first | (rw [hy314]; with_reducible exact H) | (have H2_ := (Option.bind_some _ _).symm.trans H; rw [hy314]; with_reducible exact H2_) | (have H2_ := (Option.bind_some _ _).symm.trans H; with_reducible exact H2_) | with_reducible exact H | (rw [hy314]; exact H) | exact H
   have Ny314 := Aside0.mk hy314
   clear hy314
   have H' := Aside0.mk H
   clear H
   obtain ⟨Ao68, co68, eo68⟩ := Kd.R_slice HO_3.out
   subst eo68
   have p8 : 0 ≤ ((ji5) : Int) := dA
   have q8 : ((ji5) : Int) < ((x3_1.length : Int) : Int) := dA
   obtain ⟨go8, co8, eo8, gb8, gl8, cl8, HG8⟩ := Kd.R_form HO_3.out (by omega)
   (first | cases eo8 | (injection eo8 with ea_ en_ ec_; (first | subst ea_ | (injection ea_ with ea_; subst ea_)); subst ec_; clear en_))
   have GB8 := Aside0.mk gb8
   have GG8 := Aside0.mk HG8
   clear gb8 gl8 HG8
   obtain ⟨ce8, hcl8, hM8, hcc8, hfr8⟩ := Kd.R_elem HO_3.out z91 ((ji5) : Int) p8 q8
   obtain rfl := k91_openM hM8
   have hx8_0 : wr.cell? ⟨go8, ((ji5) : Int).toNat * 3, none⟩ = some (.string ((rd_T91 x3_1 (ji5)).f0)) := hcc8 0 _ rfl
   have hx8_1 : wr.cell? ⟨go8, ((ji5) : Int).toNat * 3 + 1, none⟩ = some (.bool ((rd_T91 x3_1 (ji5)).f1)) := hcc8 1 _ rfl
   have hx8_2 : wr.cell? ⟨go8, ((ji5) : Int).toNat * 3 + 2, none⟩ = some (.bool ((rd_T91 x3_1 (ji5)).f2)) := hcc8 2 _ rfl
   have hf8_0 : wr.frozen? ⟨go8, ((ji5) : Int).toNat * 3, none⟩ = false := hfr8 0
   have hf8_1 : wr.frozen? ⟨go8, ((ji5) : Int).toNat * 3 + 1, none⟩ = false := hfr8 1
   have hf8_2 : wr.frozen? ⟨go8, ((ji5) : Int).toNat * 3 + 2, none⟩ = false := hfr8 2
   clear hcl8 hcc8 hfr8 hM8
   replace p8 := eq_true p8
   replace q8 := eq_true q8
   have p10 : 0 ≤ (x4_1 : Int) := dA
   have q10 : x4_1 < (a0.size : Int) := dA
   have hx10 := bt_at a0 x4_1
   replace p10 := eq_true p10
   replace q10 := eq_true q10
   have p16 : 0 ≤ (x4_1 : Int) := dA
   have q16 : x4_1 < (a0.size : Int) := dA
   have hx16 := bt_at a0 x4_1
   replace p16 := eq_true p16
   replace q16 := eq_true q16
   try go_wp2
   replace HO_3 := Aside0.mk (Kd.R_drew HO_3.out)
   replace HB := Aside0.mk (below_drew1 HB.out)
   have p299 : 0 ≤ ((ji5) : Int) := dA
   have q299 : (ji5) < (x3_1.length : Int) := dA
   obtain ⟨ad299, e299, hx299_0, hx299_1, hx299_2⟩ := at_T91 (Kd.R_reads' HO_3.out).2.2 (ji5) p299 q299
   obtain rfl : (⟨go8, 0, none⟩ : Addr) = ad299 := (by injection e299)
   (first | simp only [add_plain] at hx299_0 | simp only [add_at] at hx299_0 | simp only [Addr.add, Nat.zero_add] at hx299_0 | skip)
   (first | simp only [add_plain] at hx299_1 | simp only [add_at] at hx299_1 | simp only [Addr.add, Nat.zero_add] at hx299_1 | skip)
   (first | simp only [add_plain] at hx299_2 | simp only [add_at] at hx299_2 | simp only [Addr.add, Nat.zero_add] at hx299_2 | skip)
   replace p299 := eq_true p299
   replace q299 := eq_true q299
   have p302 : 0 ≤ ((ji5) : Int) := dA
   have q302 : (ji5) < (x3_1.length : Int) := dA
   obtain ⟨ad302, e302, hx302_0, hx302_1, hx302_2⟩ := at_T91 (Kd.R_reads' HO_3.out).2.2 (ji5) p302 q302
   obtain rfl : (⟨go8, 0, none⟩ : Addr) = ad302 := (by injection e302)
   (first | simp only [add_plain] at hx302_0 | simp only [add_at] at hx302_0 | simp only [Addr.add, Nat.zero_add] at hx302_0 | skip)
   (first | simp only [add_plain] at hx302_1 | simp only [add_at] at hx302_1 | simp only [Addr.add, Nat.zero_add] at hx302_1 | skip)
   (first | simp only [add_plain] at hx302_2 | simp only [add_at] at hx302_2 | simp only [Addr.add, Nat.zero_add] at hx302_2 | skip)
   replace p302 := eq_true p302
   replace q302 := eq_true q302
   have p303 : 0 ≤ ((ji5) : Int) := dA
   have q303 : (ji5) < (x3_1.length : Int) := dA
   obtain ⟨ad303, e303, hx303_0, hx303_1, hx303_2⟩ := at_T91 (Kd.R_reads' HO_3.out).2.2 (ji5) p303 q303
   obtain rfl : (⟨go8, 0, none⟩ : Addr) = ad303 := (by injection e303)
   (first | simp only [add_plain] at hx303_0 | simp only [add_at] at hx303_0 | simp only [Addr.add, Nat.zero_add] at hx303_0 | skip)
   (first | simp only [add_plain] at hx303_1 | simp only [add_at] at hx303_1 | simp only [Addr.add, Nat.zero_add] at hx303_1 | skip)
   (first | simp only [add_plain] at hx303_2 | simp only [add_at] at hx303_2 | simp only [Addr.add, Nat.zero_add] at hx303_2 | skip)
   replace p303 := eq_true p303
   replace q303 := eq_true q303
   have p36 : 0 ≤ ((ji33) : Int) := dA
   have q36 : (ji33) < (((rd_T91 x3_1 (ji5)).f0).size : Int) := dA
   have hx36 := bt_at ((rd_T91 x3_1 (ji5)).f0) (ji33)
   replace p36 := eq_true p36
   replace q36 := eq_true q36
   have p38 : 0 ≤ (x4_1 : Int) := dA
   have q38 : x4_1 < (a0.size : Int) := dA
   have hx38 := bt_at a0 x4_1
   replace p38 := eq_true p38
   replace q38 := eq_true q38
   refine start_ (n := 24) (S := fun w' => w'.cell? ⟨go8, ((ji5)).toNat * 3, none⟩ = some (.string ((rd_T91 x3_1 (ji5)).f0)) ∧ w'.cell? ⟨go8, ((ji5)).toNat * 3 + 1, none⟩ = some (.bool ((rd_T91 x3_1 (ji5)).f1)) ∧ w'.cell? ⟨go8, ((ji5)).toNat * 3 + 2, none⟩ = some (.bool ((rd_T91 x3_1 (ji5)).f2)) ∧ w'.cell? ⟨go8, ((ji5)).toNat * 3, none⟩ = some (.string ((rd_T91 x3_1 (ji5)).f0)) ∧ w'.cell? ⟨go8, ((ji5)).toNat * 3 + 1, none⟩ = some (.bool ((rd_T91 x3_1 (ji5)).f1)) ∧ w'.cell? ⟨go8, ((ji5)).toNat * 3 + 2, none⟩ = some (.bool ((rd_T91 x3_1 (ji5)).f2)) ∧ w'.cell? ⟨go8, ((ji5)).toNat * 3, none⟩ = some (.string ((rd_T91 x3_1 (ji5)).f0)) ∧ w'.cell? ⟨go8, ((ji5)).toNat * 3 + 1, none⟩ = some (.bool ((rd_T91 x3_1 (ji5)).f1)) ∧ w'.cell? ⟨go8, ((ji5)).toNat * 3 + 2, none⟩ = some (.bool ((rd_T91 x3_1 (ji5)).f2))) (ds := []) #[false, false, false, false, false, false, false, false, false, false, false, false, false, false, false, false, false, false, false, false, false, false, false, false] (by kernel_rfl) rfl rfl ⟨hx299_0, hx299_1, hx299_2, hx302_0, hx302_1, hx302_2, hx303_0, hx303_1, hx303_2⟩ (fun hHeld => ?_); refine with_tabW newelref05_parts.tab8 newelref05_parts.bits8 (fun HT_ HW_ => ?_)
   generalize wr.drew = w69 at HO_3 HB hx299_0 hx299_1 hx299_2 hx302_0 hx302_1 hx302_2 hx303_0 hx303_1 hx303_2 hHeld ⊢
   refine pz 0 (some 37) HT_ ?_
   refine pz 1 (some 38) HT_ ?_
   refine pz 2 (some 39) HT_ ?_
   refine tm 3 (some 40) HT_ HW_ hHeld ?_
   refine pz 4 (some 41) HT_ ?_
   refine pz 5 (some 42) HT_ ?_
   refine pz 6 (some 43) HT_ ?_
   refine pz 7 (some 44) HT_ ?_
   refine pz 8 (some 45) HT_ ?_
   refine pz 10 (some 47) HT_ ?_
   refine pz 11 (some 48) HT_ ?_
   refine pz 12 (some 49) HT_ ?_
   refine pz 18 (some 55) HT_ ?_
   refine pz 19 (some 56) HT_ ?_
   refine tm 9 (some 46) HT_ HW_ hHeld ?_
   refine tm 13 (some 50) HT_ HW_ hHeld ?_
   refine pz 14 (some 51) HT_ ?_
   refine pz 15 (some 52) HT_ ?_
   refine tm 16 (some 53) HT_ HW_ hHeld ?_
   refine tm 20 (some 57) HT_ HW_ hHeld ?_
   refine on 17 (some 54) HT_ (fun K hK => ?_)
   refine goes_ Tryz.func87 (by kernel_rfl) rfl #[.int .u8 (bt ((rd_T91 x3_1 (ji5)).f0) (ji33))] (by rfl) rfl rfl (by (try simp only [List.map_toArray, List.map_cons, List.map_nil]); first | done | (simp only [hji33, hji5]; rfl) | rfl | (simp only [List.length_drop, List.length_take]; rfl)) ?_
   with_reducible refine (newelref01_Digit.calls (bt ((rd_T91 x3_1 (ji5)).f0) (ji33)) t304 _ (gS HG) A37.out).mono ?_
   rintro e w' ⟨rfl, ⟨nd, rfl⟩⟩
   refine ⟨_, rfl, ?_⟩
   refine hK.out _ _ ⟨hHeld.1, hHeld.2.1, hHeld.2.2.1, hHeld.2.2.2.1, hHeld.2.2.2.2.1, hHeld.2.2.2.2.2.1, hHeld.2.2.2.2.2.2.1, hHeld.2.2.2.2.2.2.2.1, hHeld.2.2.2.2.2.2.2.2⟩ (fun hHeld => ?_)
   clear hK K
   refine nz (some 54) ?_
   refine on 21 (some 58) HT_ (fun K hK => ?_)
   refine goes_ Tryz.func87 (by kernel_rfl) rfl #[.int .u8 (bt a0 x4_1)] (by rfl) rfl rfl mA ?_
   with_reducible refine (newelref01_Digit.calls (bt a0 x4_1) t305 _ (gS HG) A39.out).mono ?_
   rintro e w' ⟨rfl, ⟨nd, rfl⟩⟩
   refine ⟨_, rfl, ?_⟩
   refine hK.out _ _ ⟨hHeld.1, hHeld.2.1, hHeld.2.2.1, hHeld.2.2.2.1, hHeld.2.2.2.2.1, hHeld.2.2.2.2.2.1, hHeld.2.2.2.2.2.2.1, hHeld.2.2.2.2.2.2.2.1, hHeld.2.2.2.2.2.2.2.2⟩ (fun hHeld => ?_)
   clear hK K
   refine nz (some 58) ?_
   refine pz 22 (some 59) HT_ ?_
   refine pz 23 (some 60) HT_ ?_
   refine done_ (done_of HT_.out (by kernel_rfl)) ?_
   have p62 : 0 ≤ ((ji5) : Int) := dA
   have q62 : ((ji5) : Int) < ((x3_1.length : Int) : Int) := dA
   obtain ⟨ce62, hcl62, hM62, hcc62, hfr62⟩ := Kd.R_elem HO_3.out z91 ((ji5) : Int) p62 q62
   obtain rfl := k91_openM hM62
   have hx62_0 : w69.cell? ⟨go8, ((ji5) : Int).toNat * 3, none⟩ = some (.string ((rd_T91 x3_1 (ji5)).f0)) := hcc62 0 _ rfl
   have hx62_1 : w69.cell? ⟨go8, ((ji5) : Int).toNat * 3 + 1, none⟩ = some (.bool ((rd_T91 x3_1 (ji5)).f1)) := hcc62 1 _ rfl
   have hx62_2 : w69.cell? ⟨go8, ((ji5) : Int).toNat * 3 + 2, none⟩ = some (.bool ((rd_T91 x3_1 (ji5)).f2)) := hcc62 2 _ rfl
   have hf62_0 : w69.frozen? ⟨go8, ((ji5) : Int).toNat * 3, none⟩ = false := hfr62 0
   have hf62_1 : w69.frozen? ⟨go8, ((ji5) : Int).toNat * 3 + 1, none⟩ = false := hfr62 1
   have hf62_2 : w69.frozen? ⟨go8, ((ji5) : Int).toNat * 3 + 2, none⟩ = false := hfr62 2
   clear hcl62 hcc62 hfr62 hM62
   replace p62 := eq_true p62
   replace q62 := eq_true q62
   try go_wp2
   (try ((try simp only [World.drewN_drewN]); (first | generalize hq_ : World.drewN w69 _ = w69 | (rw [drewN_self w69]; generalize hq_ : World.drewN w69 _ = w69)); have n0_ : Aside0 (Kd.R k91 91 w69 w.heap.size (fun _ => True) (.slice (some ⟨go8, 0, none⟩) x3_1.length co68) x3_1) := ⟨by rw [← hq_]; exact (kR HO_3)⟩; have n1_ : Aside0 (Below w.heap.size w w69) := ⟨by rw [← hq_]; exact bE⟩; clear HO_3 HB hq_; have HO_3 := n0_; have HB := n1_; clear n0_ n1_))
   replace HO_3 := Aside0.mk (Kd.R_drew HO_3.out)
   replace HB := Aside0.mk (below_drew1 HB.out)
   have p313 : 0 ≤ ((ji5) : Int) := dA
   have q313 : (ji5) < (x3_1.length : Int) := dA
   obtain ⟨ad313, e313, hx313_0, hx313_1, hx313_2⟩ := at_T91 (Kd.R_reads' HO_3.out).2.2 (ji5) p313 q313
   obtain rfl : (⟨go8, 0, none⟩ : Addr) = ad313 := (by injection e313)
   (first | simp only [add_plain] at hx313_0 | simp only [add_at] at hx313_0 | simp only [Addr.add, Nat.zero_add] at hx313_0 | skip)
   (first | simp only [add_plain] at hx313_1 | simp only [add_at] at hx313_1 | simp only [Addr.add, Nat.zero_add] at hx313_1 | skip)
   (first | simp only [add_plain] at hx313_2 | simp only [add_at] at hx313_2 | simp only [Addr.add, Nat.zero_add] at hx313_2 | skip)
   replace p313 := eq_true p313
   replace q313 := eq_true q313
   have p67 : 0 ≤ ((ji5) : Int) := dA
   have q67 : ((ji5) : Int) < ((x3_1.length : Int) : Int) := dA
   obtain ⟨ce67, hcl67, hM67, hcc67, hfr67⟩ := Kd.R_elem HO_3.out z91 ((ji5) : Int) p67 q67
   obtain rfl := k91_openM hM67
   have hx67_0 : World.cell? _ ⟨go8, ((ji5) : Int).toNat * 3, none⟩ = some (.string ((rd_T91 x3_1 (ji5)).f0)) := hcc67 0 _ rfl
   have hx67_1 : World.cell? _ ⟨go8, ((ji5) : Int).toNat * 3 + 1, none⟩ = some (.bool ((rd_T91 x3_1 (ji5)).f1)) := hcc67 1 _ rfl
   have hx67_2 : World.cell? _ ⟨go8, ((ji5) : Int).toNat * 3 + 2, none⟩ = some (.bool ((rd_T91 x3_1 (ji5)).f2)) := hcc67 2 _ rfl
   have hf67_0 : World.frozen? _ ⟨go8, ((ji5) : Int).toNat * 3, none⟩ = false := hfr67 0
   have hf67_1 : World.frozen? _ ⟨go8, ((ji5) : Int).toNat * 3 + 1, none⟩ = false := hfr67 1
   have hf67_2 : World.frozen? _ ⟨go8, ((ji5) : Int).toNat * 3 + 2, none⟩ = false := hfr67 2
   clear hcl67 hcc67 hfr67 hM67
   replace p67 := eq_true p67
   replace q67 := eq_true q67
   obtain ⟨ce71, hcl71, hM71, hcc71, hfr71⟩ := Kd.R_elem HO_3.out z91 ((ji5) : Int) (dA) (by have h_ : ((ji5) : Int) < ((x3_1.length : Int) : Int) := dA; first | exact h_ | (have e_ := (Kd.R_reads' HO_3.out).1; omega) | simpa using h_)
   obtain rfl := k91_openM hM71
   have HP71 := (Kd.R_seg HO_3.out ((ji5) : Int) (dA) (by have h_ : ((ji5) : Int) < ((x3_1.length : Int) : Int) := dA; first | exact h_ | (have e_ := (Kd.R_reads' HO_3.out).1; omega) | simpa using h_) (seg := [.string (((rd_T91 x3_1 (ji5)).f0) ++ (a0.extract (x4_1 : Int).toNat ((wrap64 (x4_1 + 1)) : Int).toNat))]) (j := 0) hcl71 hcc71 (show 1 ≤ 3 from by decide) (x' := (⟨((rd_T91 x3_1 (ji5)).f0) ++ (a0.extract (x4_1 : Int).toNat ((wrap64 (x4_1 + 1)) : Int).toNat), (rd_T91 x3_1 (ji5)).f1, (rd_T91 x3_1 (ji5)).f2⟩ : S91)) (k91_mkM _ _ _ (⟨((rd_T91 x3_1 (ji5)).f0) ++ (a0.extract (x4_1 : Int).toNat ((wrap64 (x4_1 + 1)) : Int).toNat), (rd_T91 x3_1 (ji5)).f1, (rd_T91 x3_1 (ji5)).f2⟩ : S91) ) (fun _ hk => hk)).1
   rw [← Ny314.out] at HP71
   have HQ71 := Aside0.mk HP71
   clear hcl71 hcc71 hfr71 hM71 HP71
   refine start_ (n := 14) (S := fun w' => w'.cell? ⟨go8, ((ji5)).toNat * 3, none⟩ = some (.string ((rd_T91 x3_1 (ji5)).f0)) ∧ w'.cell? ⟨go8, ((ji5)).toNat * 3 + 1, none⟩ = some (.bool ((rd_T91 x3_1 (ji5)).f1)) ∧ w'.cell? ⟨go8, ((ji5)).toNat * 3 + 2, none⟩ = some (.bool ((rd_T91 x3_1 (ji5)).f2))) (ds := [13]) #[false, false, false, false, false, false, false, false, false, false, false, false, false, false] (by kernel_rfl) rfl rfl ⟨hx313_0, hx313_1, hx313_2⟩ (fun hHeld => ?_); refine with_tabW newelref05_parts.tab12 newelref05_parts.bits12 (fun HT_ HW_ => ?_)
   generalize w69.drew = w70 at HO_3 HB HQ71 hf67_0 hf67_1 hf67_2 hx313_0 hx313_1 hx313_2 hx67_0 hx67_1 hx67_2 hHeld ⊢
   refine pz 0 (some 77) HT_ ?_
   refine pz 1 (some 78) HT_ ?_
   refine pz 2 (some 79) HT_ ?_
   refine pz 3 (some 80) HT_ ?_
   refine pz 5 (some 82) HT_ ?_
   refine pz 6 (some 83) HT_ ?_
   refine pz 7 (some 84) HT_ ?_
   refine pz 8 (some 85) HT_ ?_
   refine pz 9 (some 86) HT_ ?_
   refine tm 4 (some 81) HT_ HW_ hHeld ?_
   refine pz 10 (some 87) HT_ ?_
   refine pz 11 (some 88) HT_ ?_
   refine pz 12 (some 89) HT_ ?_
   refine last_ (i := 13) (N := none) #[true, true, true, true, true, true, true, true, true, true, true, true, true, true] rfl rfl (one_of HT_.out (by kernel_rfl)) (by decide) (fun K hK => ?_)
   refine skip_ (w1 := ?_) (by rfl) rfl ?_ ?_
   rotate_left
   ·go_simp
    rfl
   refine hK.out _ _ ?_
   clear hK K
   refine done_ (done_of HT_.out (by kernel_rfl)) ?_
   try go_wp2
   go_roundg k1
   case measure => have := HK1.out; omega
   case rel => exact ⟨(y314), (wrap64 (x4_1 + 1)), cA, H', ⟨by have := HK1.out; omega⟩, ⟨by (with_reducible repeat (first | apply Kd.R_alloc | apply Kd.R_drewN | apply Kd.R_drew)); exact HQ71.out⟩, ⟨by repeat (first | (with_reducible first | exact HB.out | apply below_alloc | apply pw_below_drewN | apply below_drew1 | refine below_set ?_ GB8.out) | exact HB.out)⟩⟩
  rw [if_pos c40] at H
  have c40b0 : (t304 != t305) = true := c40
  (try (have c40b1 : decide (t304 = t305) = false := by simpa using c40))
  (try (have c40b2 : (t304 == t305) = false := by simpa using c40))
  (try (have c40b3 : ¬ (t304 = t305) := by simpa using c40))
  clear c40
  replace H := bi H
  obtain ⟨t306, A420, H⟩ := H
  try dsimp only at H
  have A42 := Aside0.mk A420
  clear A420
  obtain ⟨y307, hy307⟩ : ∃ y_ : List (S91), y_ = (x3_1.set ((ji5) : Int).toNat (⟨(rd_T91 x3_1 (ji5)).f0, (rd_T91 x3_1 (ji5)).f1, t306⟩ : S91)) := ⟨_, rfl⟩
  replace H : (if y307.length < 5864062014805 then ((some (y307 ++ [(⟨(⟨#[]⟩ : ByteArray), true, false⟩ : S91)] : List (S91))).bind fun y308 => (if 0 ≤ (wrap64 ((y308.length : Int) - 1)) then (if (wrap64 ((y308.length : Int) - 1)) < (y308.length : Int) then (if x4_1 ≤ (wrap64 (x4_1 + 1)) then (if (wrap64 (x4_1 + 1)) ≤ (a0.size : Int) then (if ((rd_T91 y308 (wrap64 ((y308.length : Int) - 1))).f0).size + (a0.extract (x4_1 : Int).toNat ((wrap64 (x4_1 + 1)) : Int).toNat).size ≤ 9223372036854775807 then (newelref05_parts.l0 k1 a0 (y308.set ((wrap64 ((y308.length : Int) - 1)) : Int).toNat (⟨((rd_T91 y308 (wrap64 ((y308.length : Int) - 1))).f0) ++ (a0.extract (x4_1 : Int).toNat ((wrap64 (x4_1 + 1)) : Int).toNat), (rd_T91 y308 (wrap64 ((y308.length : Int) - 1))).f1, (rd_T91 y308 (wrap64 ((y308.length : Int) - 1))).f2⟩ : S91)) (wrap64 (x4_1 + 1))) else (none)) else (none)) else (none)) else (none)) else (none))) else (none)) = some r := by first | (rw [hy307]; with_reducible exact H) | (have H2_ := (Option.bind_some _ _).symm.trans H; rw [hy307]; with_reducible exact H2_) | (have H2_ := (Option.bind_some _ _).symm.trans H; with_reducible exact H2_) | with_reducible exact H | (rw [hy307]; exact H) | exact H
  have Ny307 := Aside0.mk hy307
  clear hy307
  obtain ⟨c44, H⟩ := gp H
  have LMc44 := Aside0.mk c44
  clear c44
  obtain ⟨y308, hy308⟩ : ∃ y_ : List (S91), y_ = (y307 ++ [(⟨(⟨#[]⟩ : ByteArray), true, false⟩ : S91)]) := ⟨_, rfl⟩
  replace H : (if 0 ≤ (wrap64 ((y308.length : Int) - 1)) then (if (wrap64 ((y308.length : Int) - 1)) < (y308.length : Int) then (if x4_1 ≤ (wrap64 (x4_1 + 1)) then (if (wrap64 (x4_1 + 1)) ≤ (a0.size : Int) then (if ((rd_T91 y308 (wrap64 ((y308.length : Int) - 1))).f0).size + (a0.extract (x4_1 : Int).toNat ((wrap64 (x4_1 + 1)) : Int).toNat).size ≤ 9223372036854775807 then (newelref05_parts.l0 k1 a0 (y308.set ((wrap64 ((y308.length : Int) - 1)) : Int).toNat (⟨((rd_T91 y308 (wrap64 ((y308.length : Int) - 1))).f0) ++ (a0.extract (x4_1 : Int).toNat ((wrap64 (x4_1 + 1)) : Int).toNat), (rd_T91 y308 (wrap64 ((y308.length : Int) - 1))).f1, (rd_T91 y308 (wrap64 ((y308.length : Int) - 1))).f2⟩ : S91)) (wrap64 (x4_1 + 1))) else (none)) else (none)) else (none)) else (none)) else (none)) = some r := by first | (rw [hy308]; with_reducible exact H) | (have H2_ := (Option.bind_some _ _).symm.trans H; rw [hy308]; with_reducible exact H2_) | (have H2_ := (Option.bind_some _ _).symm.trans H; with_reducible exact H2_) | with_reducible exact H | (rw [hy308]; exact H) | exact H
  have Ny308 := Aside0.mk hy308
  clear hy308
  obtain ⟨ji45, hji45⟩ : ∃ j_ : Int, (wrap64 ((y308.length : Int) - 1)) = j_ := ⟨_, rfl⟩
  rw [hji45] at H
  (try rw [hji45] at A37)
  (try rw [hji45] at A39)
  (try rw [hji45] at A42)
  have hji45w : (IntKind.i64.wrap ((y308.length : Int) - 1)) = ji45 := (i64_w _).trans hji45
  obtain ⟨c46, H⟩ := gp H
  have c46b0 := dT c46
  clear c46
  obtain ⟨c47, H⟩ := gp H
  have c47b0 := dT c47
  clear c47
  have c49b0 := eq_true (dA : 0 ≤ x4_1)
  obtain ⟨c50, H⟩ := gp H
  have c50b0 := eq_true c50
  have c50b1 := dT c50
  obtain ⟨c51, H⟩ := gp H
  have c51b0 := eq_true c51
  have c51b1 := dT c51
  obtain ⟨c52, H⟩ := gp H
  have c52b0 := eq_true c52
  have c52b1 := dT c52
  try have c52b2 : (9223372036854775807 < ((rd_T91 y308 (ji45)).f0).size + (a0.extract (x4_1 : Int).toNat ((wrap64 (x4_1 + 1)) : Int).toNat).size) = False := eq_false (Nat.not_lt.2 c52)
  try have c52q : (9223372036854775807 < ((rd_T91 y308 (ji45)).f0).size + (((wrap64 (x4_1 + 1)) : Int).toNat - (x4_1 : Int).toNat)) = False := eq_false (by have z_ := c52; have y_ : ((wrap64 (x4_1 + 1)) : Int) ≤ ((a0).size : Int) := of_decide_eq_true (by assumption); simp only [ByteArray.size_extract] at z_; omega)
  obtain ⟨y312, hy312⟩ : ∃ y_ : List (S91), y_ = (y308.set ((ji45) : Int).toNat (⟨((rd_T91 y308 (ji45)).f0) ++ (a0.extract (x4_1 : Int).toNat ((wrap64 (x4_1 + 1)) : Int).toNat), (rd_T91 y308 (ji45)).f1, (rd_T91 y308 (ji45)).f2⟩ : S91)) := ⟨_, rfl⟩
  replace H : (newelref05_parts.l0 k1 a0 y312 (wrap64 (x4_1 + 1))) = some r := by first | (rw [hy312]; with_reducible exact H) | (have H2_ := (Option.bind_some _ _).symm.trans H; rw [hy312]; with_reducible exact H2_) | (have H2_ := (Option.bind_some _ _).symm.trans H; with_reducible exact H2_) | with_reducible exact H | (rw [hy312]; exact H) | exact H
  have Ny312 := Aside0.mk hy312
  clear hy312
  have H' := Aside0.mk H
  clear H
  obtain ⟨Ao54, co54, eo54⟩ := Kd.R_slice HO_3.out
  subst eo54
  have p8 : 0 ≤ ((ji5) : Int) := dA
  have q8 : ((ji5) : Int) < ((x3_1.length : Int) : Int) := dA
  obtain ⟨go8, co8, eo8, gb8, gl8, cl8, HG8⟩ := Kd.R_form HO_3.out (by omega)
  (first | cases eo8 | (injection eo8 with ea_ en_ ec_; (first | subst ea_ | (injection ea_ with ea_; subst ea_)); subst ec_; clear en_))
  have GB8 := Aside0.mk gb8
  have GG8 := Aside0.mk HG8
  clear gb8 gl8 HG8
  obtain ⟨ce8, hcl8, hM8, hcc8, hfr8⟩ := Kd.R_elem HO_3.out z91 ((ji5) : Int) p8 q8
  obtain rfl := k91_openM hM8
  have hx8_0 : wr.cell? ⟨go8, ((ji5) : Int).toNat * 3, none⟩ = some (.string ((rd_T91 x3_1 (ji5)).f0)) := hcc8 0 _ rfl
  have hx8_1 : wr.cell? ⟨go8, ((ji5) : Int).toNat * 3 + 1, none⟩ = some (.bool ((rd_T91 x3_1 (ji5)).f1)) := hcc8 1 _ rfl
  have hx8_2 : wr.cell? ⟨go8, ((ji5) : Int).toNat * 3 + 2, none⟩ = some (.bool ((rd_T91 x3_1 (ji5)).f2)) := hcc8 2 _ rfl
  have hf8_0 : wr.frozen? ⟨go8, ((ji5) : Int).toNat * 3, none⟩ = false := hfr8 0
  have hf8_1 : wr.frozen? ⟨go8, ((ji5) : Int).toNat * 3 + 1, none⟩ = false := hfr8 1
  have hf8_2 : wr.frozen? ⟨go8, ((ji5) : Int).toNat * 3 + 2, none⟩ = false := hfr8 2
  clear hcl8 hcc8 hfr8 hM8
  replace p8 := eq_true p8
  replace q8 := eq_true q8
  have p10 : 0 ≤ (x4_1 : Int) := dA
  have q10 : x4_1 < (a0.size : Int) := dA
  have hx10 := bt_at a0 x4_1
  replace p10 := eq_true p10
  replace q10 := eq_true q10
  have p16 : 0 ≤ (x4_1 : Int) := dA
  have q16 : x4_1 < (a0.size : Int) := dA
  have hx16 := bt_at a0 x4_1
  replace p16 := eq_true p16
  replace q16 := eq_true q16
  try go_wp2
  replace HO_3 := Aside0.mk (Kd.R_drew HO_3.out)
  replace HB := Aside0.mk (below_drew1 HB.out)
  have p299 : 0 ≤ ((ji5) : Int) := dA
  have q299 : (ji5) < (x3_1.length : Int) := dA
  obtain ⟨ad299, e299, hx299_0, hx299_1, hx299_2⟩ := at_T91 (Kd.R_reads' HO_3.out).2.2 (ji5) p299 q299
  obtain rfl : (⟨go8, 0, none⟩ : Addr) = ad299 := (by injection e299)
  (first | simp only [add_plain] at hx299_0 | simp only [add_at] at hx299_0 | simp only [Addr.add, Nat.zero_add] at hx299_0 | skip)
  (first | simp only [add_plain] at hx299_1 | simp only [add_at] at hx299_1 | simp only [Addr.add, Nat.zero_add] at hx299_1 | skip)
  (first | simp only [add_plain] at hx299_2 | simp only [add_at] at hx299_2 | simp only [Addr.add, Nat.zero_add] at hx299_2 | skip)
  replace p299 := eq_true p299
  replace q299 := eq_true q299
  have p302 : 0 ≤ ((ji5) : Int) := dA
  have q302 : (ji5) < (x3_1.length : Int) := dA
  obtain ⟨ad302, e302, hx302_0, hx302_1, hx302_2⟩ := at_T91 (Kd.R_reads' HO_3.out).2.2 (ji5) p302 q302
  obtain rfl : (⟨go8, 0, none⟩ : Addr) = ad302 := (by injection e302)
  (first | simp only [add_plain] at hx302_0 | simp only [add_at] at hx302_0 | simp only [Addr.add, Nat.zero_add] at hx302_0 | skip)
  (first | simp only [add_plain] at hx302_1 | simp only [add_at] at hx302_1 | simp only [Addr.add, Nat.zero_add] at hx302_1 | skip)
  (first | simp only [add_plain] at hx302_2 | simp only [add_at] at hx302_2 | simp only [Addr.add, Nat.zero_add] at hx302_2 | skip)
  replace p302 := eq_true p302
  replace q302 := eq_true q302
  have p303 : 0 ≤ ((ji5) : Int) := dA
  have q303 : (ji5) < (x3_1.length : Int) := dA
  obtain ⟨ad303, e303, hx303_0, hx303_1, hx303_2⟩ := at_T91 (Kd.R_reads' HO_3.out).2.2 (ji5) p303 q303
  obtain rfl : (⟨go8, 0, none⟩ : Addr) = ad303 := (by injection e303)
  (first | simp only [add_plain] at hx303_0 | simp only [add_at] at hx303_0 | simp only [Addr.add, Nat.zero_add] at hx303_0 | skip)
  (first | simp only [add_plain] at hx303_1 | simp only [add_at] at hx303_1 | simp only [Addr.add, Nat.zero_add] at hx303_1 | skip)
  (first | simp only [add_plain] at hx303_2 | simp only [add_at] at hx303_2 | simp only [Addr.add, Nat.zero_add] at hx303_2 | skip)
  replace p303 := eq_true p303
  replace q303 := eq_true q303
  have p36 : 0 ≤ ((ji33) : Int) := dA
  have q36 : (ji33) < (((rd_T91 x3_1 (ji5)).f0).size : Int) := dA
  have hx36 := bt_at ((rd_T91 x3_1 (ji5)).f0) (ji33)
  replace p36 := eq_true p36
  replace q36 := eq_true q36
  have p38 : 0 ≤ (x4_1 : Int) := dA
  have q38 : x4_1 < (a0.size : Int) := dA
  have hx38 := bt_at a0 x4_1
  replace p38 := eq_true p38
  replace q38 := eq_true q38
  refine start_ (n := 24) (S := fun w' => w'.cell? ⟨go8, ((ji5)).toNat * 3, none⟩ = some (.string ((rd_T91 x3_1 (ji5)).f0)) ∧ w'.cell? ⟨go8, ((ji5)).toNat * 3 + 1, none⟩ = some (.bool ((rd_T91 x3_1 (ji5)).f1)) ∧ w'.cell? ⟨go8, ((ji5)).toNat * 3 + 2, none⟩ = some (.bool ((rd_T91 x3_1 (ji5)).f2)) ∧ w'.cell? ⟨go8, ((ji5)).toNat * 3, none⟩ = some (.string ((rd_T91 x3_1 (ji5)).f0)) ∧ w'.cell? ⟨go8, ((ji5)).toNat * 3 + 1, none⟩ = some (.bool ((rd_T91 x3_1 (ji5)).f1)) ∧ w'.cell? ⟨go8, ((ji5)).toNat * 3 + 2, none⟩ = some (.bool ((rd_T91 x3_1 (ji5)).f2)) ∧ w'.cell? ⟨go8, ((ji5)).toNat * 3, none⟩ = some (.string ((rd_T91 x3_1 (ji5)).f0)) ∧ w'.cell? ⟨go8, ((ji5)).toNat * 3 + 1, none⟩ = some (.bool ((rd_T91 x3_1 (ji5)).f1)) ∧ w'.cell? ⟨go8, ((ji5)).toNat * 3 + 2, none⟩ = some (.bool ((rd_T91 x3_1 (ji5)).f2))) (ds := []) #[false, false, false, false, false, false, false, false, false, false, false, false, false, false, false, false, false, false, false, false, false, false, false, false] (by kernel_rfl) rfl rfl ⟨hx299_0, hx299_1, hx299_2, hx302_0, hx302_1, hx302_2, hx303_0, hx303_1, hx303_2⟩ (fun hHeld => ?_); refine with_tabW newelref05_parts.tab8 newelref05_parts.bits8 (fun HT_ HW_ => ?_)
  generalize wr.drew = w55 at HO_3 HB hx299_0 hx299_1 hx299_2 hx302_0 hx302_1 hx302_2 hx303_0 hx303_1 hx303_2 hHeld ⊢
  refine pz 0 (some 37) HT_ ?_
  refine pz 1 (some 38) HT_ ?_
  refine pz 2 (some 39) HT_ ?_
  refine tm 3 (some 40) HT_ HW_ hHeld ?_
  refine pz 4 (some 41) HT_ ?_
  refine pz 5 (some 42) HT_ ?_
  refine pz 6 (some 43) HT_ ?_
  refine pz 7 (some 44) HT_ ?_
  refine pz 8 (some 45) HT_ ?_
  refine pz 10 (some 47) HT_ ?_
  refine pz 11 (some 48) HT_ ?_
  refine pz 12 (some 49) HT_ ?_
  refine pz 18 (some 55) HT_ ?_
  refine pz 19 (some 56) HT_ ?_
  refine tm 9 (some 46) HT_ HW_ hHeld ?_
  refine tm 13 (some 50) HT_ HW_ hHeld ?_
  refine pz 14 (some 51) HT_ ?_
  refine pz 15 (some 52) HT_ ?_
  refine tm 16 (some 53) HT_ HW_ hHeld ?_
  refine tm 20 (some 57) HT_ HW_ hHeld ?_
  refine on 17 (some 54) HT_ (fun K hK => ?_)
  refine goes_ Tryz.func87 (by kernel_rfl) rfl #[.int .u8 (bt ((rd_T91 x3_1 (ji5)).f0) (ji33))] (by rfl) rfl rfl (by (try simp only [List.map_toArray, List.map_cons, List.map_nil]); first | done | (simp only [hji33, hji5]; rfl) | rfl | (simp only [List.length_drop, List.length_take]; rfl)) ?_
  with_reducible refine (newelref01_Digit.calls (bt ((rd_T91 x3_1 (ji5)).f0) (ji33)) t304 _ (gS HG) A37.out).mono ?_
  rintro e w' ⟨rfl, ⟨nd, rfl⟩⟩
  refine ⟨_, rfl, ?_⟩
  refine hK.out _ _ ⟨hHeld.1, hHeld.2.1, hHeld.2.2.1, hHeld.2.2.2.1, hHeld.2.2.2.2.1, hHeld.2.2.2.2.2.1, hHeld.2.2.2.2.2.2.1, hHeld.2.2.2.2.2.2.2.1, hHeld.2.2.2.2.2.2.2.2⟩ (fun hHeld => ?_)
  clear hK K
  refine nz (some 54) ?_
  refine on 21 (some 58) HT_ (fun K hK => ?_)
  refine goes_ Tryz.func87 (by kernel_rfl) rfl #[.int .u8 (bt a0 x4_1)] (by rfl) rfl rfl mA ?_
  with_reducible refine (newelref01_Digit.calls (bt a0 x4_1) t305 _ (gS HG) A39.out).mono ?_
  rintro e w' ⟨rfl, ⟨nd, rfl⟩⟩
  refine ⟨_, rfl, ?_⟩
  refine hK.out _ _ ⟨hHeld.1, hHeld.2.1, hHeld.2.2.1, hHeld.2.2.2.1, hHeld.2.2.2.2.1, hHeld.2.2.2.2.2.1, hHeld.2.2.2.2.2.2.1, hHeld.2.2.2.2.2.2.2.1, hHeld.2.2.2.2.2.2.2.2⟩ (fun hHeld => ?_)
  clear hK K
  refine nz (some 58) ?_
  refine pz 22 (some 59) HT_ ?_
  refine pz 23 (some 60) HT_ ?_
  refine done_ (done_of HT_.out (by kernel_rfl)) ?_
  have p41 : 0 ≤ (x4_1 : Int) := dA
  have q41 : x4_1 < (a0.size : Int) := dA
  have hx41 := bt_at a0 x4_1
  replace p41 := eq_true p41
  replace q41 := eq_true q41
  try go_wp2_with (first | (refine gl (some 65) Tryz.func87 #[.int .u8 (bt a0 x4_1)] ?_; (with_reducible refine (newelref01_Digit.calls (bt a0 x4_1) t306 _ (gS HG) A42.out).mono ?_); rintro e w' ⟨rfl, ⟨nd, rfl⟩⟩; refine ⟨_, rfl, ?_⟩; (try ((try simp only [World.drewN_drewN]); (first | generalize hq_ : World.drewN w55 _ = w55 | (rw [drewN_self w55]; generalize hq_ : World.drewN w55 _ = w55)); have n0_ : Aside0 (Kd.R k91 91 w55 w.heap.size (fun _ => True) (.slice (some ⟨go8, 0, none⟩) x3_1.length co54) x3_1) := ⟨by rw [← hq_]; exact (kR HO_3)⟩; have n1_ : Aside0 (Below w.heap.size w w55) := ⟨by rw [← hq_]; exact bE⟩; clear HO_3 HB hq_; have HO_3 := n0_; have HB := n1_; clear n0_ n1_)); have p43 : 0 ≤ ((ji5) : Int) := dA; have q43 : ((ji5) : Int) < ((x3_1.length : Int) : Int) := dA; obtain ⟨ce43, hcl43, hM43, hcc43, hfr43⟩ := Kd.R_elem HO_3.out z91 ((ji5) : Int) p43 q43; obtain rfl := k91_openM hM43; have hx43_0 : w55.cell? ⟨go8, ((ji5) : Int).toNat * 3, none⟩ = some (.string ((rd_T91 x3_1 (ji5)).f0)) := hcc43 0 _ rfl; have hx43_1 : w55.cell? ⟨go8, ((ji5) : Int).toNat * 3 + 1, none⟩ = some (.bool ((rd_T91 x3_1 (ji5)).f1)) := hcc43 1 _ rfl; have hx43_2 : w55.cell? ⟨go8, ((ji5) : Int).toNat * 3 + 2, none⟩ = some (.bool ((rd_T91 x3_1 (ji5)).f2)) := hcc43 2 _ rfl; have hf43_0 : w55.frozen? ⟨go8, ((ji5) : Int).toNat * 3, none⟩ = false := hfr43 0; have hf43_1 : w55.frozen? ⟨go8, ((ji5) : Int).toNat * 3 + 1, none⟩ = false := hfr43 1; have hf43_2 : w55.frozen? ⟨go8, ((ji5) : Int).toNat * 3 + 2, none⟩ = false := hfr43 2; clear hcl43 hcc43 hfr43 hM43; replace p43 := eq_true p43; replace q43 := eq_true q43; have HX56 := Aside0.mk (show Kd.R k91 91 w55 w.heap.size (fun _ => True) (.slice (some ⟨go8, 0, none⟩) x3_1.length co54) x3_1 from (kR HO_3)); obtain ⟨ce56, hcl56, hM56, hcc56, hfr56⟩ := Kd.R_elem HX56.out z91 ((ji5) : Int) (dA) (by have h_ : ((ji5) : Int) < ((x3_1.length : Int) : Int) := dA; first | exact h_ | (have e_ := (Kd.R_reads' HO_3.out).1; omega) | simpa using h_); obtain rfl := k91_openM hM56; have HP56 := Kd.R_seg HX56.out ((ji5) : Int) (dA) (by have h_ : ((ji5) : Int) < ((x3_1.length : Int) : Int) := dA; first | exact h_ | (have e_ := (Kd.R_reads' HO_3.out).1; omega) | simpa using h_) (seg := [.bool t306]) (j := 2) hcl56 hcc56 (show 3 ≤ 3 from by decide) (x' := (⟨(rd_T91 x3_1 (ji5)).f0, (rd_T91 x3_1 (ji5)).f1, t306⟩ : S91)) (k91_mkM _ _ _ (⟨(rd_T91 x3_1 (ji5)).f0, (rd_T91 x3_1 (ji5)).f1, t306⟩ : S91) ) (fun _ hk => hk); have hx56_2 := hcc56 2 _ rfl; (try simp only [show (k91).sz = 3 from rfl, Nat.mul_one, Nat.add_zero] at hx56_2); have hf56_2 := hfr56 2; (try simp only [show (k91).sz = 3 from rfl, Nat.mul_one, Nat.add_zero] at hf56_2); clear hcl56 hcc56 hfr56 hM56) | ((with_reducible refine gate_store (t := 4) (p := 67) rfl ?_); refine store_event (t := 4) (p := 67) (v := ?vo_w57) (w1 := (w55.setCell ⟨go8, ((ji5) : Int).toNat * 3 + 2, none⟩ (.bool t306))) ?hg ?ho ?hn ?hr ?_; (case ho => rfl); (case hg => rfl); (case hn => rfl); (case hr => first | (go_simp; done) | (go_simp; rfl)); intro w57 hw; have hg : w55.grownBy w57 (some go8) := (by rw [hw]; exact HP56.2); have hp_ : Kd.R k91 91 w57 w.heap.size (fun _ => True) (.slice (some ⟨go8, 0, none⟩) x3_1.length co54) y307 := (by rw [hw, Ny307.out]; exact HP56.1); clear HP56; replace HO_3 := Aside0.mk (hp_); replace HB := Aside0.mk ((by rw [hw]; exact below_set (HB.out) GB8.out : Below w.heap.size w w57)); clear hg hw hp_) | ((with_reducible refine gate_builtin (b := .append) (xs := #[.tmp 68, .tmp 70]) rfl ?_); (try (refine gate_guard (by rfl) ?_; dsimp only)); at_builtin; refine Kd.R_append k91 (w0 := w) w.heap.size rfl (.tmp 68) (.tmp 70) 87 91 (.agg #[(.string ⟨#[]⟩), (.bool false), (.bool false)]) 24 rfl Tryz.underlying87 info91 rfl (by decide) (by omega) (.slice (some ⟨go8, 0, none⟩) x3_1.length co54) y307 (⟨(⟨#[]⟩ : ByteArray), true, false⟩ : S91) [.string (⟨#[]⟩ : ByteArray), .bool true, .bool false] (fun _ => True) (fun _ => False) rfl rfl ?aP (fun _ hk => hk.elim) ?aF ?aO ?aB ?aS ?aL ?_; (case aP => exact k91_mkM _ _ _ (⟨(⟨#[]⟩ : ByteArray), true, false⟩ : S91)); (case aB => exact bE); (case aF => exact (fun _ _ => trivial)); (case aO => exact (kR HO_3)); (case aS => exact (below_size bE)); (case aL => have := LMc44.out; omega); intro v309 w58 ho hb hg hat; rw [← Ny308.out] at ho; replace HB := Aside0.mk (hb); have HO310 := Aside0.mk (ho); clear HO_3; clear ho hb hg hat; obtain ⟨Ao59, co59, eo59⟩ := Kd.R_slice HO310.out; subst eo59; have p48 : 0 ≤ ((ji45) : Int) := dA; have q48 : ((ji45) : Int) < ((y308.length : Int) : Int) := dA; obtain ⟨go48, co48, eo48, gb48, gl48, cl48, HG48⟩ := Kd.R_form HO310.out (by omega); (first | cases eo48 | (injection eo48 with ea_ en_ ec_; (first | subst ea_ | (injection ea_ with ea_; subst ea_)); subst ec_; clear en_)); have GB48 := Aside0.mk gb48; have GG48 := Aside0.mk HG48; clear gb48 gl48 HG48; obtain ⟨ce48, hcl48, hM48, hcc48, hfr48⟩ := Kd.R_elem HO310.out z91 ((ji45) : Int) p48 q48; obtain rfl := k91_openM hM48; have hx48_0 : w58.cell? ⟨go48, ((ji45) : Int).toNat * 3, none⟩ = some (.string ((rd_T91 y308 (ji45)).f0)) := hcc48 0 _ rfl; have hx48_1 : w58.cell? ⟨go48, ((ji45) : Int).toNat * 3 + 1, none⟩ = some (.bool ((rd_T91 y308 (ji45)).f1)) := hcc48 1 _ rfl; have hx48_2 : w58.cell? ⟨go48, ((ji45) : Int).toNat * 3 + 2, none⟩ = some (.bool ((rd_T91 y308 (ji45)).f2)) := hcc48 2 _ rfl; have hf48_0 : w58.frozen? ⟨go48, ((ji45) : Int).toNat * 3, none⟩ = false := hfr48 0; have hf48_1 : w58.frozen? ⟨go48, ((ji45) : Int).toNat * 3 + 1, none⟩ = false := hfr48 1; have hf48_2 : w58.frozen? ⟨go48, ((ji45) : Int).toNat * 3 + 2, none⟩ = false := hfr48 2; clear hcl48 hcc48 hfr48 hM48; replace p48 := eq_true p48; replace q48 := eq_true q48))
  replace HO310 := Aside0.mk (Kd.R_drew HO310.out)
  replace HB := Aside0.mk (below_drew1 HB.out)
  have p311 : 0 ≤ ((ji45) : Int) := dA
  have q311 : (ji45) < (y308.length : Int) := dA
  obtain ⟨ad311, e311, hx311_0, hx311_1, hx311_2⟩ := at_T91 (Kd.R_reads' HO310.out).2.2 (ji45) p311 q311
  obtain rfl : (⟨go48, 0, none⟩ : Addr) = ad311 := (by injection e311)
  (first | simp only [add_plain] at hx311_0 | simp only [add_at] at hx311_0 | simp only [Addr.add, Nat.zero_add] at hx311_0 | skip)
  (first | simp only [add_plain] at hx311_1 | simp only [add_at] at hx311_1 | simp only [Addr.add, Nat.zero_add] at hx311_1 | skip)
  (first | simp only [add_plain] at hx311_2 | simp only [add_at] at hx311_2 | simp only [Addr.add, Nat.zero_add] at hx311_2 | skip)
  replace p311 := eq_true p311
  replace q311 := eq_true q311
  have p53 : 0 ≤ ((ji45) : Int) := dA
  have q53 : ((ji45) : Int) < ((y308.length : Int) : Int) := dA
  obtain ⟨ce53, hcl53, hM53, hcc53, hfr53⟩ := Kd.R_elem HO310.out z91 ((ji45) : Int) p53 q53
  obtain rfl := k91_openM hM53
  have hx53_0 : World.cell? _ ⟨go48, ((ji45) : Int).toNat * 3, none⟩ = some (.string ((rd_T91 y308 (ji45)).f0)) := hcc53 0 _ rfl
  have hx53_1 : World.cell? _ ⟨go48, ((ji45) : Int).toNat * 3 + 1, none⟩ = some (.bool ((rd_T91 y308 (ji45)).f1)) := hcc53 1 _ rfl
  have hx53_2 : World.cell? _ ⟨go48, ((ji45) : Int).toNat * 3 + 2, none⟩ = some (.bool ((rd_T91 y308 (ji45)).f2)) := hcc53 2 _ rfl
  have hf53_0 : World.frozen? _ ⟨go48, ((ji45) : Int).toNat * 3, none⟩ = false := hfr53 0
  have hf53_1 : World.frozen? _ ⟨go48, ((ji45) : Int).toNat * 3 + 1, none⟩ = false := hfr53 1
  have hf53_2 : World.frozen? _ ⟨go48, ((ji45) : Int).toNat * 3 + 2, none⟩ = false := hfr53 2
  clear hcl53 hcc53 hfr53 hM53
  replace p53 := eq_true p53
  replace q53 := eq_true q53
  obtain ⟨ce61, hcl61, hM61, hcc61, hfr61⟩ := Kd.R_elem HO310.out z91 ((ji45) : Int) (dA) (by have h_ : ((ji45) : Int) < ((y308.length : Int) : Int) := dA; first | exact h_ | (have e_ := (Kd.R_reads' HO310.out).1; omega) | simpa using h_)
  obtain rfl := k91_openM hM61
  have HP61 := (Kd.R_seg HO310.out ((ji45) : Int) (dA) (by have h_ : ((ji45) : Int) < ((y308.length : Int) : Int) := dA; first | exact h_ | (have e_ := (Kd.R_reads' HO310.out).1; omega) | simpa using h_) (seg := [.string (((rd_T91 y308 (ji45)).f0) ++ (a0.extract (x4_1 : Int).toNat ((wrap64 (x4_1 + 1)) : Int).toNat))]) (j := 0) hcl61 hcc61 (show 1 ≤ 3 from by decide) (x' := (⟨((rd_T91 y308 (ji45)).f0) ++ (a0.extract (x4_1 : Int).toNat ((wrap64 (x4_1 + 1)) : Int).toNat), (rd_T91 y308 (ji45)).f1, (rd_T91 y308 (ji45)).f2⟩ : S91)) (k91_mkM _ _ _ (⟨((rd_T91 y308 (ji45)).f0) ++ (a0.extract (x4_1 : Int).toNat ((wrap64 (x4_1 + 1)) : Int).toNat), (rd_T91 y308 (ji45)).f1, (rd_T91 y308 (ji45)).f2⟩ : S91) ) (fun _ hk => hk)).1
  rw [← Ny312.out] at HP61
  have HQ61 := Aside0.mk HP61
  clear hcl61 hcc61 hfr61 hM61 HP61
  refine start_ (n := 14) (S := fun w' => w'.cell? ⟨go48, ((ji45)).toNat * 3, none⟩ = some (.string ((rd_T91 y308 (ji45)).f0)) ∧ w'.cell? ⟨go48, ((ji45)).toNat * 3 + 1, none⟩ = some (.bool ((rd_T91 y308 (ji45)).f1)) ∧ w'.cell? ⟨go48, ((ji45)).toNat * 3 + 2, none⟩ = some (.bool ((rd_T91 y308 (ji45)).f2))) (ds := [13]) #[false, false, false, false, false, false, false, false, false, false, false, false, false, false] (by kernel_rfl) rfl rfl ⟨hx311_0, hx311_1, hx311_2⟩ (fun hHeld => ?_); refine with_tabW newelref05_parts.tab12 newelref05_parts.bits12 (fun HT_ HW_ => ?_)
  generalize w58.drew = w60 at HO310 HB HQ61 hf53_0 hf53_1 hf53_2 hx311_0 hx311_1 hx311_2 hx53_0 hx53_1 hx53_2 hHeld ⊢
  refine pz 0 (some 77) HT_ ?_
  refine pz 1 (some 78) HT_ ?_
  refine pz 2 (some 79) HT_ ?_
  refine pz 3 (some 80) HT_ ?_
  refine pz 5 (some 82) HT_ ?_
  refine pz 6 (some 83) HT_ ?_
  refine pz 7 (some 84) HT_ ?_
  refine pz 8 (some 85) HT_ ?_
  refine pz 9 (some 86) HT_ ?_
  refine tm 4 (some 81) HT_ HW_ hHeld ?_
  refine pz 10 (some 87) HT_ ?_
  refine pz 11 (some 88) HT_ ?_
  refine pz 12 (some 89) HT_ ?_
  refine last_ (i := 13) (N := none) #[true, true, true, true, true, true, true, true, true, true, true, true, true, true] rfl rfl (one_of HT_.out (by kernel_rfl)) (by decide) (fun K hK => ?_)
  refine skip_ (w1 := ?_) (by rfl) rfl ?_ ?_
  rotate_left
  ·go_simp
   rfl
  refine hK.out _ _ ?_
  clear hK K
  refine done_ (done_of HT_.out (by kernel_rfl)) ?_
  try go_wp2
  go_roundg k1
  case measure => have := HK1.out; omega
  case rel => exact ⟨(y312), (wrap64 (x4_1 + 1)), cA, H', ⟨by have := HK1.out; omega⟩, ⟨by (with_reducible repeat (first | apply Kd.R_alloc | apply Kd.R_drewN | apply Kd.R_drew)); exact HQ61.out⟩, ⟨by repeat (first | (with_reducible first | exact HB.out | apply below_alloc | apply pw_below_drewN | apply below_drew1 | refine below_set ?_ GB48.out) | exact HB.out)⟩⟩
def newelref01_Lower.l0 : Nat → ByteArray → List Int → Int → Option (ByteArray)
 | 0, _, _, _ => none
 | k + 1, x0, x3, x4 => if x4 < (x0.size : Int) then (if 0 ≤ x4 then (if (bt x0 x4) ≥ 65 then (if (bt x0 x4) ≤ 90 then (if x3.length < 140737488355328 then (newelref01_Lower.l0 k x0 (x3 ++ [((bt x0 x4) + 32) % 256]) (wrap64 (x4 + 1))) else (none)) else (if x3.length < 140737488355328 then (newelref01_Lower.l0 k x0 (x3 ++ [bt x0 x4]) (wrap64 (x4 + 1))) else (none))) else (if x3.length < 140737488355328 then (newelref01_Lower.l0 k x0 (x3 ++ [bt x0 x4]) (wrap64 (x4 + 1))) else (none))) else (none)) else (some (strOfNums x3))
def newelref01_Lower.f (k : Nat) (a0 : ByteArray) : Option (ByteArray) := newelref01_Lower.l0 k a0 ([] : List Int) 0
theorem newelref01_Lower.mono_l : ∀ k, (∀ y0 y1 y2, LeO (newelref01_Lower.l0 k y0 y1 y2) (newelref01_Lower.l0 (k + 1) y0 y1 y2))
 | 0 => fun _ _ _ r h => by simp [newelref01_Lower.l0] at h
 | k + 1 => by
  have ih0 := newelref01_Lower.mono_l k
  ·intro y0 y1 y2
   unfold newelref01_Lower.l0
   exact mo
theorem newelref01_Lower.mono : ∀ a0 k, LeO (newelref01_Lower.f k a0) (newelref01_Lower.f (k + 1) a0) := by
 intro a0 k
 have ih0 := newelref01_Lower.mono_l k
 unfold newelref01_Lower.f
 exact mo
theorem newelref01_Lower.calls (k : Nat) (a0 : ByteArray) (r : ByteArray) (w : World) (hG : Glob w) (h : newelref01_Lower.f k a0 = some r) :
 Calls Tryz.prog 66 #[.string a0] w fun e w' => e = .returned (.string r) ∧ Below w.heap.size w w' := by
 have HG := Aside0.mk hG
 clear hG
 have HB := Aside0.mk (Below.refl w.heap.size w)
 have H : (newelref01_Lower.l0 k a0 ([] : List Int) 0) = some r := h
 clear h
 have H' := Aside0.mk H
 clear H
 go_enter Tryz.func66, Tryz.ntmps66
 go_wp2
 go_loopg [3, 4] k (fun kq v3 v4 w' => ∃ (x3_1 : List Int) (x4_1 : Int), v4 = .int .i64 x4_1 ∧ Aside0 (newelref01_Lower.l0 kq a0 x3_1 x4_1 = some r) ∧ Aside0 (kq ≤ k) ∧ Aside0 (Kd.R (Kd.int .u8) 5 w' w.heap.size (fun _ => True) v3 x3_1) ∧ Aside0 (Below w.heap.size w w'))
 case atStart => exact ⟨(([] : List Int)), (0), cA, H', ⟨Nat.le_refl _⟩, ⟨by first | exact Kd.R_nil _ _ _ _ _ | exact Kd.N_nil _ _ _ _ _ | exact Kd.V_nil _ _ _ _ _ | exact Kd.Q_nil _ _ _ _ _ | exact Kd.S_nil _ _ _ _ _⟩, ⟨bE⟩⟩
 clear H'
 obtain ⟨x3_1, x4_1, rfl, HA, HK1, HO_3, HB⟩ := hrel
 cases gk with
 | zero => exact absurd HA.out (by simp [newelref01_Lower.l0])
 | succ k1 =>
  have H := HA.out
  clear HA
  simp only [newelref01_Lower.l0] at H
  (try simp only [toList_lit] at H)
  by_cases c2 : x4_1 < (a0.size : Int)
  rotate_left
  ·rw [if_neg c2] at H
   have c2b0 := dF c2
   clear c2
   obtain rfl := Option.some.inj H
   have hcv13 := own_string (P := Tryz.prog) Tryz.underlying60 Tryz.underlying5 Tryz.underlying9 (Kd.own_of_R HO_3.out)
   go_wp2
   go_ret
   exact ⟨eA, bE⟩
  rw [if_pos c2] at H
  have c2b0 := dT c2
  clear c2
  obtain ⟨c3, H⟩ := gp H
  have c3b0 := dT c3
  clear c3
  by_cases c5 : (bt a0 x4_1) ≥ 65
  rotate_left
  ·rw [if_neg c5] at H
   have c5b0 := dF c5
   clear c5
   obtain ⟨c11, H⟩ := gp H
   have LMc11 := Aside0.mk c11
   clear c11
   obtain ⟨y287, hy287⟩ : ∃ y_ : List Int, y_ = (x3_1 ++ [bt a0 x4_1]) := ⟨_, rfl⟩
   replace H : (newelref01_Lower.l0 k1 a0 y287 (wrap64 (x4_1 + 1))) = some r := by first | (rw [hy287]; with_reducible exact H) | (have H2_ := (Option.bind_some _ _).symm.trans H; rw [hy287]; with_reducible exact H2_) | (have H2_ := (Option.bind_some _ _).symm.trans H; with_reducible exact H2_) | with_reducible exact H | (rw [hy287]; exact H) | exact H
   have Ny287 := Aside0.mk hy287
   clear hy287
   have H' := Aside0.mk H
   clear H
   have p4 : 0 ≤ (x4_1 : Int) := dA
   have q4 : x4_1 < (a0.size : Int) := dA
   have hx4 := bt_at a0 x4_1
   replace p4 := eq_true p4
   replace q4 := eq_true q4
   go_wp2_with (first | ((with_reducible refine gate_builtin (b := .append) (xs := #[.tmp 23, .tmp 25]) rfl ?_); at_builtin; refine Kd.R_append (Kd.int .u8) (w0 := w) w.heap.size rfl (.tmp 23) (.tmp 25) 60 5 (.int .u8 0) 1 rfl Tryz.underlying60 info5 rfl (by decide) (by omega) u3 x3_1 (bt a0 x4_1) [.int .u8 (bt a0 x4_1)] (fun _ => True) (fun _ => False) rfl rfl ?aP (fun _ hk => hk.elim) ?aF ?aO ?aB ?aS ?aL ?_; (case aP => exact rfl); (case aB => exact bE); (case aF => exact (fun _ _ => trivial)); (case aO => exact (kR HO_3)); (case aS => exact (below_size bE)); (case aL => have := LMc11.out; omega); intro v288 w12 ho hb hg hat; rw [← Ny287.out] at ho; replace HB := Aside0.mk (hb); have HO289 := Aside0.mk (ho); clear HO_3; clear ho hb hg hat))
   go_roundg k1
   case measure => have := HK1.out; omega
   case rel => exact ⟨(y287), (wrap64 (x4_1 + 1)), cA, H', ⟨by have := HK1.out; omega⟩, ⟨kR HO289⟩, ⟨bE⟩⟩
  rw [if_pos c5] at H
  have c5b0 := dT c5
  clear c5
  by_cases c6 : (bt a0 x4_1) ≤ 90
  rotate_left
  ·rw [if_neg c6] at H
   have c6b0 := dF c6
   clear c6
   obtain ⟨c9, H⟩ := gp H
   have LMc9 := Aside0.mk c9
   clear c9
   obtain ⟨y284, hy284⟩ : ∃ y_ : List Int, y_ = (x3_1 ++ [bt a0 x4_1]) := ⟨_, rfl⟩
   replace H : (newelref01_Lower.l0 k1 a0 y284 (wrap64 (x4_1 + 1))) = some r := by first | (rw [hy284]; with_reducible exact H) | (have H2_ := (Option.bind_some _ _).symm.trans H; rw [hy284]; with_reducible exact H2_) | (have H2_ := (Option.bind_some _ _).symm.trans H; with_reducible exact H2_) | with_reducible exact H | (rw [hy284]; exact H) | exact H
   have Ny284 := Aside0.mk hy284
   clear hy284
   have H' := Aside0.mk H
   clear H
   have p4 : 0 ≤ (x4_1 : Int) := dA
   have q4 : x4_1 < (a0.size : Int) := dA
   have hx4 := bt_at a0 x4_1
   replace p4 := eq_true p4
   replace q4 := eq_true q4
   go_wp2_with (first | ((with_reducible refine gate_builtin (b := .append) (xs := #[.tmp 23, .tmp 25]) rfl ?_); at_builtin; refine Kd.R_append (Kd.int .u8) (w0 := w) w.heap.size rfl (.tmp 23) (.tmp 25) 60 5 (.int .u8 0) 1 rfl Tryz.underlying60 info5 rfl (by decide) (by omega) u3 x3_1 (bt a0 x4_1) [.int .u8 (bt a0 x4_1)] (fun _ => True) (fun _ => False) rfl rfl ?aP (fun _ hk => hk.elim) ?aF ?aO ?aB ?aS ?aL ?_; (case aP => exact rfl); (case aB => exact bE); (case aF => exact (fun _ _ => trivial)); (case aO => exact (kR HO_3)); (case aS => exact (below_size bE)); (case aL => have := LMc9.out; omega); intro v285 w10 ho hb hg hat; rw [← Ny284.out] at ho; replace HB := Aside0.mk (hb); have HO286 := Aside0.mk (ho); clear HO_3; clear ho hb hg hat))
   go_roundg k1
   case measure => have := HK1.out; omega
   case rel => exact ⟨(y284), (wrap64 (x4_1 + 1)), cA, H', ⟨by have := HK1.out; omega⟩, ⟨kR HO286⟩, ⟨bE⟩⟩
  rw [if_pos c6] at H
  have c6b0 := dT c6
  clear c6
  obtain ⟨c7, H⟩ := gp H
  have LMc7 := Aside0.mk c7
  clear c7
  obtain ⟨y281, hy281⟩ : ∃ y_ : List Int, y_ = (x3_1 ++ [((bt a0 x4_1) + 32) % 256]) := ⟨_, rfl⟩
  replace H : (newelref01_Lower.l0 k1 a0 y281 (wrap64 (x4_1 + 1))) = some r := by first | (rw [hy281]; with_reducible exact H) | (have H2_ := (Option.bind_some _ _).symm.trans H; rw [hy281]; with_reducible exact H2_) | (have H2_ := (Option.bind_some _ _).symm.trans H; with_reducible exact H2_) | with_reducible exact H | (rw [hy281]; exact H) | exact H
  have Ny281 := Aside0.mk hy281
  clear hy281
  have H' := Aside0.mk H
  clear H
  have p4 : 0 ≤ (x4_1 : Int) := dA
  have q4 : x4_1 < (a0.size : Int) := dA
  have hx4 := bt_at a0 x4_1
  replace p4 := eq_true p4
  replace q4 := eq_true q4
  go_wp2_with (first | ((with_reducible refine gate_builtin (b := .append) (xs := #[.tmp 23, .tmp 25]) rfl ?_); at_builtin; refine Kd.R_append (Kd.int .u8) (w0 := w) w.heap.size rfl (.tmp 23) (.tmp 25) 60 5 (.int .u8 0) 1 rfl Tryz.underlying60 info5 rfl (by decide) (by omega) u3 x3_1 (((bt a0 x4_1) + 32) % 256) [.int .u8 (((bt a0 x4_1) + 32) % 256)] (fun _ => True) (fun _ => False) rfl rfl ?aP (fun _ hk => hk.elim) ?aF ?aO ?aB ?aS ?aL ?_; (case aP => exact rfl); (case aB => exact bE); (case aF => exact (fun _ _ => trivial)); (case aO => exact (kR HO_3)); (case aS => exact (below_size bE)); (case aL => have := LMc7.out; omega); intro v282 w8 ho hb hg hat; rw [← Ny281.out] at ho; replace HB := Aside0.mk (hb); have HO283 := Aside0.mk (ho); clear HO_3; clear ho hb hg hat))
  go_roundg k1
  case measure => have := HK1.out; omega
  case rel => exact ⟨(y281), (wrap64 (x4_1 + 1)), cA, H', ⟨by have := HK1.out; omega⟩, ⟨kR HO283⟩, ⟨bE⟩⟩
mutual
def newelref05_number.j1 : Nat → ByteArray → ByteArray → Bool → Bool → Option (Int × ByteArray)
 | 0, _, _, _, _ => none
 | k + 1, x3, x316000, x316001, x316002 => if x3.toList = ([] : List UInt8) then (some (6, (⟨#[]⟩ : ByteArray))) else (if x316001 = true then (some (9, x3)) else (some (10, x3)))
def newelref05_number.l0 : Nat → ByteArray → ByteArray → Bool → Bool → Option (Int × ByteArray)
 | 0, _, _, _, _ => none
 | k + 1, x3, x316000, x316001, x316002 => if (x3.size : Int) > 0 then (if 0 < (x3.size : Int) then (if (bt x3 0) = 48 then (if 1 ≤ (x3.size : Int) then (newelref05_number.l0 k (x3.extract 1 x3.size) x316000 x316001 x316002) else (none)) else (newelref05_number.j1 k x3 x316000 x316001 x316002)) else (none)) else (newelref05_number.j1 k x3 x316000 x316001 x316002)
end
def newelref05_number.f (k : Nat) (a0_0 : ByteArray) (a0_1 : Bool) (a0_2 : Bool) : Option (Int × ByteArray) := newelref05_number.l0 k a0_0 a0_0 a0_1 a0_2
theorem newelref05_number.mono_l : ∀ k, (∀ y0 y1 y2 y3, LeO (newelref05_number.j1 k y0 y1 y2 y3) (newelref05_number.j1 (k + 1) y0 y1 y2 y3)) ∧ (∀ y0 y1 y2 y3, LeO (newelref05_number.l0 k y0 y1 y2 y3) (newelref05_number.l0 (k + 1) y0 y1 y2 y3))
 | 0 => ⟨fun _ _ _ _ r h => by simp [newelref05_number.j1] at h, fun _ _ _ _ r h => by simp [newelref05_number.l0] at h⟩
 | k + 1 => by
  obtain ⟨ih0, ih1⟩ := newelref05_number.mono_l k
  refine ⟨?_, ?_⟩
  ·intro y0 y1 y2 y3
   unfold newelref05_number.j1
   exact mo
  ·intro y0 y1 y2 y3
   unfold newelref05_number.l0
   exact mo
theorem newelref05_number.mono : ∀ a0 a1 a2 k, LeO (newelref05_number.f k a0 a1 a2) (newelref05_number.f (k + 1) a0 a1 a2) := by
 intro a0 a1 a2 k
 obtain ⟨ih0, ih1⟩ := newelref05_number.mono_l k
 unfold newelref05_number.f
 exact mo
theorem newelref05_number.calls (k : Nat) (a0_0 : ByteArray) (a0_1 : Bool) (a0_2 : Bool) (r1 : Int) (r2 : ByteArray) (w : World) (hG : Glob w) (h : newelref05_number.f k a0_0 a0_1 a0_2 = some (r1, r2)) :
 Calls Tryz.prog 88 #[.agg #[.string a0_0, .bool a0_1, .bool a0_2]] w fun e w' => e = .returned (.agg #[.int .i64 r1, .string r2]) ∧ Below w.heap.size w w' := by
 have hu91 := Tryz.underlying91
 have hu85 := Tryz.underlying85
 have HG := Aside0.mk hG
 clear hG
 have HB := Aside0.mk (Below.refl w.heap.size w)
 have H : (newelref05_number.l0 k a0_0 a0_0 a0_1 a0_2) = some (r1, r2) := h
 clear h
 have HC2 := Aside0.mk H
 clear H
 go_enter Tryz.func88, Tryz.ntmps88
 go_upto_block 0 with (first | (refine be 1 #[.string a0_0, .bool a0_1, .bool a0_2] 91 ?_; intro gb315 hg w3 hbox hb; have BK315 := Aside0.mk (hbox); have GW315 := gW hg; have GE315 := gW hg; replace HB := sB hb; clear hb hbox hg) | (refine be 2 #[.int .i64 0, .string (⟨#[]⟩ : ByteArray)] 85 ?_; intro gb316 hg w4 hbox hb; have BK316 := Aside0.mk (hbox); have GW316 := gW hg; have GE316 := gW hg; replace HB := sB hb; have NB315_316 := nL BK315 hg; have NB316_315 := nG BK315 hg; replace BK315 := kB BK315 hb; clear hb hbox hg; have hnb5 := NB315_316.out; have hnc5 := NB316_315.out; have hcz6_0 : w4.cell? ⟨gb315, 0, none⟩ = some (.string a0_0) := (blk_cell BK315.out 0).trans rfl; have hcz6_1 : w4.cell? ⟨gb315, 1, none⟩ = some (.bool a0_1) := (blk_cell BK315.out 1).trans rfl; have hcz6_2 : w4.cell? ⟨gb315, 2, none⟩ = some (.bool a0_2) := (blk_cell BK315.out 2).trans rfl; have hfz6_0 := blk_frozen BK315.out 0; have hfz6_1 := blk_frozen BK315.out 1; have hfz6_2 := blk_frozen BK315.out 2))
 (try simp only [Act.put, List.setIfInBounds_toArray, List.set_cons_zero, List.set_cons_succ])
 go_cut [3] (fun v3 wc => ∃ (kq : Nat) (x3_1 : ByteArray), v3 = .string x3_1 ∧ Aside0 (newelref05_number.j1 kq x3_1 a0_0 a0_1 a0_2 = some (r1, r2)) ∧ Aside0 (kq ≤ k) ∧ Aside0 (wc.heap[gb315]? = some (.cells #[.string a0_0, .bool a0_1, .bool a0_2] 91 (0, 0))) ∧ Aside0 (wc.heap[gb316]? = some (.cells #[.int .i64 0, .string (⟨#[]⟩ : ByteArray)] 85 (0, 0))) ∧ Aside0 (Below w.heap.size w wc))
 case first =>
  have H := HC2.out
  clear HC2
  have H' := Aside0.mk H
  clear H
  go_wp2
  go_loopg [3] k (fun kq v3 w' => ∃ (x3_1 : ByteArray), v3 = .string x3_1 ∧ Aside0 (newelref05_number.l0 kq x3_1 a0_0 a0_1 a0_2 = some (r1, r2)) ∧ Aside0 (kq ≤ k) ∧ Aside0 (w'.heap[gb315]? = some (.cells #[.string a0_0, .bool a0_1, .bool a0_2] 91 (0, 0))) ∧ Aside0 (w'.heap[gb316]? = some (.cells #[.int .i64 0, .string (⟨#[]⟩ : ByteArray)] 85 (0, 0))) ∧ Aside0 (Below w.heap.size w w'))
  case atStart => exact ⟨(a0_0), cA, H', ⟨Nat.le_refl _⟩, ⟨bK BK315⟩, ⟨bK BK316⟩, ⟨bG⟩⟩
  clear H'
  try clear p2
  try clear c5
  try clear hcz6_0
  try clear hcz6_1
  try clear hcz6_2
  try clear hfz6_0
  try clear hfz6_1
  try clear hfz6_2
  obtain ⟨x3_1, rfl, HA, HK1, BK315, BK316, HB⟩ := hrel
  cases gk with
  | zero => exact absurd HA.out (by simp [newelref05_number.l0])
  | succ k1 =>
   have H := HA.out
   clear HA
   simp only [newelref05_number.l0] at H
   (try simp only [toList_lit] at H)
   by_cases c7 : (x3_1.size : Int) > 0
   rotate_left
   ·rw [if_neg c7] at H
    have c7b0 := dF c7
    have c7b1 : decide (0 < x3_1.size) = false := decide_eq_false (by omega)
    clear c7
    (first | rw [c7b0] | (simp only [i64_w, i32_w]; rw [c7b0]) | skip)
    have H' := Aside0.mk H
    clear H
    go_wp2
    go_meet
    case rel => exact ⟨_, (x3_1), cA, H', ⟨by have := HK1.out; first | omega | exact Nat.le_refl _⟩, ⟨bK BK315⟩, ⟨bK BK316⟩, ⟨bG⟩⟩
   rw [if_pos c7] at H
   have c7b0 := dT c7
   have c7b1 : decide (0 < x3_1.size) = true := decide_eq_true (by omega)
   clear c7
   (first | rw [c7b0] | (simp only [i64_w, i32_w]; rw [c7b0]) | skip)
   obtain ⟨c8, H⟩ := gp H
   have c8b0 := dT c8
   have c8b1 : decide (0 < x3_1.size) = true := decide_eq_true (by omega)
   clear c8
   by_cases c10 : (bt x3_1 0) = 48
   rotate_left
   ·rw [if_neg c10] at H
    obtain ⟨c10b0, c10b1⟩ := eqF c10
    have H' := Aside0.mk H
    clear H
    have p9 : 0 ≤ (0 : Int) := (by omega)
    have q9 : 0 < x3_1.size := (by have : (0 : Int) < (x3_1.size : Int) := dA; omega)
    have hx9 : ∀ h : 0 < x3_1.size, ((x3_1[0]'h).toNat : Int) = bt x3_1 0 := bt_at x3_1 0
    clear p9
    have qi9 : (0 < (x3_1.size : Int)) = True := eq_true (dA)
    replace q9 := eq_true q9
    go_wp2
    go_meet
    case rel => exact ⟨_, (x3_1), cA, H', ⟨by have := HK1.out; first | omega | exact Nat.le_refl _⟩, ⟨bK BK315⟩, ⟨bK BK316⟩, ⟨bG⟩⟩
   rw [if_pos c10] at H
   obtain ⟨c10b0, c10b1⟩ := eqT c10
   clear c10
   obtain ⟨c11, H⟩ := gp H
   have c11b0 := eq_true c11
   have c11b1 := dT c11
   clear c11
   have H' := Aside0.mk H
   clear H
   have p9 : 0 ≤ (0 : Int) := (by omega)
   have q9 : 0 < x3_1.size := (by have : (0 : Int) < (x3_1.size : Int) := dA; omega)
   have hx9 : ∀ h : 0 < x3_1.size, ((x3_1[0]'h).toNat : Int) = bt x3_1 0 := bt_at x3_1 0
   clear p9
   have qi9 : (0 < (x3_1.size : Int)) = True := eq_true (dA)
   replace q9 := eq_true q9
   go_wp2
   go_roundg k1
   case measure => have := HK1.out; omega
   case rel => exact ⟨(x3_1.extract 1 x3_1.size), cA, H', ⟨by have := HK1.out; omega⟩, ⟨bK BK315⟩, ⟨bK BK316⟩, ⟨bG⟩⟩
 clear HC2
 try clear c1
 try clear p2
 try clear c5
 try clear c7
 try clear c7b0
 try clear c7b1
 try clear c8
 try clear c8b0
 try clear c8b1
 try clear p9
 try clear q9
 try clear hx9
 try clear qi9
 try clear c10
 try clear c10b0
 try clear c10b1
 try clear c11
 try clear c11b0
 try clear c11b1
 try clear hcz6_0
 try clear hcz6_1
 try clear hcz6_2
 try clear hfz6_0
 try clear hfz6_1
 try clear hfz6_2
 try clear p2
 try clear p9
 try clear q9
 obtain ⟨kq, x3_1, rfl, HA, HJ1, BK315, BK316, HB⟩ := hcut
 cases kq with
 | zero => exact absurd HA.out (by simp [newelref05_number.j1])
 | succ kj1 =>
  have H := HA.out
  clear HA
  simp only [newelref05_number.j1] at H
  (try simp only [toList_lit] at H)
  by_cases c12 : x3_1.toList = ([] : List UInt8)
  ·rw [if_pos c12] at H
   obtain ⟨c12b0, c12b1⟩ := eqT c12
   (try (have c12b2 : x3_1.toList.isEmpty = true := by simpa using c12))
   clear c12
   simp only [Option.some.injEq, Prod.mk.injEq] at H
   obtain ⟨rfl, rfl⟩ := H
   have hnb13 := NB316_315.out
   have hnc13 := NB315_316.out
   obtain ⟨hcz14_0, hcz14_1, hfz14_0, hfz14_1⟩ := cells2 BK316
   go_wp2
   refine bodyPost_ret (results_cell_row rfl _ _ gb316 85 #[.int .i64 6, .string (⟨#[]⟩ : ByteArray)] (0, 0) _ rfl (bP BK316) Tryz.underlying85 rfl (by kernel_rfl)) rfl ?_
   exact ⟨eA, bG⟩
  rw [if_neg c12] at H
  obtain ⟨c12b0, c12b1⟩ := eqF c12
  (try (have c12b2 : x3_1.toList.isEmpty = false := by simpa using c12))
  by_cases c15 : a0_1 = true
  ·subst c15
   replace H : (some (9, x3_1)) = some (r1, r2) := by rw [if_pos rfl] at H; exact H
   simp only [Option.some.injEq, Prod.mk.injEq] at H
   obtain ⟨rfl, rfl⟩ := H
   have hnb16 := NB315_316.out
   have hnc16 := NB316_315.out
   obtain ⟨hcz17_0, hcz17_1, hcz17_2, hfz17_0, hfz17_1, hfz17_2⟩ := cells3 BK315
   obtain ⟨hcz18_0, hcz18_1, hfz18_0, hfz18_1⟩ := cells2 BK316
   go_wp2
   refine bodyPost_ret (results_cell_row rfl _ _ gb316 85 #[.int .i64 9, .string x3_1] (0, 0) _ rfl (bP BK316) Tryz.underlying85 rfl (by kernel_rfl)) rfl ?_
   exact ⟨eA, bG⟩
  replace c15 := Bool.eq_false_iff.mpr c15
  subst c15
  replace H : (some (10, x3_1)) = some (r1, r2) := by rw [if_neg nF] at H; exact H
  simp only [Option.some.injEq, Prod.mk.injEq] at H
  obtain ⟨rfl, rfl⟩ := H
  have hnb19 := NB315_316.out
  have hnc19 := NB316_315.out
  obtain ⟨hcz20_0, hcz20_1, hcz20_2, hfz20_0, hfz20_1, hfz20_2⟩ := cells3 BK315
  obtain ⟨hcz21_0, hcz21_1, hfz21_0, hfz21_1⟩ := cells2 BK316
  go_wp2
  refine bodyPost_ret (results_cell_row rfl _ _ gb316 85 #[.int .i64 10, .string x3_1] (0, 0) _ rfl (bP BK316) Tryz.underlying85 rfl (by kernel_rfl)) rfl ?_
  exact ⟨eA, bG⟩
mutual
def newelref05_word.j0 : Nat → Bool → ByteArray → Bool → Bool → Option (Int × ByteArray)
 | 0, _, _, _, _ => none
 | k + 1, x12, x318000, x318001, x318002 => if x12 = true then ((newelref05_number.f k x318000 x318001 x318002).bind fun bt320 => (some (bt320.1, bt320.2))) else (if x318000.toList = ([97, 108, 112, 104, 97] : List UInt8) then (newelref05_word.j3 k 1 x318000 x318001 x318002) else (if x318000.toList = ([98, 101, 116, 97] : List UInt8) then (newelref05_word.j3 k 2 x318000 x318001 x318002) else (if x318000.toList = ([109, 105, 108, 101, 115, 116, 111, 110, 101] : List UInt8) then (newelref05_word.j3 k 3 x318000 x318001 x318002) else (if x318000.toList = ([114, 99] : List UInt8) then (newelref05_word.j1 k 8 x318000 (x318000.toList == ([114, 99] : List UInt8)) x318000 x318001 x318002) else (newelref05_word.j1 k 8 x318000 (x318000.toList == ([99, 114] : List UInt8)) x318000 x318001 x318002)))))
def newelref05_word.j3 : Nat → Int → ByteArray → Bool → Bool → Option (Int × ByteArray)
 | 0, _, _, _, _ => none
 | k + 1, x3, x318000, x318001, x318002 => if x318002 = true then (if x318000.toList = ([97] : List UInt8) then (some (1, (⟨#[]⟩ : ByteArray))) else (if x318000.toList = ([98] : List UInt8) then (some (2, (⟨#[]⟩ : ByteArray))) else (if x318000.toList = ([109] : List UInt8) then (some (3, (⟨#[]⟩ : ByteArray))) else (if x3 = 8 then (some (x3, x318000)) else (some (x3, (⟨#[]⟩ : ByteArray))))))) else (if x3 = 8 then (some (x3, x318000)) else (some (x3, (⟨#[]⟩ : ByteArray))))
def newelref05_word.j1 : Nat → Int → ByteArray → Bool → ByteArray → Bool → Bool → Option (Int × ByteArray)
 | 0, _, _, _, _, _, _ => none
 | k + 1, x3, x16, x23, x318000, x318001, x318002 => if x23 = true then (newelref05_word.j3 k 4 x318000 x318001 x318002) else (if x16.toList = ([115, 110, 97, 112, 115, 104, 111, 116] : List UInt8) then (newelref05_word.j3 k 5 x318000 x318001 x318002) else (if x16.toList = ([103, 97] : List UInt8) then (newelref05_word.j2 k x3 x16 (x16.toList == ([103, 97] : List UInt8)) x318000 x318001 x318002) else (if x16.toList = ([102, 105, 110, 97, 108] : List UInt8) then (newelref05_word.j2 k x3 x16 (x16.toList == ([102, 105, 110, 97, 108] : List UInt8)) x318000 x318001 x318002) else (newelref05_word.j2 k x3 x16 (x16.toList == ([114, 101, 108, 101, 97, 115, 101] : List UInt8)) x318000 x318001 x318002))))
def newelref05_word.j2 : Nat → Int → ByteArray → Bool → ByteArray → Bool → Bool → Option (Int × ByteArray)
 | 0, _, _, _, _, _, _ => none
 | k + 1, x3, x16, x28, x318000, x318001, x318002 => if x28 = true then (newelref05_word.j3 k 6 x318000 x318001 x318002) else (if x16.toList = ([115, 112] : List UInt8) then (newelref05_word.j3 k 7 x318000 x318001 x318002) else (newelref05_word.j3 k x3 x318000 x318001 x318002))
end
def newelref05_word.f (k : Nat) (a0_0 : ByteArray) (a0_1 : Bool) (a0_2 : Bool) : Option (Int × ByteArray) := if a0_0.toList = ([] : List UInt8) then (newelref05_word.j0 k true a0_0 a0_1 a0_2) else (if 0 < (a0_0.size : Int) then ((newelref01_Digit.f (bt a0_0 0)).bind fun t319 => (newelref05_word.j0 k t319 a0_0 a0_1 a0_2)) else (none))
theorem newelref05_word.mono_l : ∀ k, (∀ y0 y1 y2 y3, LeO (newelref05_word.j0 k y0 y1 y2 y3) (newelref05_word.j0 (k + 1) y0 y1 y2 y3)) ∧ (∀ y0 y1 y2 y3, LeO (newelref05_word.j3 k y0 y1 y2 y3) (newelref05_word.j3 (k + 1) y0 y1 y2 y3)) ∧ (∀ y0 y1 y2 y3 y4 y5, LeO (newelref05_word.j1 k y0 y1 y2 y3 y4 y5) (newelref05_word.j1 (k + 1) y0 y1 y2 y3 y4 y5)) ∧ (∀ y0 y1 y2 y3 y4 y5, LeO (newelref05_word.j2 k y0 y1 y2 y3 y4 y5) (newelref05_word.j2 (k + 1) y0 y1 y2 y3 y4 y5))
 | 0 => ⟨fun _ _ _ _ r h => by simp [newelref05_word.j0] at h, fun _ _ _ _ r h => by simp [newelref05_word.j3] at h, fun _ _ _ _ _ _ r h => by simp [newelref05_word.j1] at h, fun _ _ _ _ _ _ r h => by simp [newelref05_word.j2] at h⟩
 | k + 1 => by
  obtain ⟨ih0, ih1, ih2, ih3⟩ := newelref05_word.mono_l k
  refine ⟨?_, ?_, ?_, ?_⟩
  ·intro y0 y1 y2 y3
   unfold newelref05_word.j0
   have m0 := @newelref05_number.mono
   exact mo
  ·intro y0 y1 y2 y3
   unfold newelref05_word.j3
   have m0 := @newelref05_number.mono
   exact mo
  ·intro y0 y1 y2 y3 y4 y5
   unfold newelref05_word.j1
   have m0 := @newelref05_number.mono
   exact mo
  ·intro y0 y1 y2 y3 y4 y5
   unfold newelref05_word.j2
   have m0 := @newelref05_number.mono
   exact mo
theorem newelref05_word.mono : ∀ a0 a1 a2 k, LeO (newelref05_word.f k a0 a1 a2) (newelref05_word.f (k + 1) a0 a1 a2) := by
 intro a0 a1 a2 k
 obtain ⟨ih0, ih1, ih2, ih3⟩ := newelref05_word.mono_l k
 unfold newelref05_word.f
 have m0 := @newelref05_number.mono
 exact mo
theorem newelref05_word.calls (k : Nat) (a0_0 : ByteArray) (a0_1 : Bool) (a0_2 : Bool) (r1 : Int) (r2 : ByteArray) (w : World) (hG : Glob w) (h : newelref05_word.f k a0_0 a0_1 a0_2 = some (r1, r2)) :
 Calls Tryz.prog 67 #[.agg #[.string a0_0, .bool a0_1, .bool a0_2]] w fun e w' => e = .returned (.agg #[.int .i64 r1, .string r2]) ∧ Below w.heap.size w w' := by
 have hu91 := Tryz.underlying91
 have hu85 := Tryz.underlying85
 have HG := Aside0.mk hG
 clear hG
 have HB := Aside0.mk (Below.refl w.heap.size w)
 have H : (if a0_0.toList = ([] : List UInt8) then (newelref05_word.j0 k true a0_0 a0_1 a0_2) else (if 0 < (a0_0.size : Int) then ((newelref01_Digit.f (bt a0_0 0)).bind fun t319 => (newelref05_word.j0 k t319 a0_0 a0_1 a0_2)) else (none))) = some (r1, r2) := h
 clear h
 have HC2 := Aside0.mk H
 clear H
 go_enter Tryz.func67, Tryz.ntmps67
 go_upto_region 1 with (first | (refine be 1 #[.string a0_0, .bool a0_1, .bool a0_2] 91 ?_; intro gb317 hg w3 hbox hb; have BK317 := Aside0.mk (hbox); have GW317 := gW hg; have GE317 := gW hg; replace HB := sB hb; clear hb hbox hg) | (refine be 2 #[.int .i64 0, .string (⟨#[]⟩ : ByteArray)] 85 ?_; intro gb318 hg w4 hbox hb; have BK318 := Aside0.mk (hbox); have GW318 := gW hg; have GE318 := gW hg; replace HB := sB hb; have NB317_318 := nL BK317 hg; have NB318_317 := nG BK317 hg; replace BK317 := kB BK317 hb; clear hb hbox hg))
 (try simp only [Act.put, List.setIfInBounds_toArray, List.set_cons_zero, List.set_cons_succ])
 go_cut [12] (fun v12 wc => ∃ (kq : Nat) (x12_1 : Bool), v12 = .bool x12_1 ∧ Aside0 (newelref05_word.j0 kq x12_1 a0_0 a0_1 a0_2 = some (r1, r2)) ∧ Aside0 (kq ≤ k) ∧ Aside0 (wc.heap[gb317]? = some (.cells #[.string a0_0, .bool a0_1, .bool a0_2] 91 (0, 0))) ∧ Aside0 (wc.heap[gb318]? = some (.cells #[.int .i64 0, .string (⟨#[]⟩ : ByteArray)] 85 (0, 0))) ∧ Aside0 (Below w.heap.size w wc))
 case first =>
  have H := HC2.out
  clear HC2
  by_cases c5 : a0_0.toList = ([] : List UInt8)
  ·rw [if_pos c5] at H
   obtain ⟨c5b0, c5b1⟩ := eqT c5
   (try (have c5b2 : a0_0.toList.isEmpty = true := by simpa using c5))
   clear c5
   (first | rw [c5b0] | rw [c5b2] | (simp only [i64_w, i32_w]; rw [c5b0]) | skip)
   have H' := Aside0.mk H
   clear H
   have hnb6 := NB317_318.out
   have hnc6 := NB318_317.out
   obtain ⟨hcz7_0, hcz7_1, hcz7_2, hfz7_0, hfz7_1, hfz7_2⟩ := cells3 BK317
   go_wp2
   go_meet
   case rel => exact ⟨_, (true), cA, H', ⟨by first | omega | exact Nat.le_refl _⟩, ⟨bK BK317⟩, ⟨bK BK318⟩, ⟨bG⟩⟩
  rw [if_neg c5] at H
  obtain ⟨c5b0, c5b1⟩ := eqF c5
  (try (have c5b2 : a0_0.toList.isEmpty = false := by simpa using c5))
  (first | rw [c5b0] | rw [c5b2] | (simp only [i64_w, i32_w]; rw [c5b0]) | skip)
  obtain ⟨c8, H⟩ := gp H
  have c8b0 := dT c8
  have c8b1 : decide (0 < a0_0.size) = true := decide_eq_true (by omega)
  clear c8
  replace H := bi H
  obtain ⟨t319, A100, H⟩ := H
  try dsimp only at H
  have A10 := Aside0.mk A100
  clear A100
  have H' := Aside0.mk H
  clear H
  have hnb11 := NB317_318.out
  have hnc11 := NB318_317.out
  obtain ⟨hcz12_0, hcz12_1, hcz12_2, hfz12_0, hfz12_1, hfz12_2⟩ := cells3 BK317
  have p9 : 0 ≤ (0 : Int) := (by omega)
  have q9 : 0 < a0_0.size := (by have : (0 : Int) < (a0_0.size : Int) := dA; omega)
  have hx9 : ∀ h : 0 < a0_0.size, ((a0_0[0]'h).toNat : Int) = bt a0_0 0 := bt_at a0_0 0
  clear p9
  have qi9 : (0 < (a0_0.size : Int)) = True := eq_true (dA)
  replace q9 := eq_true q9
  go_wp2_with (first | (go_at_call 87; (with_reducible refine (newelref01_Digit.calls (bt a0_0 0) t319 _ (gS HG) A10.out).mono ?_); rintro e w' ⟨rfl, ⟨nd, rfl⟩⟩))
  go_meet
  case rel => exact ⟨_, (t319), cA, H', ⟨by first | omega | exact Nat.le_refl _⟩, ⟨bK BK317⟩, ⟨bK BK318⟩, ⟨bG⟩⟩
 clear HC2
 try clear c1
 try clear p2
 try clear c5
 try clear c5b0
 try clear c5b1
 try clear c5b2
 try clear c6
 try clear c8
 try clear c8b0
 try clear c8b1
 try clear p9
 try clear q9
 try clear hx9
 try clear qi9
 try clear c11
 try clear hcz12_0
 try clear hcz12_1
 try clear hcz12_2
 try clear hcz7_0
 try clear hcz7_1
 try clear hcz7_2
 try clear hfz12_0
 try clear hfz12_1
 try clear hfz12_2
 try clear hfz7_0
 try clear hfz7_1
 try clear hfz7_2
 try clear p9
 try clear q9
 obtain ⟨kq, x12_1, rfl, HA, HJ1, BK317, BK318, HB⟩ := hcut
 cases kq with
 | zero => exact absurd HA.out (by simp [newelref05_word.j0])
 | succ kj1 =>
  have H := HA.out
  clear HA
  simp only [newelref05_word.j0] at H
  (try simp only [toList_lit] at H)
  by_cases c13 : x12_1 = true
  ·subst c13
   replace H : ((newelref05_number.f kj1 a0_0 a0_1 a0_2).bind fun bt320 => (some (bt320.1, bt320.2))) = some (r1, r2) := by rw [if_pos rfl] at H; exact H
   replace H := bi H
   obtain ⟨⟨t320, t321⟩, A140, H⟩ := H
   try dsimp only at H
   have A14 := Aside0.mk A140
   clear A140
   simp only [Option.some.injEq, Prod.mk.injEq] at H
   obtain ⟨rfl, rfl⟩ := H
   have hnb15 := NB317_318.out
   have hnc15 := NB318_317.out
   obtain ⟨hcz16_0, hcz16_1, hcz16_2, hfz16_0, hfz16_1, hfz16_2⟩ := cells3 BK317
   go_wp2_with (first | (refine gl (some 14) Tryz.func88 #[.agg #[.string a0_0, .bool a0_1, .bool a0_2]] ?_; (with_reducible refine (newelref05_number.calls kj1 a0_0 a0_1 a0_2 t320 t321 _ (gS HG) A14.out).mono ?_); rintro e w17 ⟨rfl, hb⟩; refine ⟨_, rfl, ?_⟩; replace BK317 := kB BK317 hb; replace BK318 := kB BK318 hb; replace HB := sB hb; (try clear hb); have hcz18_0 : w17.cell? ⟨gb318, 0, none⟩ = some (.int .i64 0) := (blk_cell BK318.out 0).trans rfl; have hcz18_1 : w17.cell? ⟨gb318, 1, none⟩ = some (.string (⟨#[]⟩ : ByteArray)) := (blk_cell BK318.out 1).trans rfl; have hfz18_0 := blk_frozen BK318.out 0; have hfz18_1 := blk_frozen BK318.out 1))
   refine bodyPost_ret (results_cell_row rfl _ _ gb318 85 #[.int .i64 t320, .string t321] (0, 0) _ rfl (bP BK318) Tryz.underlying85 rfl (by kernel_rfl)) rfl ?_
   exact ⟨eA, bG⟩
  replace c13 := Bool.eq_false_iff.mpr c13
  subst c13
  replace H : (if a0_0.toList = ([97, 108, 112, 104, 97] : List UInt8) then (newelref05_word.j3 kj1 1 a0_0 a0_1 a0_2) else (if a0_0.toList = ([98, 101, 116, 97] : List UInt8) then (newelref05_word.j3 kj1 2 a0_0 a0_1 a0_2) else (if a0_0.toList = ([109, 105, 108, 101, 115, 116, 111, 110, 101] : List UInt8) then (newelref05_word.j3 kj1 3 a0_0 a0_1 a0_2) else (if a0_0.toList = ([114, 99] : List UInt8) then (newelref05_word.j1 kj1 8 a0_0 (a0_0.toList == ([114, 99] : List UInt8)) a0_0 a0_1 a0_2) else (newelref05_word.j1 kj1 8 a0_0 (a0_0.toList == ([99, 114] : List UInt8)) a0_0 a0_1 a0_2))))) = some (r1, r2) := by rw [if_neg nF] at H; exact H
  have HC19 := Aside0.mk H
  clear H
  have hnb20 := NB317_318.out
  have hnc20 := NB318_317.out
  obtain ⟨hcz21_0, hcz21_1, hcz21_2, hfz21_0, hfz21_1, hfz21_2⟩ := cells3 BK317
  go_upto_block 0 with (fail)
  go_cut [3] (fun v3 wc => ∃ (kq : Nat) (x3_18 : Int), v3 = .int .i64 x3_18 ∧ Aside0 (newelref05_word.j3 kq x3_18 a0_0 a0_1 a0_2 = some (r1, r2)) ∧ Aside0 (kq ≤ kj1) ∧ Aside0 (wc.heap[gb317]? = some (.cells #[.string a0_0, .bool a0_1, .bool a0_2] 91 (0, 0))) ∧ Aside0 (wc.heap[gb318]? = some (.cells #[.int .i64 0, .string (⟨#[]⟩ : ByteArray)] 85 (0, 0))) ∧ Aside0 (Below w.heap.size w wc))
  case first =>
   have H := HC19.out
   clear HC19
   by_cases c22 : a0_0.toList = ([97, 108, 112, 104, 97] : List UInt8)
   ·rw [if_pos c22] at H
    obtain ⟨c22b0, c22b1⟩ := eqT c22
    clear c22
    (first | rw [c22b0] | (simp only [i64_w, i32_w]; rw [c22b0]) | skip)
    have H' := Aside0.mk H
    clear H
    go_wp2
    go_meet
    case rel => exact ⟨_, (1), cA, H', ⟨by have := HJ1.out; first | omega | exact Nat.le_refl _⟩, ⟨bK BK317⟩, ⟨bK BK318⟩, ⟨bG⟩⟩
   rw [if_neg c22] at H
   obtain ⟨c22b0, c22b1⟩ := eqF c22
   (first | rw [c22b0] | (simp only [i64_w, i32_w]; rw [c22b0]) | skip)
   by_cases c23 : a0_0.toList = ([98, 101, 116, 97] : List UInt8)
   ·rw [if_pos c23] at H
    obtain ⟨c23b0, c23b1⟩ := eqT c23
    clear c23
    have H' := Aside0.mk H
    clear H
    go_wp2
    go_meet
    case rel => exact ⟨_, (2), cA, H', ⟨by have := HJ1.out; first | omega | exact Nat.le_refl _⟩, ⟨bK BK317⟩, ⟨bK BK318⟩, ⟨bG⟩⟩
   rw [if_neg c23] at H
   obtain ⟨c23b0, c23b1⟩ := eqF c23
   by_cases c24 : a0_0.toList = ([109, 105, 108, 101, 115, 116, 111, 110, 101] : List UInt8)
   ·rw [if_pos c24] at H
    obtain ⟨c24b0, c24b1⟩ := eqT c24
    clear c24
    have H' := Aside0.mk H
    clear H
    go_wp2
    go_meet
    case rel => exact ⟨_, (3), cA, H', ⟨by have := HJ1.out; first | omega | exact Nat.le_refl _⟩, ⟨bK BK317⟩, ⟨bK BK318⟩, ⟨bG⟩⟩
   rw [if_neg c24] at H
   obtain ⟨c24b0, c24b1⟩ := eqF c24
   have HC25 := Aside0.mk H
   clear H
   go_upto_if 23 with (fail)
   go_cut [23] (fun v23 wc => ∃ (kq : Nat) (x23_24 : Bool), v23 = .bool x23_24 ∧ Aside0 (newelref05_word.j1 kq 8 a0_0 x23_24 a0_0 a0_1 a0_2 = some (r1, r2)) ∧ Aside0 (kq ≤ kj1) ∧ Aside0 (wc.heap[gb317]? = some (.cells #[.string a0_0, .bool a0_1, .bool a0_2] 91 (0, 0))) ∧ Aside0 (wc.heap[gb318]? = some (.cells #[.int .i64 0, .string (⟨#[]⟩ : ByteArray)] 85 (0, 0))) ∧ Aside0 (Below w.heap.size w wc))
   case first =>
    have H := HC25.out
    clear HC25
    by_cases c26 : a0_0.toList = ([114, 99] : List UInt8)
    rotate_left
    ·rw [if_neg c26] at H
     obtain ⟨c26b0, c26b1⟩ := eqF c26
     (first | rw [c26b0] | (simp only [i64_w, i32_w]; rw [c26b0]) | skip)
     have H' := Aside0.mk H
     clear H
     go_wp2
     go_meet
     case rel => exact ⟨_, ((a0_0.toList == ([99, 114] : List UInt8))), cA, H', ⟨by have := HJ1.out; first | omega | exact Nat.le_refl _⟩, ⟨bK BK317⟩, ⟨bK BK318⟩, ⟨bG⟩⟩
    rw [if_pos c26] at H
    obtain ⟨c26b0, c26b1⟩ := eqT c26
    clear c26
    (first | rw [c26b0] | (simp only [i64_w, i32_w]; rw [c26b0]) | skip)
    have H' := Aside0.mk H
    clear H
    go_wp2
    go_meet
    case rel => exact ⟨_, ((a0_0.toList == ([114, 99] : List UInt8))), cA, H', ⟨by have := HJ1.out; first | omega | exact Nat.le_refl _⟩, ⟨bK BK317⟩, ⟨bK BK318⟩, ⟨bG⟩⟩
   clear HC25
   try clear c1
   try clear c2
   try clear p2
   try clear c5
   try clear c5b0
   try clear c5b1
   try clear c5b2
   try clear c6
   try clear c8
   try clear c8b0
   try clear c8b1
   try clear p9
   try clear q9
   try clear hx9
   try clear qi9
   try clear c11
   try clear c13
   try clear c15
   try clear c20
   try clear c22
   try clear c22b0
   try clear c22b1
   try clear c23
   try clear c23b0
   try clear c23b1
   try clear c24
   try clear c24b0
   try clear c24b1
   try clear c26
   try clear c26b0
   try clear c26b1
   try clear hcz12_0
   try clear hcz12_1
   try clear hcz12_2
   try clear hcz16_0
   try clear hcz16_1
   try clear hcz16_2
   try clear hcz18_0
   try clear hcz18_1
   try clear hcz21_0
   try clear hcz21_1
   try clear hcz21_2
   try clear hcz7_0
   try clear hcz7_1
   try clear hcz7_2
   try clear hfz12_0
   try clear hfz12_1
   try clear hfz12_2
   try clear hfz16_0
   try clear hfz16_1
   try clear hfz16_2
   try clear hfz18_0
   try clear hfz18_1
   try clear hfz21_0
   try clear hfz21_1
   try clear hfz21_2
   try clear hfz7_0
   try clear hfz7_1
   try clear hfz7_2
   try clear p2
   try clear p9
   try clear q9
   obtain ⟨kq, x23_24, rfl, HA, HJ24, BK317, BK318, HB⟩ := hcut
   cases kq with
   | zero => exact absurd HA.out (by simp [newelref05_word.j1])
   | succ kj24 =>
    have H := HA.out
    clear HA
    simp only [newelref05_word.j1] at H
    (try simp only [toList_lit] at H)
    by_cases c27 : x23_24 = true
    ·subst c27
     replace H : (newelref05_word.j3 kj24 4 a0_0 a0_1 a0_2) = some (r1, r2) := by rw [if_pos rfl] at H; exact H
     have H' := Aside0.mk H
     clear H
     go_wp2
     go_meet
     case rel => exact ⟨_, (4), cA, H', ⟨by have := HJ1.out; have := HJ24.out; first | omega | exact Nat.le_refl _⟩, ⟨bK BK317⟩, ⟨bK BK318⟩, ⟨bG⟩⟩
    replace c27 := Bool.eq_false_iff.mpr c27
    subst c27
    replace H : (if a0_0.toList = ([115, 110, 97, 112, 115, 104, 111, 116] : List UInt8) then (newelref05_word.j3 kj24 5 a0_0 a0_1 a0_2) else (if a0_0.toList = ([103, 97] : List UInt8) then (newelref05_word.j2 kj24 8 a0_0 (a0_0.toList == ([103, 97] : List UInt8)) a0_0 a0_1 a0_2) else (if a0_0.toList = ([102, 105, 110, 97, 108] : List UInt8) then (newelref05_word.j2 kj24 8 a0_0 (a0_0.toList == ([102, 105, 110, 97, 108] : List UInt8)) a0_0 a0_1 a0_2) else (newelref05_word.j2 kj24 8 a0_0 (a0_0.toList == ([114, 101, 108, 101, 97, 115, 101] : List UInt8)) a0_0 a0_1 a0_2)))) = some (r1, r2) := by rw [if_neg nF] at H; exact H
    by_cases c28 : a0_0.toList = ([115, 110, 97, 112, 115, 104, 111, 116] : List UInt8)
    ·rw [if_pos c28] at H
     obtain ⟨c28b0, c28b1⟩ := eqT c28
     clear c28
     have H' := Aside0.mk H
     clear H
     go_wp2
     go_meet
     case rel => exact ⟨_, (5), cA, H', ⟨by have := HJ1.out; have := HJ24.out; first | omega | exact Nat.le_refl _⟩, ⟨bK BK317⟩, ⟨bK BK318⟩, ⟨bG⟩⟩
    rw [if_neg c28] at H
    obtain ⟨c28b0, c28b1⟩ := eqF c28
    have HC29 := Aside0.mk H
    clear H
    go_upto_if 28 with (fail)
    go_cut [28] (fun v28 wc => ∃ (kq : Nat) (x28_28 : Bool), v28 = .bool x28_28 ∧ Aside0 (newelref05_word.j2 kq 8 a0_0 x28_28 a0_0 a0_1 a0_2 = some (r1, r2)) ∧ Aside0 (kq ≤ kj24) ∧ Aside0 (wc.heap[gb317]? = some (.cells #[.string a0_0, .bool a0_1, .bool a0_2] 91 (0, 0))) ∧ Aside0 (wc.heap[gb318]? = some (.cells #[.int .i64 0, .string (⟨#[]⟩ : ByteArray)] 85 (0, 0))) ∧ Aside0 (Below w.heap.size w wc))
    case first =>
     have H := HC29.out
     clear HC29
     by_cases c30 : a0_0.toList = ([103, 97] : List UInt8)
     ·rw [if_pos c30] at H
      obtain ⟨c30b0, c30b1⟩ := eqT c30
      clear c30
      (first | rw [c30b0] | (simp only [i64_w, i32_w]; rw [c30b0]) | skip)
      have H' := Aside0.mk H
      clear H
      go_wp2
      go_meet
      case rel => exact ⟨_, ((a0_0.toList == ([103, 97] : List UInt8))), cA, H', ⟨by have := HJ1.out; have := HJ24.out; first | omega | exact Nat.le_refl _⟩, ⟨bK BK317⟩, ⟨bK BK318⟩, ⟨bG⟩⟩
     rw [if_neg c30] at H
     obtain ⟨c30b0, c30b1⟩ := eqF c30
     (first | rw [c30b0] | (simp only [i64_w, i32_w]; rw [c30b0]) | skip)
     by_cases c31 : a0_0.toList = ([102, 105, 110, 97, 108] : List UInt8)
     rotate_left
     ·rw [if_neg c31] at H
      obtain ⟨c31b0, c31b1⟩ := eqF c31
      have H' := Aside0.mk H
      clear H
      go_wp2
      go_meet
      case rel => exact ⟨_, ((a0_0.toList == ([114, 101, 108, 101, 97, 115, 101] : List UInt8))), cA, H', ⟨by have := HJ1.out; have := HJ24.out; first | omega | exact Nat.le_refl _⟩, ⟨bK BK317⟩, ⟨bK BK318⟩, ⟨bG⟩⟩
     rw [if_pos c31] at H
     obtain ⟨c31b0, c31b1⟩ := eqT c31
     clear c31
     have H' := Aside0.mk H
     clear H
     go_wp2
     go_meet
     case rel => exact ⟨_, ((a0_0.toList == ([102, 105, 110, 97, 108] : List UInt8))), cA, H', ⟨by have := HJ1.out; have := HJ24.out; first | omega | exact Nat.le_refl _⟩, ⟨bK BK317⟩, ⟨bK BK318⟩, ⟨bG⟩⟩
    clear HC29
    try clear c1
    try clear c2
    try clear p2
    try clear c3
    try clear c5
    try clear c5b0
    try clear c5b1
    try clear c5b2
    try clear c6
    try clear c8
    try clear c8b0
    try clear c8b1
    try clear p9
    try clear q9
    try clear hx9
    try clear qi9
    try clear c11
    try clear c13
    try clear c15
    try clear c20
    try clear c22
    try clear c22b0
    try clear c22b1
    try clear c23
    try clear c23b0
    try clear c23b1
    try clear c24
    try clear c24b0
    try clear c24b1
    try clear c26
    try clear c26b0
    try clear c26b1
    try clear c27
    try clear c28
    try clear c28b0
    try clear c28b1
    try clear c30
    try clear c30b0
    try clear c30b1
    try clear c31
    try clear c31b0
    try clear c31b1
    try clear hcz12_0
    try clear hcz12_1
    try clear hcz12_2
    try clear hcz16_0
    try clear hcz16_1
    try clear hcz16_2
    try clear hcz18_0
    try clear hcz18_1
    try clear hcz21_0
    try clear hcz21_1
    try clear hcz21_2
    try clear hcz7_0
    try clear hcz7_1
    try clear hcz7_2
    try clear hfz12_0
    try clear hfz12_1
    try clear hfz12_2
    try clear hfz16_0
    try clear hfz16_1
    try clear hfz16_2
    try clear hfz18_0
    try clear hfz18_1
    try clear hfz21_0
    try clear hfz21_1
    try clear hfz21_2
    try clear hfz7_0
    try clear hfz7_1
    try clear hfz7_2
    try clear p2
    try clear p9
    try clear q9
    obtain ⟨kq, x28_28, rfl, HA, HJ28, BK317, BK318, HB⟩ := hcut
    cases kq with
    | zero => exact absurd HA.out (by simp [newelref05_word.j2])
    | succ kj28 =>
     have H := HA.out
     clear HA
     simp only [newelref05_word.j2] at H
     (try simp only [toList_lit] at H)
     by_cases c32 : x28_28 = true
     ·subst c32
      replace H : (newelref05_word.j3 kj28 6 a0_0 a0_1 a0_2) = some (r1, r2) := by rw [if_pos rfl] at H; exact H
      have H' := Aside0.mk H
      clear H
      go_wp2
      go_meet
      case rel => exact ⟨_, (6), cA, H', ⟨by have := HJ1.out; have := HJ24.out; have := HJ28.out; first | omega | exact Nat.le_refl _⟩, ⟨bK BK317⟩, ⟨bK BK318⟩, ⟨bG⟩⟩
     replace c32 := Bool.eq_false_iff.mpr c32
     subst c32
     replace H : (if a0_0.toList = ([115, 112] : List UInt8) then (newelref05_word.j3 kj28 7 a0_0 a0_1 a0_2) else (newelref05_word.j3 kj28 8 a0_0 a0_1 a0_2)) = some (r1, r2) := by rw [if_neg nF] at H; exact H
     by_cases c33 : a0_0.toList = ([115, 112] : List UInt8)
     rotate_left
     ·rw [if_neg c33] at H
      obtain ⟨c33b0, c33b1⟩ := eqF c33
      have H' := Aside0.mk H
      clear H
      go_wp2
      go_meet
      case rel => exact ⟨_, (8), cA, H', ⟨by have := HJ1.out; have := HJ24.out; have := HJ28.out; first | omega | exact Nat.le_refl _⟩, ⟨bK BK317⟩, ⟨bK BK318⟩, ⟨bG⟩⟩
     rw [if_pos c33] at H
     obtain ⟨c33b0, c33b1⟩ := eqT c33
     clear c33
     have H' := Aside0.mk H
     clear H
     go_wp2
     go_meet
     case rel => exact ⟨_, (7), cA, H', ⟨by have := HJ1.out; have := HJ24.out; have := HJ28.out; first | omega | exact Nat.le_refl _⟩, ⟨bK BK317⟩, ⟨bK BK318⟩, ⟨bG⟩⟩
  clear HC19
  try clear c1
  try clear c2
  try clear p2
  try clear c3
  try clear c5
  try clear c5b0
  try clear c5b1
  try clear c5b2
  try clear c6
  try clear c8
  try clear c8b0
  try clear c8b1
  try clear p9
  try clear q9
  try clear hx9
  try clear qi9
  try clear c11
  try clear c13
  try clear c15
  try clear c20
  try clear c22
  try clear c22b0
  try clear c22b1
  try clear c23
  try clear c23b0
  try clear c23b1
  try clear c24
  try clear c24b0
  try clear c24b1
  try clear c26
  try clear c26b0
  try clear c26b1
  try clear c27
  try clear c28
  try clear c28b0
  try clear c28b1
  try clear c30
  try clear c30b0
  try clear c30b1
  try clear c31
  try clear c31b0
  try clear c31b1
  try clear c32
  try clear c33
  try clear c33b0
  try clear c33b1
  try clear hcz12_0
  try clear hcz12_1
  try clear hcz12_2
  try clear hcz16_0
  try clear hcz16_1
  try clear hcz16_2
  try clear hcz18_0
  try clear hcz18_1
  try clear hcz21_0
  try clear hcz21_1
  try clear hcz21_2
  try clear hcz7_0
  try clear hcz7_1
  try clear hcz7_2
  try clear hfz12_0
  try clear hfz12_1
  try clear hfz12_2
  try clear hfz16_0
  try clear hfz16_1
  try clear hfz16_2
  try clear hfz18_0
  try clear hfz18_1
  try clear hfz21_0
  try clear hfz21_1
  try clear hfz21_2
  try clear hfz7_0
  try clear hfz7_1
  try clear hfz7_2
  try clear p2
  try clear p9
  try clear q9
  obtain ⟨kq, x3_18, rfl, HA, HJ18, BK317, BK318, HB⟩ := hcut
  cases kq with
  | zero => exact absurd HA.out (by simp [newelref05_word.j3])
  | succ kj18 =>
   have H := HA.out
   clear HA
   simp only [newelref05_word.j3] at H
   (try simp only [toList_lit] at H)
   by_cases c34 : a0_2 = true
   rotate_left
   ·replace c34 := Bool.eq_false_iff.mpr c34
    subst c34
    replace H : (if x3_18 = 8 then (some (x3_18, a0_0)) else (some (x3_18, (⟨#[]⟩ : ByteArray)))) = some (r1, r2) := by rw [if_neg nF] at H; exact H
    by_cases c54 : x3_18 = 8
    rotate_left
    ·rw [if_neg c54] at H
     obtain ⟨c54b0, c54b1⟩ := eqF c54
     simp only [Option.some.injEq, Prod.mk.injEq] at H
     obtain ⟨rfl, rfl⟩ := H
     have hnb58 := NB317_318.out
     have hnc58 := NB318_317.out
     obtain ⟨hcz59_0, hcz59_1, hcz59_2, hfz59_0, hfz59_1, hfz59_2⟩ := cells3 BK317
     obtain ⟨hcz60_0, hcz60_1, hfz60_0, hfz60_1⟩ := cells2 BK318
     go_wp2
     refine bodyPost_ret (results_cell_row rfl _ _ gb318 85 #[.int .i64 x3_18, .string (⟨#[]⟩ : ByteArray)] (0, 0) _ rfl (bP BK318) Tryz.underlying85 rfl (by kernel_rfl)) rfl ?_
     exact ⟨eA, bG⟩
    rw [if_pos c54] at H
    obtain ⟨c54b0, c54b1⟩ := eqT c54
    clear c54
    simp only [Option.some.injEq, Prod.mk.injEq] at H
    obtain ⟨rfl, rfl⟩ := H
    have hnb55 := NB317_318.out
    have hnc55 := NB318_317.out
    obtain ⟨hcz56_0, hcz56_1, hcz56_2, hfz56_0, hfz56_1, hfz56_2⟩ := cells3 BK317
    obtain ⟨hcz57_0, hcz57_1, hfz57_0, hfz57_1⟩ := cells2 BK318
    go_wp2
    refine bodyPost_ret (results_cell_row rfl _ _ gb318 85 #[.int .i64 x3_18, .string a0_0] (0, 0) _ rfl (bP BK318) Tryz.underlying85 rfl (by kernel_rfl)) rfl ?_
    exact ⟨eA, bG⟩
   subst c34
   replace H : (if a0_0.toList = ([97] : List UInt8) then (some (1, (⟨#[]⟩ : ByteArray))) else (if a0_0.toList = ([98] : List UInt8) then (some (2, (⟨#[]⟩ : ByteArray))) else (if a0_0.toList = ([109] : List UInt8) then (some (3, (⟨#[]⟩ : ByteArray))) else (if x3_18 = 8 then (some (x3_18, a0_0)) else (some (x3_18, (⟨#[]⟩ : ByteArray))))))) = some (r1, r2) := by rw [if_pos rfl] at H; exact H
   by_cases c35 : a0_0.toList = ([97] : List UInt8)
   ·rw [if_pos c35] at H
    obtain ⟨c35b0, c35b1⟩ := eqT c35
    clear c35
    simp only [Option.some.injEq, Prod.mk.injEq] at H
    obtain ⟨rfl, rfl⟩ := H
    have hnb36 := NB317_318.out
    have hnc36 := NB318_317.out
    obtain ⟨hcz37_0, hcz37_1, hcz37_2, hfz37_0, hfz37_1, hfz37_2⟩ := cells3 BK317
    obtain ⟨hcz38_0, hcz38_1, hfz38_0, hfz38_1⟩ := cells2 BK318
    go_wp2
    refine bodyPost_ret (results_cell_row rfl _ _ gb318 85 #[.int .i64 1, .string (⟨#[]⟩ : ByteArray)] (0, 0) _ rfl (bP BK318) Tryz.underlying85 rfl (by kernel_rfl)) rfl ?_
    exact ⟨eA, bG⟩
   rw [if_neg c35] at H
   obtain ⟨c35b0, c35b1⟩ := eqF c35
   by_cases c39 : a0_0.toList = ([98] : List UInt8)
   ·rw [if_pos c39] at H
    obtain ⟨c39b0, c39b1⟩ := eqT c39
    clear c39
    simp only [Option.some.injEq, Prod.mk.injEq] at H
    obtain ⟨rfl, rfl⟩ := H
    have hnb40 := NB317_318.out
    have hnc40 := NB318_317.out
    obtain ⟨hcz41_0, hcz41_1, hcz41_2, hfz41_0, hfz41_1, hfz41_2⟩ := cells3 BK317
    obtain ⟨hcz42_0, hcz42_1, hfz42_0, hfz42_1⟩ := cells2 BK318
    go_wp2
    refine bodyPost_ret (results_cell_row rfl _ _ gb318 85 #[.int .i64 2, .string (⟨#[]⟩ : ByteArray)] (0, 0) _ rfl (bP BK318) Tryz.underlying85 rfl (by kernel_rfl)) rfl ?_
    exact ⟨eA, bG⟩
   rw [if_neg c39] at H
   obtain ⟨c39b0, c39b1⟩ := eqF c39
   by_cases c43 : a0_0.toList = ([109] : List UInt8)
   ·rw [if_pos c43] at H
    obtain ⟨c43b0, c43b1⟩ := eqT c43
    clear c43
    simp only [Option.some.injEq, Prod.mk.injEq] at H
    obtain ⟨rfl, rfl⟩ := H
    have hnb44 := NB317_318.out
    have hnc44 := NB318_317.out
    obtain ⟨hcz45_0, hcz45_1, hcz45_2, hfz45_0, hfz45_1, hfz45_2⟩ := cells3 BK317
    obtain ⟨hcz46_0, hcz46_1, hfz46_0, hfz46_1⟩ := cells2 BK318
    go_wp2
    refine bodyPost_ret (results_cell_row rfl _ _ gb318 85 #[.int .i64 3, .string (⟨#[]⟩ : ByteArray)] (0, 0) _ rfl (bP BK318) Tryz.underlying85 rfl (by kernel_rfl)) rfl ?_
    exact ⟨eA, bG⟩
   rw [if_neg c43] at H
   obtain ⟨c43b0, c43b1⟩ := eqF c43
   by_cases c47 : x3_18 = 8
   rotate_left
   ·rw [if_neg c47] at H
    obtain ⟨c47b0, c47b1⟩ := eqF c47
    simp only [Option.some.injEq, Prod.mk.injEq] at H
    obtain ⟨rfl, rfl⟩ := H
    have hnb51 := NB317_318.out
    have hnc51 := NB318_317.out
    obtain ⟨hcz52_0, hcz52_1, hcz52_2, hfz52_0, hfz52_1, hfz52_2⟩ := cells3 BK317
    obtain ⟨hcz53_0, hcz53_1, hfz53_0, hfz53_1⟩ := cells2 BK318
    go_wp2
    refine bodyPost_ret (results_cell_row rfl _ _ gb318 85 #[.int .i64 x3_18, .string (⟨#[]⟩ : ByteArray)] (0, 0) _ rfl (bP BK318) Tryz.underlying85 rfl (by kernel_rfl)) rfl ?_
    exact ⟨eA, bG⟩
   rw [if_pos c47] at H
   obtain ⟨c47b0, c47b1⟩ := eqT c47
   clear c47
   simp only [Option.some.injEq, Prod.mk.injEq] at H
   obtain ⟨rfl, rfl⟩ := H
   have hnb48 := NB317_318.out
   have hnc48 := NB318_317.out
   obtain ⟨hcz49_0, hcz49_1, hcz49_2, hfz49_0, hfz49_1, hfz49_2⟩ := cells3 BK317
   obtain ⟨hcz50_0, hcz50_1, hfz50_0, hfz50_1⟩ := cells2 BK318
   go_wp2
   refine bodyPost_ret (results_cell_row rfl _ _ gb318 85 #[.int .i64 x3_18, .string a0_0] (0, 0) _ rfl (bP BK318) Tryz.underlying85 rfl (by kernel_rfl)) rfl ?_
   exact ⟨eA, bG⟩
end Go.Proofs.YtgdjfcmmpjcaaaaGreatDoor.Q
