/- Texts put together: what functions of the program compute, and plain words about them. -/
import Derived.Test.YtgdjfcmmpjcaaaaDoorLawChooseMoreM1
import Derived.Test.YtgdjfcmmpjcaaaaDoorLawChooseMoreM2
import Derived.Lib.OthersKept
import Derived.Lib.Hide
import Derived.LoopN
import Derived.Lib.IndexAny
import Derived.Lib.IndexBytes
import Derived.Laws.RangeString
import Derived.Laws.Strings3
import Derived.Laws.Runes
import Derived.Lib.DecodeN
import Derived.Shelf.Strings.IndexAny
namespace Go.Proofs.YtgdjfcmmpjcaaaaDoor.Q
open Go.RowKit Go.Proofs.YtgdjfcmmpjcaaaaDoorW.PrintWords Go.Proofs.YtgdjfcmmpjcaaaaDoorW.PrintLast Go.Proofs.YtgdjfcmmpjcaaaaDoorW.Own Go.Proofs.YtgdjfcmmpjcaaaaDoorW.PrintMore
attribute [local go_sem] max2_int min2_int max_two min_two max_three min_three max_four min_four   -- for this text's walks alone
set_option linter.unusedVariables false
set_option linter.unusedSimpArgs false
set_option maxHeartbeats 8000000
set_option maxRecDepth 100000
def words_Split.l0 : Nat → List (S38) → List (S93) → Option ((List (S38)))
 | 0, _, _ => none
 | k + 1, x3, x4 => if (x4.length : Int) = 0 then ((api_Word_73.f k x3).bind fun t160 => (some t160)) else (if 0 ≤ (wrap64 ((x4.length : Int) - 1)) then (if (wrap64 ((x4.length : Int) - 1)) < (x4.length : Int) then ((words_word.f k ((rd_T93 x4 (wrap64 ((x4.length : Int) - 1))).f0) ((rd_T93 x4 (wrap64 ((x4.length : Int) - 1))).f1) ((rd_T93 x4 (wrap64 ((x4.length : Int) - 1))).f2)).bind fun bt162 => (if (wrap64 ((x4.length : Int) - 1)) ≤ (x4.length : Int) then ((some (x4.take ((wrap64 ((x4.length : Int) - 1)) : Int).toNat : List (S93))).bind fun y165 => (if bt162.1 = 6 then (if (x3.length : Int) > 0 then (if 0 ≤ (wrap64 ((x3.length : Int) - 1)) then (if (wrap64 ((x3.length : Int) - 1)) < (x3.length : Int) then (if ((rd_T38 x3 (wrap64 ((x3.length : Int) - 1))).f0) = 6 then (if x3.length < 5864062014805 then (words_Split.l0 k (x3 ++ [(⟨bt162.1, bt162.2⟩ : S38)]) y165) else (none)) else (if ((rd_T38 x3 (wrap64 ((x3.length : Int) - 1))).f0) = 10 then (if x3.length < 5864062014805 then (words_Split.l0 k (x3 ++ [(⟨bt162.1, bt162.2⟩ : S38)]) y165) else (none)) else (words_Split.l0 k x3 y165))) else (none)) else (none)) else (words_Split.l0 k x3 y165)) else (if x3.length < 5864062014805 then (words_Split.l0 k (x3 ++ [(⟨bt162.1, bt162.2⟩ : S38)]) y165) else (none)))) else (none))) else (none)) else (none))
def words_Split.f (k : Nat) (a0 : ByteArray) : Option ((List (S38))) := (chars_Lower.f a0).bind fun t156 => ((words_parts.f k t156).bind fun t157 => (words_Split.l0 k ([] : List (S38)) t157))
theorem words_Split.mono_l : ∀ k, (∀ y0 y1, LeO (words_Split.l0 k y0 y1) (words_Split.l0 (k + 1) y0 y1))
 | 0 => fun _ _ r h => by simp [words_Split.l0] at h
 | k + 1 => by
  have ih0 := words_Split.mono_l k
  ·intro y0 y1
   unfold words_Split.l0
   have m0 := @api_Word_73.mono
   have m1 := @words_parts.mono
   have m2 := @words_word.mono
   exact mo
theorem words_Split.mono : ∀ a0 k, LeO (words_Split.f k a0) (words_Split.f (k + 1) a0) := by
 intro a0 k
 have ih0 := words_Split.mono_l k
 unfold words_Split.f
 have m0 := @api_Word_73.mono
 have m1 := @words_parts.mono
 have m2 := @words_word.mono
 exact mo
theorem words_Split.calls (k : Nat) (a0 : ByteArray) (r : List (S38)) (w : World) (hG : Glob w) (h : words_Split.f k a0 = some r) :
 Calls Tryd.prog 31 #[.string a0] w fun e w' => ∃ v0_ : Value, e = .returned (v0_) ∧ Kd.R k38 38 w' w.heap.size (fun _ => True) v0_ r ∧ Below w.heap.size w w' := by
 have hu93 := Tryd.underlying93
 have hu38 := Tryd.underlying38
 have HG := Aside0.mk hG
 clear hG
 have HB := Aside0.mk (Below.refl w.heap.size w)
 have H : ((chars_Lower.f a0).bind fun t156 => ((words_parts.f k t156).bind fun t157 => (words_Split.l0 k ([] : List (S38)) t157))) = some r := h
 clear h
 have HS2 := Aside0.mk H
 clear H
 go_enter Tryd.func31, Tryd.ntmps31
 go_wp2
 refine wp_scope_loop 0 (by rfl) ?_
 have H := HS2.out
 clear HS2
 replace H := bi H
 obtain ⟨t156, A30, H⟩ := H
 try dsimp only at H
 have A3 := Aside0.mk A30
 clear A30
 replace H := bi H
 obtain ⟨t157, A40, H⟩ := H
 try dsimp only at H
 have A4 := Aside0.mk A40
 clear A40
 have H' := Aside0.mk H
 clear H
 go_wp2_with (first | (refine gl (some 7) Tryd.func72 #[.string a0] ?_; (with_reducible refine (chars_Lower.calls a0 t156 _ (gS HG) A3.out).mono ?_); rintro e w5 ⟨rfl, hb⟩; refine ⟨_, rfl, ?_⟩; replace HB := sB hb; (try clear hb)) | (refine gl (some 8) Tryd.func71 #[.string t156] ?_; (with_reducible refine (words_parts.calls k t156 t157 _ (gS HG) A4.out).mono ?_); rintro e w6 ⟨v158, rfl, ho0, hb⟩; refine ⟨_, rfl, ?_⟩; have HO159 := Aside0.mk (Kd.R_lower ho0 (below_size bE)); replace HB := sB hb; (try clear hb); (try clear ho0)))
 refine wp_label ?_
 rename_i hlb
 refine hlb _ _ ?_
 refine wp_at_label ?_
 refine LoopAt.intro (fun aB_ kq_ a1 w1 => ∃ (u2 u3 u4 u5 u9 u10 u11 u12 u13 u14 u15 u16 u17 u18 u19 u20 u21 u22 u23 u24 u25 u26 u27 u28 u29 u30 u31 u32 u33 u34 u35 u36 u37 u38 u39 u40 u41 u42 u43 u44 u45 u46 u47 u48 u49 u50 u51 u52 u53 u54 u55 u56 u57 u58 : Value), (fun kq v3 v4 w' => ∃ (x3_1 : List (S38)) (x4_1 : List (S93)), Aside0 (words_Split.l0 kq x3_1 x4_1 = some r) ∧ Aside0 (kq ≤ k) ∧ Aside0 (Kd.R k38 38 w' w.heap.size (fun _ => True) v3 x3_1) ∧ Aside0 (Kd.R k93 93 w' w.heap.size (fun _ => True) v4 x4_1) ∧ Aside0 (Below w.heap.size w w')) kq_ u3 u4 w1 ∧ a1 = ((((((((((((((((((((((((((((((((((((((((((((((((((((((aB_.put (some 2) u2).put (some 3) u3).put (some 4) u4).put (some 5) u5).put (some 9) u9).put (some 10) u10).put (some 11) u11).put (some 12) u12).put (some 13) u13).put (some 14) u14).put (some 15) u15).put (some 16) u16).put (some 17) u17).put (some 18) u18).put (some 19) u19).put (some 20) u20).put (some 21) u21).put (some 22) u22).put (some 23) u23).put (some 24) u24).put (some 25) u25).put (some 26) u26).put (some 27) u27).put (some 28) u28).put (some 29) u29).put (some 30) u30).put (some 31) u31).put (some 32) u32).put (some 33) u33).put (some 34) u34).put (some 35) u35).put (some 36) u36).put (some 37) u37).put (some 38) u38).put (some 39) u39).put (some 40) u40).put (some 41) u41).put (some 42) u42).put (some 43) u43).put (some 44) u44).put (some 45) u45).put (some 46) u46).put (some 47) u47).put (some 48) u48).put (some 49) u49).put (some 50) u50).put (some 51) u51).put (some 52) u52).put (some 53) u53).put (some 54) u54).put (some 55) u55).put (some 56) u56).put (some 57) u57).put (some 58) u58)) k ?_ ?_
 ·(repeat apply Exists.intro)
  (try simp only [Act.put, List.setIfInBounds_toArray, List.set_cons_zero, List.set_cons_succ])
  refine ⟨?_, rfl⟩
  exact ⟨(([] : List (S38))), (t157), H', ⟨Nat.le_refl _⟩, ⟨by first | exact Kd.R_nil _ _ _ _ _ | exact Kd.N_nil _ _ _ _ _ | exact Kd.V_nil _ _ _ _ _ | exact Kd.Q_nil _ _ _ _ _ | exact Kd.S_nil _ _ _ _ _⟩, ⟨kR HO159⟩, ⟨bE⟩⟩
 ·intro gk a1 wr hinv
  obtain ⟨u2, u3, u4, u5, u9, u10, u11, u12, u13, u14, u15, u16, u17, u18, u19, u20, u21, u22, u23, u24, u25, u26, u27, u28, u29, u30, u31, u32, u33, u34, u35, u36, u37, u38, u39, u40, u41, u42, u43, u44, u45, u46, u47, u48, u49, u50, u51, u52, u53, u54, u55, u56, u57, u58, hrel, ha⟩ := hinv
  subst ha
  (try simp only [Act.put, List.setIfInBounds_toArray, List.set_cons_zero, List.set_cons_succ])
  intro Js0 Ks0 hJs0 hKs0
  clear H'
  try clear p2
  try clear c3
  obtain ⟨x3_1, x4_1, HA, HK1, HO_3, HO_4, HB⟩ := hrel
  cases gk with
  | zero => exact absurd HA.out (by simp [words_Split.l0])
  | succ k1 =>
   have H := HA.out
   clear HA
   simp only [words_Split.l0] at H
   by_cases c7 : (x4_1.length : Int) = 0
   ·rw [if_pos c7] at H
    obtain ⟨c7b0, c7b1⟩ := eqT c7
    clear c7
    replace H := bi H
    obtain ⟨t160, A80, H⟩ := H
    try dsimp only at H
    have A8 := Aside0.mk A80
    clear A80
    obtain rfl := Option.some.inj H
    obtain ⟨Ao9, co9, eo9⟩ := Kd.R_slice HO_4.out
    subst eo9
    obtain ⟨Ao10, co10, eo10⟩ := Kd.R_slice HO_3.out
    subst eo10
    go_wp2_with (first | (refine gl (some 13) Tryd.func73 #[.slice Ao10 x3_1.length co10] ?_; (with_reducible refine (api_Word_73.calls k1 (fun k_ => some k_ = (.slice Ao10 x3_1.length co10 : Value).ownBlock) (.slice Ao10 x3_1.length co10) x3_1 t160 w _ ?side1 ?side2 ?side3 A8.out).mono ?_); (case side1 => repeat (first | (with_reducible first | exact HB.out | apply below_alloc | apply pw_below_drewN | apply below_drew1) | exact HB.out)); (case side2 => exact Kd.R_tight rfl HO_3.out); (case side3 => exact HG.out); rintro e w11 ⟨rfl, hy0, hb, hkp⟩; refine ⟨_, rfl, ?_⟩; replace HO_4 := Aside0.mk (Kd.R_mono (ok' := fun k_ => True) (Kd.R_keptB ((Kd.R_apart' HO_4.out (Kd.R_typed HO_3.out) (by decide))) hkp (fun k_ hk_ hs_ => (hk_.2) hs_)) (fun k_ hk_ => trivial)); replace HO_3 := Aside0.mk (Kd.R_reok rfl hy0 (fun k_ e_ => HO_3.out.1 k_ e_)); replace HB := Aside0.mk (hb); (try clear hb); (try clear hkp); (try clear hy0)))
    (try simp only [Exit.inBlock, Exit.then, jump_ret])
    go_ret
    exact ⟨_, by first | rfl | (simp [errW_none, errW_some] <;> rfl) | (simp [*, errW_none, errW_some] <;> rfl), by (with_reducible repeat (first | apply Kd.R_alloc | apply Kd.R_drewN | apply Kd.R_drew)); exact HO_3.out, bE⟩
   rw [if_neg c7] at H
   obtain ⟨c7b0, c7b1⟩ := eqF c7
   have c7b2 : ¬ (x4_1 = []) := fun h_ => c7 (by rw [h_]; rfl)
   obtain ⟨ji12, hji12⟩ : ∃ j_ : Int, (wrap64 ((x4_1.length : Int) - 1)) = j_ := ⟨_, rfl⟩
   rw [hji12] at H
   have hji12w : (IntKind.i64.wrap ((x4_1.length : Int) - 1)) = ji12 := (i64_w _).trans hji12
   by_cases c13 : 0 ≤ (ji12)
   rotate_left
   ·rw [if_neg c13] at H
    exact absurd H (by simp)
   rw [if_pos c13] at H
   have c13b0 := dT c13
   clear c13
   by_cases c14 : (ji12) < (x4_1.length : Int)
   rotate_left
   ·rw [if_neg c14] at H
    exact absurd H (by simp)
   rw [if_pos c14] at H
   have c14b0 := dT c14
   clear c14
   replace H := bi H
   obtain ⟨⟨t162, t163⟩, A150, H⟩ := H
   try dsimp only at H
   have A15 := Aside0.mk A150
   clear A150
   by_cases c16 : (ji12) ≤ (x4_1.length : Int)
   rotate_left
   ·rw [if_neg c16] at H
    exact absurd H (by simp)
   rw [if_pos c16] at H
   have c16b0 := eq_true c16
   have c16b1 := dT c16
   clear c16
   obtain ⟨y165, hy165⟩ : ∃ y_ : List (S93), y_ = (x4_1.take ((ji12) : Int).toNat) := ⟨_, rfl⟩
   replace H : (if t162 = 6 then (if (x3_1.length : Int) > 0 then (if 0 ≤ (wrap64 ((x3_1.length : Int) - 1)) then (if (wrap64 ((x3_1.length : Int) - 1)) < (x3_1.length : Int) then (if ((rd_T38 x3_1 (wrap64 ((x3_1.length : Int) - 1))).f0) = 6 then (if x3_1.length < 5864062014805 then (words_Split.l0 k1 (x3_1 ++ [(⟨t162, t163⟩ : S38)]) y165) else (none)) else (if ((rd_T38 x3_1 (wrap64 ((x3_1.length : Int) - 1))).f0) = 10 then (if x3_1.length < 5864062014805 then (words_Split.l0 k1 (x3_1 ++ [(⟨t162, t163⟩ : S38)]) y165) else (none)) else (words_Split.l0 k1 x3_1 y165))) else (none)) else (none)) else (words_Split.l0 k1 x3_1 y165)) else (if x3_1.length < 5864062014805 then (words_Split.l0 k1 (x3_1 ++ [(⟨t162, t163⟩ : S38)]) y165) else (none))) = some r := by first | (rw [hy165]; with_reducible exact H) | (have H2_ := (Option.bind_some _ _).symm.trans H; rw [hy165]; with_reducible exact H2_) | (have H2_ := (Option.bind_some _ _).symm.trans H; with_reducible exact H2_) | with_reducible exact H | (rw [hy165]; exact H) | exact H
   have Ny165 := Aside0.mk hy165
   clear hy165
   by_cases c17 : t162 = 6
   rotate_left
   ·rw [if_neg c17] at H
    obtain ⟨c17b0, c17b1⟩ := eqF c17
    by_cases c60 : x3_1.length < 5864062014805
    rotate_left
    ·rw [if_neg c60] at H
     exact absurd H (by simp)
    rw [if_pos c60] at H
    have LMc60 := Aside0.mk c60
    clear c60
    obtain ⟨y176, hy176⟩ : ∃ y_ : List (S38), y_ = (x3_1 ++ [(⟨t162, t163⟩ : S38)]) := ⟨_, rfl⟩
    replace H : (words_Split.l0 k1 y176 y165) = some r := by first | (rw [hy176]; with_reducible exact H) | (have H2_ := (Option.bind_some _ _).symm.trans H; rw [hy176]; with_reducible exact H2_) | (have H2_ := (Option.bind_some _ _).symm.trans H; with_reducible exact H2_) | with_reducible exact H | (rw [hy176]; exact H) | exact H
    have Ny176 := Aside0.mk hy176
    clear hy176
    have H' := Aside0.mk H
    clear H
    obtain ⟨Ao61, co61, eo61⟩ := Kd.R_slice HO_4.out
    subst eo61
    have p161 : 0 ≤ ((ji12) : Int) := dA
    have q161 : (ji12) < (x4_1.length : Int) := dA
    obtain ⟨ad161, e161, hx161_0, hx161_1, hx161_2⟩ := at_T93 (Kd.R_reads' HO_4.out).2.2 (ji12) p161 q161
    cases e161
    replace p161 := eq_true p161
    replace q161 := eq_true q161
    go_wp2_with (first | ((with_reducible refine gate_callee (f := 74) rfl ?_); refine goesL_ (some 21) rfl rfl Tryd.func74 (by kernel_rfl) rfl #[.agg #[.string ((rd_T93 x4_1 (ji12)).f0), .bool ((rd_T93 x4_1 (ji12)).f1), .bool ((rd_T93 x4_1 (ji12)).f2)]] rfl (by (try simp only [List.map_toArray, List.map_cons, List.map_nil]); first | done | (simp only [hji12]; rfl) | rfl | (simp only [List.length_drop, List.length_take]; rfl)) ?_; (with_reducible refine (words_word.calls k1 ((rd_T93 x4_1 (ji12)).f0) ((rd_T93 x4_1 (ji12)).f1) ((rd_T93 x4_1 (ji12)).f2) t162 t163 _ (gS HG) A15.out).mono ?_); rintro e w62 ⟨rfl, hb⟩; refine ⟨_, rfl, ?_⟩; replace HO_3 := rB HO_3 hb; replace HO_4 := rB HO_4 hb; replace HB := sB hb; (try clear hb)) | ((with_reducible refine gate_dst (N := 5) rfl ?_); (try (refine gate_guard (by rfl) ?_; dsimp only)); refine be 5 #[.int .i64 0, .string (⟨#[]⟩ : ByteArray)] 38 ?_; intro gb164 hg w63 hbox hb; replace HO_3 := Aside0.mk (Kd.R_below (Kd.R_elderB (kR HO_3) gb164 (Nat.le_of_eq hg.symm)) hb); replace HO_4 := rB HO_4 hb; have BK164 := Aside0.mk (hbox); have GW164 := gW hg; have GE164 := gW hg; replace HB := sB hb; clear hb hbox hg; have hcz64_0 : w63.cell? ⟨gb164, 0, none⟩ = some (.int .i64 0) := (blk_cell BK164.out 0).trans rfl; have hcz64_1 : w63.cell? ⟨gb164, 1, none⟩ = some (.string (⟨#[]⟩ : ByteArray)) := (blk_cell BK164.out 1).trans rfl; have hfz64_0 := blk_frozen BK164.out 0; have hfz64_1 := blk_frozen BK164.out 1) | ((with_reducible refine gate_store (t := 38) (p := 5) rfl ?_); refine store_event (t := 38) (p := 5) (v := ?vo_w65) (w1 := ((w63.setCell ⟨gb164, 0, none⟩ (.int .i64 t162)).setCell ⟨gb164, 1, none⟩ (.string t163))) ?hg ?ho ?hn ?hr ?_; (case ho => rfl); (case hg => rfl); (case hn => rfl); (case hr => first | (go_simp; done) | (go_simp; rfl)); intro w65 hw; replace HO_3 : Aside0 (Kd.R k38 38 w65 w.heap.size (fun k_ => k_ ≠ gb164) u3 x3_1) := ⟨(by rw [hw]; exact (by (with_reducible repeat (first | apply Kd.R_alloc | apply Kd.R_drewN | apply Kd.R_drew)); exact Kd.R_mono (Kd.R_far (p := ⟨gb164, 1, none⟩) (Kd.R_far (p := ⟨gb164, 0, none⟩) (Kd.R_mono HO_3.out (fun k_ hk => (⟨hk, hk.2⟩ : _ ∧ k_ ≠ gb164))) (fun _ hk => hk.2) (.int .i64 t162)) (fun _ hk => hk.2) (.string t163)) (fun _ hk => hk.1.2)))⟩; replace HO_4 : Aside0 (Kd.R k93 93 w65 w.heap.size (fun _ => True) (.slice (some ad161) x4_1.length co61) x4_1) := ⟨(by rw [hw]; exact (by (with_reducible repeat (first | apply Kd.R_alloc | apply Kd.R_drewN | apply Kd.R_drew)); exact Kd.R_mono (Kd.R_far (p := ⟨gb164, 1, none⟩) (Kd.R_far (p := ⟨gb164, 0, none⟩) (Kd.R_types HO_4.out BK164.out (by decide)) (fun _ hk => hk.2) (.int .i64 t162)) (fun _ hk => hk.2) (.string t163)) (fun _ hk => trivial)))⟩; replace BK164 : Aside0 (w65.heap[gb164]? = some (.cells #[.int .i64 t162, .string t163] 38 (0, 0))) := ⟨(by rw [hw]; exact (bP BK164))⟩; replace HB : Aside0 (Below w.heap.size w w65) := ⟨(by rw [hw]; exact bG)⟩; clear hw; have q66 : ((ji12) : Int) ≤ ((x4_1.length : Int) : Int) := dA; obtain ⟨i066, hi066, _, hsz66, _⟩ := info_parts info93; have hcut66 := cut_to (P := Tryd.prog) 87 93 .i64 Tryd.underlying87 hi066 (some ad161) x4_1.length co61 (ji12) (dA) q66 (Kd.R_reads' HO_4.out).2.1; have hr66 := Kd.R_take (m := ((ji12) : Int).toNat) HO_4.out (by omega); have hy66 : y165.length = ((ji12) : Int).toNat := (by rw [Ny165.out, List.length_take]; omega); rw [← Ny165.out] at hr66; rw [← hy66] at hr66 hcut66; clear hy66 hi066 hsz66 HO_4; have HO167 := Aside0.mk hr66; clear hr66; replace q66 := eq_true q66; have hcz67_0 : w65.cell? ⟨gb164, 0, none⟩ = some (.int .i64 t162) := (blk_cell BK164.out 0).trans rfl; have hcz67_1 : w65.cell? ⟨gb164, 1, none⟩ = some (.string t163) := (blk_cell BK164.out 1).trans rfl; have hfz67_0 := blk_frozen BK164.out 0; have hfz67_1 := blk_frozen BK164.out 1) | ((with_reducible refine gate_builtin (b := .append) (xs := #[.tmp 55, .tmp 57]) rfl ?_); (try (refine gate_guard (by rfl) ?_; dsimp only)); at_builtin; refine Kd.R_append k38 (w0 := w) w.heap.size rfl (.tmp 55) (.tmp 57) 39 38 (.agg #[(.int .i64 0), (.string ⟨#[]⟩)]) 24 rfl Tryd.underlying39 info38 rfl (by decide) (by omega) u3 x3_1 (⟨t162, t163⟩ : S38) [.int .i64 t162, .string t163] (fun k_ => k_ ≠ gb164) (fun _ => False) rfl rfl ?aP (fun _ hk => hk.elim) ?aF ?aO ?aB ?aS ?aL ?_; (case aP => exact k38_mkM _ _ _ (⟨t162, t163⟩ : S38)); (case aB => exact bG); (case aF => exact (fun k_ hk => Kd.freshB (g := gb164) (o := .cells #[.int .i64 t162, .string t163] 38 (0, 0)) (bK BK164) k_ hk)); (case aO => exact (kR HO_3)); (case aS => exact (below_size bG)); (case aL => have := LMc60.out; omega); intro v177 w68 ho hb hg hat; rw [← Ny176.out] at ho; replace HO167 := Aside0.mk (Kd.R_over' (kR HO167) (Kd.R_typed (kR HO_3)) (by decide) hg); replace BK164 := Aside0.mk (blk_grown (g := gb164) (o := .cells #[.int .i64 t162, .string t163] 38 (0, 0)) (bK BK164) hg (Kd.R_away HO_3.out (fun _ hk => hk))); replace HB := Aside0.mk (hb); have HO178 := Aside0.mk (ho); clear HO_3; clear ho hb hg hat))
    refine wp_goto (And.intro rfl ?_)
    refine hKs0 _ _ ?_
    go_roundg k1
    case measure => have := HK1.out; omega
    case rel => exact ⟨(y176), (y165), H', ⟨by have := HK1.out; omega⟩, ⟨by (with_reducible repeat (first | apply Kd.R_alloc | apply Kd.R_drewN | apply Kd.R_drew)); exact Kd.R_mono HO178.out (fun _ hk => trivial)⟩, ⟨kR HO167⟩, ⟨bG⟩⟩
   rw [if_pos c17] at H
   obtain ⟨c17b0, c17b1⟩ := eqT c17
   clear c17
   by_cases c18 : (x3_1.length : Int) > 0
   rotate_left
   ·rw [if_neg c18] at H
    have c18b0 := dF c18
    have c18b1 : decide (0 < x3_1.length) = false := decide_eq_false (by omega)
    clear c18
    have H' := Aside0.mk H
    clear H
    obtain ⟨Ao52, co52, eo52⟩ := Kd.R_slice HO_4.out
    subst eo52
    have p161 : 0 ≤ ((ji12) : Int) := dA
    have q161 : (ji12) < (x4_1.length : Int) := dA
    obtain ⟨ad161, e161, hx161_0, hx161_1, hx161_2⟩ := at_T93 (Kd.R_reads' HO_4.out).2.2 (ji12) p161 q161
    cases e161
    replace p161 := eq_true p161
    replace q161 := eq_true q161
    go_wp2_with (first | ((with_reducible refine gate_callee (f := 74) rfl ?_); refine goesL_ (some 21) rfl rfl Tryd.func74 (by kernel_rfl) rfl #[.agg #[.string ((rd_T93 x4_1 (ji12)).f0), .bool ((rd_T93 x4_1 (ji12)).f1), .bool ((rd_T93 x4_1 (ji12)).f2)]] rfl (by (try simp only [List.map_toArray, List.map_cons, List.map_nil]); first | done | (simp only [hji12]; rfl) | rfl | (simp only [List.length_drop, List.length_take]; rfl)) ?_; (with_reducible refine (words_word.calls k1 ((rd_T93 x4_1 (ji12)).f0) ((rd_T93 x4_1 (ji12)).f1) ((rd_T93 x4_1 (ji12)).f2) t162 t163 _ (gS HG) A15.out).mono ?_); rintro e w53 ⟨rfl, hb⟩; refine ⟨_, rfl, ?_⟩; replace HO_3 := rB HO_3 hb; replace HO_4 := rB HO_4 hb; replace HB := sB hb; (try clear hb)) | ((with_reducible refine gate_dst (N := 5) rfl ?_); (try (refine gate_guard (by rfl) ?_; dsimp only)); refine be 5 #[.int .i64 0, .string (⟨#[]⟩ : ByteArray)] 38 ?_; intro gb164 hg w54 hbox hb; replace HO_3 := Aside0.mk (Kd.R_below (Kd.R_elderB (kR HO_3) gb164 (Nat.le_of_eq hg.symm)) hb); replace HO_4 := rB HO_4 hb; have BK164 := Aside0.mk (hbox); have GW164 := gW hg; have GE164 := gW hg; replace HB := sB hb; clear hb hbox hg; have hcz55_0 : w54.cell? ⟨gb164, 0, none⟩ = some (.int .i64 0) := (blk_cell BK164.out 0).trans rfl; have hcz55_1 : w54.cell? ⟨gb164, 1, none⟩ = some (.string (⟨#[]⟩ : ByteArray)) := (blk_cell BK164.out 1).trans rfl; have hfz55_0 := blk_frozen BK164.out 0; have hfz55_1 := blk_frozen BK164.out 1) | ((with_reducible refine gate_store (t := 38) (p := 5) rfl ?_); refine store_event (t := 38) (p := 5) (v := ?vo_w56) (w1 := ((w54.setCell ⟨gb164, 0, none⟩ (.int .i64 t162)).setCell ⟨gb164, 1, none⟩ (.string t163))) ?hg ?ho ?hn ?hr ?_; (case ho => rfl); (case hg => rfl); (case hn => rfl); (case hr => first | (go_simp; done) | (go_simp; rfl)); intro w56 hw; replace HO_3 : Aside0 (Kd.R k38 38 w56 w.heap.size (fun k_ => k_ ≠ gb164) u3 x3_1) := ⟨(by rw [hw]; exact (by (with_reducible repeat (first | apply Kd.R_alloc | apply Kd.R_drewN | apply Kd.R_drew)); exact Kd.R_mono (Kd.R_far (p := ⟨gb164, 1, none⟩) (Kd.R_far (p := ⟨gb164, 0, none⟩) (Kd.R_mono HO_3.out (fun k_ hk => (⟨hk, hk.2⟩ : _ ∧ k_ ≠ gb164))) (fun _ hk => hk.2) (.int .i64 t162)) (fun _ hk => hk.2) (.string t163)) (fun _ hk => hk.1.2)))⟩; replace HO_4 : Aside0 (Kd.R k93 93 w56 w.heap.size (fun _ => True) (.slice (some ad161) x4_1.length co52) x4_1) := ⟨(by rw [hw]; exact (by (with_reducible repeat (first | apply Kd.R_alloc | apply Kd.R_drewN | apply Kd.R_drew)); exact Kd.R_mono (Kd.R_far (p := ⟨gb164, 1, none⟩) (Kd.R_far (p := ⟨gb164, 0, none⟩) (Kd.R_types HO_4.out BK164.out (by decide)) (fun _ hk => hk.2) (.int .i64 t162)) (fun _ hk => hk.2) (.string t163)) (fun _ hk => trivial)))⟩; replace BK164 : Aside0 (w56.heap[gb164]? = some (.cells #[.int .i64 t162, .string t163] 38 (0, 0))) := ⟨(by rw [hw]; exact (bP BK164))⟩; replace HB : Aside0 (Below w.heap.size w w56) := ⟨(by rw [hw]; exact bG)⟩; clear hw; have q57 : ((ji12) : Int) ≤ ((x4_1.length : Int) : Int) := dA; obtain ⟨i057, hi057, _, hsz57, _⟩ := info_parts info93; have hcut57 := cut_to (P := Tryd.prog) 87 93 .i64 Tryd.underlying87 hi057 (some ad161) x4_1.length co52 (ji12) (dA) q57 (Kd.R_reads' HO_4.out).2.1; have hr57 := Kd.R_take (m := ((ji12) : Int).toNat) HO_4.out (by omega); have hy57 : y165.length = ((ji12) : Int).toNat := (by rw [Ny165.out, List.length_take]; omega); rw [← Ny165.out] at hr57; rw [← hy57] at hr57 hcut57; clear hy57 hi057 hsz57 HO_4; have HO167 := Aside0.mk hr57; clear hr57; replace q57 := eq_true q57; have hcz58_0 : w56.cell? ⟨gb164, 0, none⟩ = some (.int .i64 t162) := (blk_cell BK164.out 0).trans rfl; have hcz58_1 : w56.cell? ⟨gb164, 1, none⟩ = some (.string t163) := (blk_cell BK164.out 1).trans rfl; have hfz58_0 := blk_frozen BK164.out 0; have hfz58_1 := blk_frozen BK164.out 1; obtain ⟨Ao59, co59, eo59⟩ := Kd.R_slice HO_3.out; subst eo59))
    refine wp_goto (And.intro rfl ?_)
    refine hKs0 _ _ ?_
    go_roundg k1
    case measure => have := HK1.out; omega
    case rel => exact ⟨(x3_1), (y165), H', ⟨by have := HK1.out; omega⟩, ⟨by (with_reducible repeat (first | apply Kd.R_alloc | apply Kd.R_drewN | apply Kd.R_drew)); exact Kd.R_mono HO_3.out (fun _ hk => trivial)⟩, ⟨kR HO167⟩, ⟨bG⟩⟩
   rw [if_pos c18] at H
   have c18b0 := dT c18
   have c18b1 : decide (0 < x3_1.length) = true := decide_eq_true (by omega)
   clear c18
   obtain ⟨ji19, hji19⟩ : ∃ j_ : Int, (wrap64 ((x3_1.length : Int) - 1)) = j_ := ⟨_, rfl⟩
   rw [hji19] at H
   (try rw [hji19] at A15)
   have hji19w : (IntKind.i64.wrap ((x3_1.length : Int) - 1)) = ji19 := (i64_w _).trans hji19
   by_cases c20 : 0 ≤ (ji19)
   rotate_left
   ·rw [if_neg c20] at H
    exact absurd H (by simp)
   rw [if_pos c20] at H
   have c20b0 := dT c20
   clear c20
   by_cases c21 : (ji19) < (x3_1.length : Int)
   rotate_left
   ·rw [if_neg c21] at H
    exact absurd H (by simp)
   rw [if_pos c21] at H
   have c21b0 := dT c21
   clear c21
   by_cases c22 : ((rd_T38 x3_1 (ji19)).f0) = 6
   ·rw [if_pos c22] at H
    obtain ⟨c22b0, c22b1⟩ := eqT c22
    clear c22
    by_cases c23 : x3_1.length < 5864062014805
    rotate_left
    ·rw [if_neg c23] at H
     exact absurd H (by simp)
    rw [if_pos c23] at H
    have LMc23 := Aside0.mk c23
    clear c23
    obtain ⟨y169, hy169⟩ : ∃ y_ : List (S38), y_ = (x3_1 ++ [(⟨t162, t163⟩ : S38)]) := ⟨_, rfl⟩
    replace H : (words_Split.l0 k1 y169 y165) = some r := by first | (rw [hy169]; with_reducible exact H) | (have H2_ := (Option.bind_some _ _).symm.trans H; rw [hy169]; with_reducible exact H2_) | (have H2_ := (Option.bind_some _ _).symm.trans H; with_reducible exact H2_) | with_reducible exact H | (rw [hy169]; exact H) | exact H
    have Ny169 := Aside0.mk hy169
    clear hy169
    have H' := Aside0.mk H
    clear H
    obtain ⟨Ao24, co24, eo24⟩ := Kd.R_slice HO_4.out
    subst eo24
    have p161 : 0 ≤ ((ji12) : Int) := dA
    have q161 : (ji12) < (x4_1.length : Int) := dA
    obtain ⟨ad161, e161, hx161_0, hx161_1, hx161_2⟩ := at_T93 (Kd.R_reads' HO_4.out).2.2 (ji12) p161 q161
    cases e161
    replace p161 := eq_true p161
    replace q161 := eq_true q161
    go_wp2_with (first | ((with_reducible refine gate_callee (f := 74) rfl ?_); refine goesL_ (some 21) rfl rfl Tryd.func74 (by kernel_rfl) rfl #[.agg #[.string ((rd_T93 x4_1 (ji12)).f0), .bool ((rd_T93 x4_1 (ji12)).f1), .bool ((rd_T93 x4_1 (ji12)).f2)]] rfl (by (try simp only [List.map_toArray, List.map_cons, List.map_nil]); first | done | (simp only [hji12]; rfl) | rfl | (simp only [List.length_drop, List.length_take]; rfl)) ?_; (with_reducible refine (words_word.calls k1 ((rd_T93 x4_1 (ji12)).f0) ((rd_T93 x4_1 (ji12)).f1) ((rd_T93 x4_1 (ji12)).f2) t162 t163 _ (gS HG) A15.out).mono ?_); rintro e w25 ⟨rfl, hb⟩; refine ⟨_, rfl, ?_⟩; replace HO_3 := rB HO_3 hb; replace HO_4 := rB HO_4 hb; replace HB := sB hb; (try clear hb)) | ((with_reducible refine gate_dst (N := 5) rfl ?_); (try (refine gate_guard (by rfl) ?_; dsimp only)); refine be 5 #[.int .i64 0, .string (⟨#[]⟩ : ByteArray)] 38 ?_; intro gb164 hg w26 hbox hb; replace HO_3 := Aside0.mk (Kd.R_below (Kd.R_elderB (kR HO_3) gb164 (Nat.le_of_eq hg.symm)) hb); replace HO_4 := rB HO_4 hb; have BK164 := Aside0.mk (hbox); have GW164 := gW hg; have GE164 := gW hg; replace HB := sB hb; clear hb hbox hg; have hcz27_0 : w26.cell? ⟨gb164, 0, none⟩ = some (.int .i64 0) := (blk_cell BK164.out 0).trans rfl; have hcz27_1 : w26.cell? ⟨gb164, 1, none⟩ = some (.string (⟨#[]⟩ : ByteArray)) := (blk_cell BK164.out 1).trans rfl; have hfz27_0 := blk_frozen BK164.out 0; have hfz27_1 := blk_frozen BK164.out 1) | ((with_reducible refine gate_store (t := 38) (p := 5) rfl ?_); refine store_event (t := 38) (p := 5) (v := ?vo_w28) (w1 := ((w26.setCell ⟨gb164, 0, none⟩ (.int .i64 t162)).setCell ⟨gb164, 1, none⟩ (.string t163))) ?hg ?ho ?hn ?hr ?_; (case ho => rfl); (case hg => rfl); (case hn => rfl); (case hr => first | (go_simp; done) | (go_simp; rfl)); intro w28 hw; replace HO_3 : Aside0 (Kd.R k38 38 w28 w.heap.size (fun k_ => k_ ≠ gb164) u3 x3_1) := ⟨(by rw [hw]; exact (by (with_reducible repeat (first | apply Kd.R_alloc | apply Kd.R_drewN | apply Kd.R_drew)); exact Kd.R_mono (Kd.R_far (p := ⟨gb164, 1, none⟩) (Kd.R_far (p := ⟨gb164, 0, none⟩) (Kd.R_mono HO_3.out (fun k_ hk => (⟨hk, hk.2⟩ : _ ∧ k_ ≠ gb164))) (fun _ hk => hk.2) (.int .i64 t162)) (fun _ hk => hk.2) (.string t163)) (fun _ hk => hk.1.2)))⟩; replace HO_4 : Aside0 (Kd.R k93 93 w28 w.heap.size (fun _ => True) (.slice (some ad161) x4_1.length co24) x4_1) := ⟨(by rw [hw]; exact (by (with_reducible repeat (first | apply Kd.R_alloc | apply Kd.R_drewN | apply Kd.R_drew)); exact Kd.R_mono (Kd.R_far (p := ⟨gb164, 1, none⟩) (Kd.R_far (p := ⟨gb164, 0, none⟩) (Kd.R_types HO_4.out BK164.out (by decide)) (fun _ hk => hk.2) (.int .i64 t162)) (fun _ hk => hk.2) (.string t163)) (fun _ hk => trivial)))⟩; replace BK164 : Aside0 (w28.heap[gb164]? = some (.cells #[.int .i64 t162, .string t163] 38 (0, 0))) := ⟨(by rw [hw]; exact (bP BK164))⟩; replace HB : Aside0 (Below w.heap.size w w28) := ⟨(by rw [hw]; exact bG)⟩; clear hw; have q29 : ((ji12) : Int) ≤ ((x4_1.length : Int) : Int) := dA; obtain ⟨i029, hi029, _, hsz29, _⟩ := info_parts info93; have hcut29 := cut_to (P := Tryd.prog) 87 93 .i64 Tryd.underlying87 hi029 (some ad161) x4_1.length co24 (ji12) (dA) q29 (Kd.R_reads' HO_4.out).2.1; have hr29 := Kd.R_take (m := ((ji12) : Int).toNat) HO_4.out (by omega); have hy29 : y165.length = ((ji12) : Int).toNat := (by rw [Ny165.out, List.length_take]; omega); rw [← Ny165.out] at hr29; rw [← hy29] at hr29 hcut29; clear hy29 hi029 hsz29 HO_4; have HO167 := Aside0.mk hr29; clear hr29; replace q29 := eq_true q29; have hcz30_0 : w28.cell? ⟨gb164, 0, none⟩ = some (.int .i64 t162) := (blk_cell BK164.out 0).trans rfl; have hcz30_1 : w28.cell? ⟨gb164, 1, none⟩ = some (.string t163) := (blk_cell BK164.out 1).trans rfl; have hfz30_0 := blk_frozen BK164.out 0; have hfz30_1 := blk_frozen BK164.out 1; obtain ⟨Ao31, co31, eo31⟩ := Kd.R_slice HO_3.out; subst eo31; have p168 : 0 ≤ ((ji19) : Int) := dA; have q168 : (ji19) < (x3_1.length : Int) := dA; obtain ⟨ad168, e168, hx168_0, hx168_1⟩ := at_T38 (Kd.R_reads' HO_3.out).2.2 (ji19) p168 q168; cases e168; replace p168 := eq_true p168; replace q168 := eq_true q168) | ((with_reducible refine gate_builtin (b := .append) (xs := #[.tmp 55, .tmp 57]) rfl ?_); (try (refine gate_guard (by rfl) ?_; dsimp only)); at_builtin; refine Kd.R_append k38 (w0 := w) w.heap.size rfl (.tmp 55) (.tmp 57) 39 38 (.agg #[(.int .i64 0), (.string ⟨#[]⟩)]) 24 rfl Tryd.underlying39 info38 rfl (by decide) (by omega) (.slice (some ad168) x3_1.length co31) x3_1 (⟨t162, t163⟩ : S38) [.int .i64 t162, .string t163] (fun k_ => k_ ≠ gb164) (fun _ => False) rfl rfl ?aP (fun _ hk => hk.elim) ?aF ?aO ?aB ?aS ?aL ?_; (case aP => exact k38_mkM _ _ _ (⟨t162, t163⟩ : S38)); (case aB => exact bG); (case aF => exact (fun k_ hk => Kd.freshB (g := gb164) (o := .cells #[.int .i64 t162, .string t163] 38 (0, 0)) (bK BK164) k_ hk)); (case aO => exact (kR HO_3)); (case aS => exact (below_size bG)); (case aL => have := LMc23.out; omega); intro v170 w32 ho hb hg hat; rw [← Ny169.out] at ho; replace HO167 := Aside0.mk (Kd.R_over' (kR HO167) (Kd.R_typed (kR HO_3)) (by decide) hg); replace BK164 := Aside0.mk (blk_grown (g := gb164) (o := .cells #[.int .i64 t162, .string t163] 38 (0, 0)) (bK BK164) hg (Kd.R_away HO_3.out (fun _ hk => hk))); replace HB := Aside0.mk (hb); have HO171 := Aside0.mk (ho); clear HO_3; clear ho hb hg hat))
    refine wp_goto (And.intro rfl ?_)
    refine hKs0 _ _ ?_
    go_roundg k1
    case measure => have := HK1.out; omega
    case rel => exact ⟨(y169), (y165), H', ⟨by have := HK1.out; omega⟩, ⟨by (with_reducible repeat (first | apply Kd.R_alloc | apply Kd.R_drewN | apply Kd.R_drew)); exact Kd.R_mono HO171.out (fun _ hk => trivial)⟩, ⟨kR HO167⟩, ⟨bG⟩⟩
   rw [if_neg c22] at H
   obtain ⟨c22b0, c22b1⟩ := eqF c22
   by_cases c33 : ((rd_T38 x3_1 (ji19)).f0) = 10
   rotate_left
   ·rw [if_neg c33] at H
    obtain ⟨c33b0, c33b1⟩ := eqF c33
    have H' := Aside0.mk H
    clear H
    obtain ⟨Ao44, co44, eo44⟩ := Kd.R_slice HO_4.out
    subst eo44
    have p161 : 0 ≤ ((ji12) : Int) := dA
    have q161 : (ji12) < (x4_1.length : Int) := dA
    obtain ⟨ad161, e161, hx161_0, hx161_1, hx161_2⟩ := at_T93 (Kd.R_reads' HO_4.out).2.2 (ji12) p161 q161
    cases e161
    replace p161 := eq_true p161
    replace q161 := eq_true q161
    go_wp2_with (first | ((with_reducible refine gate_callee (f := 74) rfl ?_); refine goesL_ (some 21) rfl rfl Tryd.func74 (by kernel_rfl) rfl #[.agg #[.string ((rd_T93 x4_1 (ji12)).f0), .bool ((rd_T93 x4_1 (ji12)).f1), .bool ((rd_T93 x4_1 (ji12)).f2)]] rfl (by (try simp only [List.map_toArray, List.map_cons, List.map_nil]); first | done | (simp only [hji12]; rfl) | rfl | (simp only [List.length_drop, List.length_take]; rfl)) ?_; (with_reducible refine (words_word.calls k1 ((rd_T93 x4_1 (ji12)).f0) ((rd_T93 x4_1 (ji12)).f1) ((rd_T93 x4_1 (ji12)).f2) t162 t163 _ (gS HG) A15.out).mono ?_); rintro e w45 ⟨rfl, hb⟩; refine ⟨_, rfl, ?_⟩; replace HO_3 := rB HO_3 hb; replace HO_4 := rB HO_4 hb; replace HB := sB hb; (try clear hb)) | ((with_reducible refine gate_dst (N := 5) rfl ?_); (try (refine gate_guard (by rfl) ?_; dsimp only)); refine be 5 #[.int .i64 0, .string (⟨#[]⟩ : ByteArray)] 38 ?_; intro gb164 hg w46 hbox hb; replace HO_3 := Aside0.mk (Kd.R_below (Kd.R_elderB (kR HO_3) gb164 (Nat.le_of_eq hg.symm)) hb); replace HO_4 := rB HO_4 hb; have BK164 := Aside0.mk (hbox); have GW164 := gW hg; have GE164 := gW hg; replace HB := sB hb; clear hb hbox hg; have hcz47_0 : w46.cell? ⟨gb164, 0, none⟩ = some (.int .i64 0) := (blk_cell BK164.out 0).trans rfl; have hcz47_1 : w46.cell? ⟨gb164, 1, none⟩ = some (.string (⟨#[]⟩ : ByteArray)) := (blk_cell BK164.out 1).trans rfl; have hfz47_0 := blk_frozen BK164.out 0; have hfz47_1 := blk_frozen BK164.out 1) | ((with_reducible refine gate_store (t := 38) (p := 5) rfl ?_); refine store_event (t := 38) (p := 5) (v := ?vo_w48) (w1 := ((w46.setCell ⟨gb164, 0, none⟩ (.int .i64 t162)).setCell ⟨gb164, 1, none⟩ (.string t163))) ?hg ?ho ?hn ?hr ?_; (case ho => rfl); (case hg => rfl); (case hn => rfl); (case hr => first | (go_simp; done) | (go_simp; rfl)); intro w48 hw; replace HO_3 : Aside0 (Kd.R k38 38 w48 w.heap.size (fun k_ => k_ ≠ gb164) u3 x3_1) := ⟨(by rw [hw]; exact (by (with_reducible repeat (first | apply Kd.R_alloc | apply Kd.R_drewN | apply Kd.R_drew)); exact Kd.R_mono (Kd.R_far (p := ⟨gb164, 1, none⟩) (Kd.R_far (p := ⟨gb164, 0, none⟩) (Kd.R_mono HO_3.out (fun k_ hk => (⟨hk, hk.2⟩ : _ ∧ k_ ≠ gb164))) (fun _ hk => hk.2) (.int .i64 t162)) (fun _ hk => hk.2) (.string t163)) (fun _ hk => hk.1.2)))⟩; replace HO_4 : Aside0 (Kd.R k93 93 w48 w.heap.size (fun _ => True) (.slice (some ad161) x4_1.length co44) x4_1) := ⟨(by rw [hw]; exact (by (with_reducible repeat (first | apply Kd.R_alloc | apply Kd.R_drewN | apply Kd.R_drew)); exact Kd.R_mono (Kd.R_far (p := ⟨gb164, 1, none⟩) (Kd.R_far (p := ⟨gb164, 0, none⟩) (Kd.R_types HO_4.out BK164.out (by decide)) (fun _ hk => hk.2) (.int .i64 t162)) (fun _ hk => hk.2) (.string t163)) (fun _ hk => trivial)))⟩; replace BK164 : Aside0 (w48.heap[gb164]? = some (.cells #[.int .i64 t162, .string t163] 38 (0, 0))) := ⟨(by rw [hw]; exact (bP BK164))⟩; replace HB : Aside0 (Below w.heap.size w w48) := ⟨(by rw [hw]; exact bG)⟩; clear hw; have q49 : ((ji12) : Int) ≤ ((x4_1.length : Int) : Int) := dA; obtain ⟨i049, hi049, _, hsz49, _⟩ := info_parts info93; have hcut49 := cut_to (P := Tryd.prog) 87 93 .i64 Tryd.underlying87 hi049 (some ad161) x4_1.length co44 (ji12) (dA) q49 (Kd.R_reads' HO_4.out).2.1; have hr49 := Kd.R_take (m := ((ji12) : Int).toNat) HO_4.out (by omega); have hy49 : y165.length = ((ji12) : Int).toNat := (by rw [Ny165.out, List.length_take]; omega); rw [← Ny165.out] at hr49; rw [← hy49] at hr49 hcut49; clear hy49 hi049 hsz49 HO_4; have HO167 := Aside0.mk hr49; clear hr49; replace q49 := eq_true q49; have hcz50_0 : w48.cell? ⟨gb164, 0, none⟩ = some (.int .i64 t162) := (blk_cell BK164.out 0).trans rfl; have hcz50_1 : w48.cell? ⟨gb164, 1, none⟩ = some (.string t163) := (blk_cell BK164.out 1).trans rfl; have hfz50_0 := blk_frozen BK164.out 0; have hfz50_1 := blk_frozen BK164.out 1; obtain ⟨Ao51, co51, eo51⟩ := Kd.R_slice HO_3.out; subst eo51; have p168 : 0 ≤ ((ji19) : Int) := dA; have q168 : (ji19) < (x3_1.length : Int) := dA; obtain ⟨ad168, e168, hx168_0, hx168_1⟩ := at_T38 (Kd.R_reads' HO_3.out).2.2 (ji19) p168 q168; cases e168; replace p168 := eq_true p168; replace q168 := eq_true q168; have p172 : 0 ≤ ((ji19) : Int) := dA; have q172 : (ji19) < (x3_1.length : Int) := dA; obtain ⟨ad172, e172, hx172_0, hx172_1⟩ := at_T38 (Kd.R_reads' HO_3.out).2.2 (ji19) p172 q172; obtain rfl : ad168 = ad172 := (by injection e172); replace p172 := eq_true p172; replace q172 := eq_true q172))
    refine wp_goto (And.intro rfl ?_)
    refine hKs0 _ _ ?_
    go_roundg k1
    case measure => have := HK1.out; omega
    case rel => exact ⟨(x3_1), (y165), H', ⟨by have := HK1.out; omega⟩, ⟨by (with_reducible repeat (first | apply Kd.R_alloc | apply Kd.R_drewN | apply Kd.R_drew)); exact Kd.R_mono HO_3.out (fun _ hk => trivial)⟩, ⟨kR HO167⟩, ⟨bG⟩⟩
   rw [if_pos c33] at H
   obtain ⟨c33b0, c33b1⟩ := eqT c33
   clear c33
   by_cases c34 : x3_1.length < 5864062014805
   rotate_left
   ·rw [if_neg c34] at H
    exact absurd H (by simp)
   rw [if_pos c34] at H
   have LMc34 := Aside0.mk c34
   clear c34
   obtain ⟨y173, hy173⟩ : ∃ y_ : List (S38), y_ = (x3_1 ++ [(⟨t162, t163⟩ : S38)]) := ⟨_, rfl⟩
   replace H : (words_Split.l0 k1 y173 y165) = some r := by first | (rw [hy173]; with_reducible exact H) | (have H2_ := (Option.bind_some _ _).symm.trans H; rw [hy173]; with_reducible exact H2_) | (have H2_ := (Option.bind_some _ _).symm.trans H; with_reducible exact H2_) | with_reducible exact H | (rw [hy173]; exact H) | exact H
   have Ny173 := Aside0.mk hy173
   clear hy173
   have H' := Aside0.mk H
   clear H
   obtain ⟨Ao35, co35, eo35⟩ := Kd.R_slice HO_4.out
   subst eo35
   have p161 : 0 ≤ ((ji12) : Int) := dA
   have q161 : (ji12) < (x4_1.length : Int) := dA
   obtain ⟨ad161, e161, hx161_0, hx161_1, hx161_2⟩ := at_T93 (Kd.R_reads' HO_4.out).2.2 (ji12) p161 q161
   cases e161
   replace p161 := eq_true p161
   replace q161 := eq_true q161
   go_wp2_with (first | ((with_reducible refine gate_callee (f := 74) rfl ?_); refine goesL_ (some 21) rfl rfl Tryd.func74 (by kernel_rfl) rfl #[.agg #[.string ((rd_T93 x4_1 (ji12)).f0), .bool ((rd_T93 x4_1 (ji12)).f1), .bool ((rd_T93 x4_1 (ji12)).f2)]] rfl (by (try simp only [List.map_toArray, List.map_cons, List.map_nil]); first | done | (simp only [hji12]; rfl) | rfl | (simp only [List.length_drop, List.length_take]; rfl)) ?_; (with_reducible refine (words_word.calls k1 ((rd_T93 x4_1 (ji12)).f0) ((rd_T93 x4_1 (ji12)).f1) ((rd_T93 x4_1 (ji12)).f2) t162 t163 _ (gS HG) A15.out).mono ?_); rintro e w36 ⟨rfl, hb⟩; refine ⟨_, rfl, ?_⟩; replace HO_3 := rB HO_3 hb; replace HO_4 := rB HO_4 hb; replace HB := sB hb; (try clear hb)) | ((with_reducible refine gate_dst (N := 5) rfl ?_); (try (refine gate_guard (by rfl) ?_; dsimp only)); refine be 5 #[.int .i64 0, .string (⟨#[]⟩ : ByteArray)] 38 ?_; intro gb164 hg w37 hbox hb; replace HO_3 := Aside0.mk (Kd.R_below (Kd.R_elderB (kR HO_3) gb164 (Nat.le_of_eq hg.symm)) hb); replace HO_4 := rB HO_4 hb; have BK164 := Aside0.mk (hbox); have GW164 := gW hg; have GE164 := gW hg; replace HB := sB hb; clear hb hbox hg; have hcz38_0 : w37.cell? ⟨gb164, 0, none⟩ = some (.int .i64 0) := (blk_cell BK164.out 0).trans rfl; have hcz38_1 : w37.cell? ⟨gb164, 1, none⟩ = some (.string (⟨#[]⟩ : ByteArray)) := (blk_cell BK164.out 1).trans rfl; have hfz38_0 := blk_frozen BK164.out 0; have hfz38_1 := blk_frozen BK164.out 1) | ((with_reducible refine gate_store (t := 38) (p := 5) rfl ?_); refine store_event (t := 38) (p := 5) (v := ?vo_w39) (w1 := ((w37.setCell ⟨gb164, 0, none⟩ (.int .i64 t162)).setCell ⟨gb164, 1, none⟩ (.string t163))) ?hg ?ho ?hn ?hr ?_; (case ho => rfl); (case hg => rfl); (case hn => rfl); (case hr => first | (go_simp; done) | (go_simp; rfl)); intro w39 hw; replace HO_3 : Aside0 (Kd.R k38 38 w39 w.heap.size (fun k_ => k_ ≠ gb164) u3 x3_1) := ⟨(by rw [hw]; exact (by (with_reducible repeat (first | apply Kd.R_alloc | apply Kd.R_drewN | apply Kd.R_drew)); exact Kd.R_mono (Kd.R_far (p := ⟨gb164, 1, none⟩) (Kd.R_far (p := ⟨gb164, 0, none⟩) (Kd.R_mono HO_3.out (fun k_ hk => (⟨hk, hk.2⟩ : _ ∧ k_ ≠ gb164))) (fun _ hk => hk.2) (.int .i64 t162)) (fun _ hk => hk.2) (.string t163)) (fun _ hk => hk.1.2)))⟩; replace HO_4 : Aside0 (Kd.R k93 93 w39 w.heap.size (fun _ => True) (.slice (some ad161) x4_1.length co35) x4_1) := ⟨(by rw [hw]; exact (by (with_reducible repeat (first | apply Kd.R_alloc | apply Kd.R_drewN | apply Kd.R_drew)); exact Kd.R_mono (Kd.R_far (p := ⟨gb164, 1, none⟩) (Kd.R_far (p := ⟨gb164, 0, none⟩) (Kd.R_types HO_4.out BK164.out (by decide)) (fun _ hk => hk.2) (.int .i64 t162)) (fun _ hk => hk.2) (.string t163)) (fun _ hk => trivial)))⟩; replace BK164 : Aside0 (w39.heap[gb164]? = some (.cells #[.int .i64 t162, .string t163] 38 (0, 0))) := ⟨(by rw [hw]; exact (bP BK164))⟩; replace HB : Aside0 (Below w.heap.size w w39) := ⟨(by rw [hw]; exact bG)⟩; clear hw; have q40 : ((ji12) : Int) ≤ ((x4_1.length : Int) : Int) := dA; obtain ⟨i040, hi040, _, hsz40, _⟩ := info_parts info93; have hcut40 := cut_to (P := Tryd.prog) 87 93 .i64 Tryd.underlying87 hi040 (some ad161) x4_1.length co35 (ji12) (dA) q40 (Kd.R_reads' HO_4.out).2.1; have hr40 := Kd.R_take (m := ((ji12) : Int).toNat) HO_4.out (by omega); have hy40 : y165.length = ((ji12) : Int).toNat := (by rw [Ny165.out, List.length_take]; omega); rw [← Ny165.out] at hr40; rw [← hy40] at hr40 hcut40; clear hy40 hi040 hsz40 HO_4; have HO167 := Aside0.mk hr40; clear hr40; replace q40 := eq_true q40; have hcz41_0 : w39.cell? ⟨gb164, 0, none⟩ = some (.int .i64 t162) := (blk_cell BK164.out 0).trans rfl; have hcz41_1 : w39.cell? ⟨gb164, 1, none⟩ = some (.string t163) := (blk_cell BK164.out 1).trans rfl; have hfz41_0 := blk_frozen BK164.out 0; have hfz41_1 := blk_frozen BK164.out 1; obtain ⟨Ao42, co42, eo42⟩ := Kd.R_slice HO_3.out; subst eo42; have p168 : 0 ≤ ((ji19) : Int) := dA; have q168 : (ji19) < (x3_1.length : Int) := dA; obtain ⟨ad168, e168, hx168_0, hx168_1⟩ := at_T38 (Kd.R_reads' HO_3.out).2.2 (ji19) p168 q168; cases e168; replace p168 := eq_true p168; replace q168 := eq_true q168; have p172 : 0 ≤ ((ji19) : Int) := dA; have q172 : (ji19) < (x3_1.length : Int) := dA; obtain ⟨ad172, e172, hx172_0, hx172_1⟩ := at_T38 (Kd.R_reads' HO_3.out).2.2 (ji19) p172 q172; obtain rfl : ad168 = ad172 := (by injection e172); replace p172 := eq_true p172; replace q172 := eq_true q172) | ((with_reducible refine gate_builtin (b := .append) (xs := #[.tmp 55, .tmp 57]) rfl ?_); (try (refine gate_guard (by rfl) ?_; dsimp only)); at_builtin; refine Kd.R_append k38 (w0 := w) w.heap.size rfl (.tmp 55) (.tmp 57) 39 38 (.agg #[(.int .i64 0), (.string ⟨#[]⟩)]) 24 rfl Tryd.underlying39 info38 rfl (by decide) (by omega) (.slice (some ad168) x3_1.length co42) x3_1 (⟨t162, t163⟩ : S38) [.int .i64 t162, .string t163] (fun k_ => k_ ≠ gb164) (fun _ => False) rfl rfl ?aP (fun _ hk => hk.elim) ?aF ?aO ?aB ?aS ?aL ?_; (case aP => exact k38_mkM _ _ _ (⟨t162, t163⟩ : S38)); (case aB => exact bG); (case aF => exact (fun k_ hk => Kd.freshB (g := gb164) (o := .cells #[.int .i64 t162, .string t163] 38 (0, 0)) (bK BK164) k_ hk)); (case aO => exact (kR HO_3)); (case aS => exact (below_size bG)); (case aL => have := LMc34.out; omega); intro v174 w43 ho hb hg hat; rw [← Ny173.out] at ho; replace HO167 := Aside0.mk (Kd.R_over' (kR HO167) (Kd.R_typed (kR HO_3)) (by decide) hg); replace BK164 := Aside0.mk (blk_grown (g := gb164) (o := .cells #[.int .i64 t162, .string t163] 38 (0, 0)) (bK BK164) hg (Kd.R_away HO_3.out (fun _ hk => hk))); replace HB := Aside0.mk (hb); have HO175 := Aside0.mk (ho); clear HO_3; clear ho hb hg hat))
   refine wp_goto (And.intro rfl ?_)
   refine hKs0 _ _ ?_
   go_roundg k1
   case measure => have := HK1.out; omega
   case rel => exact ⟨(y173), (y165), H', ⟨by have := HK1.out; omega⟩, ⟨by (with_reducible repeat (first | apply Kd.R_alloc | apply Kd.R_drewN | apply Kd.R_drew)); exact Kd.R_mono HO175.out (fun _ hk => trivial)⟩, ⟨kR HO167⟩, ⟨bG⟩⟩
def order_Compare.f (k : Nat) (a0 : ByteArray) (a1 : ByteArray) : Option (Int) := (words_Split.f k a0).bind fun t334 => ((words_Split.f k a1).bind fun t337 => ((order_Words.f k t334 t337).bind fun t340 => (some t340)))
theorem order_Compare.mono : ∀ a0 a1 k, LeO (order_Compare.f k a0 a1) (order_Compare.f (k + 1) a0 a1) := by
 intro a0 a1 k
 unfold order_Compare.f
 have m0 := @order_Words.mono
 have m1 := @words_Split.mono
 exact mo
theorem order_Compare.calls (k : Nat) (a0 : ByteArray) (a1 : ByteArray) (r : Int) (w : World) (hG : Glob w) (h : order_Compare.f k a0 a1 = some r) :
 Calls Tryd.prog 114 #[.string a0, .string a1] w fun e w' => e = .returned (.int .i64 r) ∧ Below w.heap.size w w' := by
 have HG := Aside0.mk hG
 clear hG
 have HB := Aside0.mk (Below.refl w.heap.size w)
 have H : ((words_Split.f k a0).bind fun t334 => ((words_Split.f k a1).bind fun t337 => ((order_Words.f k t334 t337).bind fun t340 => (some t340)))) = some r := h
 clear h
 replace H := bi H
 obtain ⟨t334, A30, H⟩ := H
 try dsimp only at H
 have A3 := Aside0.mk A30
 clear A30
 replace H := bi H
 obtain ⟨t337, A40, H⟩ := H
 try dsimp only at H
 have A4 := Aside0.mk A40
 clear A40
 replace H := bi H
 obtain ⟨t340, A50, H⟩ := H
 try dsimp only at H
 have A5 := Aside0.mk A50
 clear A50
 obtain rfl := Option.some.inj H
 go_enter Tryd.func114, Tryd.ntmps114
 go_wp2_with (first | (refine gl (some 6) Tryd.func31 #[.string a0] ?_; (with_reducible refine (words_Split.calls k a0 t334 _ (gS HG) A3.out).mono ?_); rintro e w6 ⟨v335, rfl, ho0, hb⟩; refine ⟨_, rfl, ?_⟩; have HO336 := Aside0.mk (Kd.R_lower ho0 (below_size bE)); replace HB := sB hb; (try clear hb); (try clear ho0)) | (refine gl (some 8) Tryd.func31 #[.string a1] ?_; (with_reducible refine (words_Split.calls k a1 t337 _ (gS HG) A4.out).mono ?_); rintro e w7 ⟨v338, rfl, ho0, hb⟩; refine ⟨_, rfl, ?_⟩; have HO339 := Aside0.mk (Kd.R_lower (Kd.R_new' ho0 (Kd.R_lt (kR HO336))) (below_size bE)); replace HO336 := Aside0.mk (Kd.R_elder' (kR HO336) (Kd.R_base ho0) hb); replace HB := sB hb; (try clear hb); (try clear ho0); obtain ⟨Ao8, co8, eo8⟩ := Kd.R_slice HO336.out; subst eo8; obtain ⟨Ao9, co9, eo9⟩ := Kd.R_slice HO339.out; subst eo9) | (refine gl (some 9) Tryd.func141 #[.slice Ao8 t334.length co8, .slice Ao9 t337.length co9] ?_; (with_reducible refine (order_Words.calls k _ _ t334 _ _ t337 t340 _ ?side1 ?side2 ?side3 ?side4 (gS HG) A5.out).mono ?_); (case side1 => repeat (first | exact (Kd.R_reads' HO336.out).2.2 | (with_reducible refine Kd.C_alloc ?_ _) | (with_reducible refine Kd.C_drewN ?_ _) | (with_reducible refine Kd.C_drew ?_))); (case side2 => exact (Kd.R_reads' HO336.out).2.1); (case side3 => repeat (first | exact (Kd.R_reads' HO339.out).2.2 | (with_reducible refine Kd.C_alloc ?_ _) | (with_reducible refine Kd.C_drewN ?_ _) | (with_reducible refine Kd.C_drew ?_))); (case side4 => exact (Kd.R_reads' HO339.out).2.1); rintro e w10 ⟨rfl, hb⟩; refine ⟨_, rfl, ?_⟩; replace HO336 := rB HO336 hb; replace HO339 := rB HO339 hb; replace HB := sB hb; (try clear hb)))
 go_ret
 exact ⟨eA, bE⟩
def span_holds.j0 : Nat → ByteArray → ByteArray → ByteArray → Bool → Bool → Option (Bool)
 | 0, _, _, _, _, _ => none
 | k + 1, x1, x377000, x377001, x377002, x377003 => if x377001.toList = ([] : List UInt8) then (some true) else ((order_Compare.f k x1 x377001).bind fun t378 => (if t378 > 0 then (some false) else (if t378 = 0 then (if x377003 = true then (some true) else (some false)) else (some true))))
def span_holds.f (k : Nat) (a0_0 : ByteArray) (a0_1 : ByteArray) (a0_2 : Bool) (a0_3 : Bool) (a1 : ByteArray) : Option (Bool) := if a0_0.toList = ([] : List UInt8) then (span_holds.j0 k a1 a0_0 a0_1 a0_2 a0_3) else ((order_Compare.f k a1 a0_0).bind fun t377 => (if t377 < 0 then (some false) else (if t377 = 0 then (if a0_2 = true then (span_holds.j0 k a1 a0_0 a0_1 a0_2 a0_3) else (some false)) else (span_holds.j0 k a1 a0_0 a0_1 a0_2 a0_3))))
theorem span_holds.mono_l : ∀ k, (∀ y0 y1 y2 y3 y4, LeO (span_holds.j0 k y0 y1 y2 y3 y4) (span_holds.j0 (k + 1) y0 y1 y2 y3 y4))
 | 0 => fun _ _ _ _ _ r h => by simp [span_holds.j0] at h
 | k + 1 => by
  have ih0 := span_holds.mono_l k
  ·intro y0 y1 y2 y3 y4
   unfold span_holds.j0
   have m0 := @order_Compare.mono
   exact mo
theorem span_holds.mono : ∀ a0 a1 a2 a3 a4 k, LeO (span_holds.f k a0 a1 a2 a3 a4) (span_holds.f (k + 1) a0 a1 a2 a3 a4) := by
 intro a0 a1 a2 a3 a4 k
 have ih0 := span_holds.mono_l k
 unfold span_holds.f
 have m0 := @order_Compare.mono
 exact mo
theorem span_holds.calls (k : Nat) (a0_0 : ByteArray) (a0_1 : ByteArray) (a0_2 : Bool) (a0_3 : Bool) (a1 : ByteArray) (r : Bool) (w : World) (hG : Glob w) (h : span_holds.f k a0_0 a0_1 a0_2 a0_3 a1 = some r) :
 Calls Tryd.prog 97 #[.agg #[.string a0_0, .string a0_1, .bool a0_2, .bool a0_3], .string a1] w fun e w' => e = .returned (.bool r) ∧ Below w.heap.size w w' := by
 have hu58 := Tryd.underlying58
 have HG := Aside0.mk hG
 clear hG
 have HB := Aside0.mk (Below.refl w.heap.size w)
 have H : (if a0_0.toList = ([] : List UInt8) then (span_holds.j0 k a1 a0_0 a0_1 a0_2 a0_3) else ((order_Compare.f k a1 a0_0).bind fun t377 => (if t377 < 0 then (some false) else (if t377 = 0 then (if a0_2 = true then (span_holds.j0 k a1 a0_0 a0_1 a0_2 a0_3) else (some false)) else (span_holds.j0 k a1 a0_0 a0_1 a0_2 a0_3))))) = some r := h
 clear h
 have HC3 := Aside0.mk H
 clear H
 go_enter Tryd.func97, Tryd.ntmps97
 go_upto_if 9 with (first | (refine be 2 #[.string a0_0, .string a0_1, .bool a0_2, .bool a0_3] 58 ?_; intro gb376 hg w4 hbox hb; have BK376 := Aside0.mk (hbox); have GW376 := gW hg; have GE376 := gW hg; replace HB := sB hb; clear hb hbox hg; have hcz5_0 : w4.cell? ⟨gb376, 0, none⟩ = some (.string a0_0) := (blk_cell BK376.out 0).trans rfl; have hcz5_1 : w4.cell? ⟨gb376, 1, none⟩ = some (.string a0_1) := (blk_cell BK376.out 1).trans rfl; have hcz5_2 : w4.cell? ⟨gb376, 2, none⟩ = some (.bool a0_2) := (blk_cell BK376.out 2).trans rfl; have hcz5_3 : w4.cell? ⟨gb376, 3, none⟩ = some (.bool a0_3) := (blk_cell BK376.out 3).trans rfl; have hfz5_0 := blk_frozen BK376.out 0; have hfz5_1 := blk_frozen BK376.out 1; have hfz5_2 := blk_frozen BK376.out 2; have hfz5_3 := blk_frozen BK376.out 3))
 (try simp only [Act.put, List.setIfInBounds_toArray, List.set_cons_zero, List.set_cons_succ])
 go_cut [] (fun wc => ∃ (kq : Nat), Aside0 (span_holds.j0 kq a1 a0_0 a0_1 a0_2 a0_3 = some r) ∧ Aside0 (kq ≤ k) ∧ Aside0 (wc.heap[gb376]? = some (.cells #[.string a0_0, .string a0_1, .bool a0_2, .bool a0_3] 58 (0, 0))) ∧ Aside0 (Below w.heap.size w wc))
 case first =>
  have H := HC3.out
  clear HC3
  by_cases c6 : a0_0.toList = ([] : List UInt8)
  ·rw [if_pos c6] at H
   obtain ⟨c6b0, c6b1⟩ := eqT c6
   (try (have c6b2 : a0_0.toList.isEmpty = true := by simpa using c6))
   clear c6
   (first | rw [c6b0] | rw [c6b2] | (simp only [i64_w, i32_w]; rw [c6b0]) | skip)
   have H' := Aside0.mk H
   clear H
   go_wp2
   go_meet
   case rel => exact ⟨_, H', ⟨by first | omega | exact Nat.le_refl _⟩, ⟨bK BK376⟩, ⟨bG⟩⟩
  rw [if_neg c6] at H
  obtain ⟨c6b0, c6b1⟩ := eqF c6
  (try (have c6b2 : a0_0.toList.isEmpty = false := by simpa using c6))
  (first | rw [c6b0] | rw [c6b2] | (simp only [i64_w, i32_w]; rw [c6b0]) | skip)
  replace H := bi H
  obtain ⟨t377, A70, H⟩ := H
  try dsimp only at H
  have A7 := Aside0.mk A70
  clear A70
  by_cases c8 : t377 < 0
  ·rw [if_pos c8] at H
   have c8b0 := dT c8
   clear c8
   obtain rfl := Option.some.inj H
   obtain ⟨hcz9_0, hcz9_1, hcz9_2, hcz9_3, hfz9_0, hfz9_1, hfz9_2, hfz9_3⟩ := cells4 BK376
   go_wp2_with (first | (refine gl (some 13) Tryd.func114 #[.string a1, .string a0_0] ?_; (with_reducible refine (order_Compare.calls k a1 a0_0 t377 _ (gS HG) A7.out).mono ?_); rintro e w10 ⟨rfl, hb⟩; refine ⟨_, rfl, ?_⟩; replace BK376 := kB BK376 hb; replace HB := sB hb; (try clear hb)))
   go_ret
   exact ⟨eA, bG⟩
  rw [if_neg c8] at H
  have c8b0 := dF c8
  clear c8
  by_cases c11 : t377 = 0
  rotate_left
  ·rw [if_neg c11] at H
   obtain ⟨c11b0, c11b1⟩ := eqF c11
   have H' := Aside0.mk H
   clear H
   obtain ⟨hcz19_0, hcz19_1, hcz19_2, hcz19_3, hfz19_0, hfz19_1, hfz19_2, hfz19_3⟩ := cells4 BK376
   go_wp2_with (first | (refine gl (some 13) Tryd.func114 #[.string a1, .string a0_0] ?_; (with_reducible refine (order_Compare.calls k a1 a0_0 t377 _ (gS HG) A7.out).mono ?_); rintro e w20 ⟨rfl, hb⟩; refine ⟨_, rfl, ?_⟩; replace BK376 := kB BK376 hb; replace HB := sB hb; (try clear hb)))
   go_meet
   case rel => exact ⟨_, H', ⟨by first | omega | exact Nat.le_refl _⟩, ⟨bK BK376⟩, ⟨bG⟩⟩
  rw [if_pos c11] at H
  obtain ⟨c11b0, c11b1⟩ := eqT c11
  clear c11
  by_cases c12 : a0_2 = true
  rotate_left
  ·replace c12 := Bool.eq_false_iff.mpr c12
   subst c12
   have H1 : (some false) = some r := by rw [if_neg (show ¬ (false = true) by decide)] at H; exact H
   clear H
   have H := H1
   clear H1
   obtain rfl := Option.some.inj H
   obtain ⟨hcz16_0, hcz16_1, hcz16_2, hcz16_3, hfz16_0, hfz16_1, hfz16_2, hfz16_3⟩ := cells4 BK376
   go_wp2_with (first | (refine gl (some 13) Tryd.func114 #[.string a1, .string a0_0] ?_; (with_reducible refine (order_Compare.calls k a1 a0_0 t377 _ (gS HG) A7.out).mono ?_); rintro e w17 ⟨rfl, hb⟩; refine ⟨_, rfl, ?_⟩; replace BK376 := kB BK376 hb; replace HB := sB hb; (try clear hb); have hcz18_0 : w17.cell? ⟨gb376, 0, none⟩ = some (.string a0_0) := (blk_cell BK376.out 0).trans rfl; have hcz18_1 : w17.cell? ⟨gb376, 1, none⟩ = some (.string a0_1) := (blk_cell BK376.out 1).trans rfl; have hcz18_2 : w17.cell? ⟨gb376, 2, none⟩ = some (.bool false) := (blk_cell BK376.out 2).trans rfl; have hcz18_3 : w17.cell? ⟨gb376, 3, none⟩ = some (.bool a0_3) := (blk_cell BK376.out 3).trans rfl; have hfz18_0 := blk_frozen BK376.out 0; have hfz18_1 := blk_frozen BK376.out 1; have hfz18_2 := blk_frozen BK376.out 2; have hfz18_3 := blk_frozen BK376.out 3))
   go_ret
   exact ⟨eA, bG⟩
  subst c12
  have H1 : (span_holds.j0 k a1 a0_0 a0_1 true a0_3) = some r := by rw [if_pos rfl] at H; exact H
  clear H
  have H := H1
  clear H1
  have H' := Aside0.mk H
  clear H
  obtain ⟨hcz13_0, hcz13_1, hcz13_2, hcz13_3, hfz13_0, hfz13_1, hfz13_2, hfz13_3⟩ := cells4 BK376
  go_wp2_with (first | (refine gl (some 13) Tryd.func114 #[.string a1, .string a0_0] ?_; (with_reducible refine (order_Compare.calls k a1 a0_0 t377 _ (gS HG) A7.out).mono ?_); rintro e w14 ⟨rfl, hb⟩; refine ⟨_, rfl, ?_⟩; replace BK376 := kB BK376 hb; replace HB := sB hb; (try clear hb); have hcz15_0 : w14.cell? ⟨gb376, 0, none⟩ = some (.string a0_0) := (blk_cell BK376.out 0).trans rfl; have hcz15_1 : w14.cell? ⟨gb376, 1, none⟩ = some (.string a0_1) := (blk_cell BK376.out 1).trans rfl; have hcz15_2 : w14.cell? ⟨gb376, 2, none⟩ = some (.bool true) := (blk_cell BK376.out 2).trans rfl; have hcz15_3 : w14.cell? ⟨gb376, 3, none⟩ = some (.bool a0_3) := (blk_cell BK376.out 3).trans rfl; have hfz15_0 := blk_frozen BK376.out 0; have hfz15_1 := blk_frozen BK376.out 1; have hfz15_2 := blk_frozen BK376.out 2; have hfz15_3 := blk_frozen BK376.out 3))
  go_meet
  case rel => exact ⟨_, H', ⟨by first | omega | exact Nat.le_refl _⟩, ⟨bK BK376⟩, ⟨bG⟩⟩
 clear HC3
 try clear c1
 try clear p2
 try clear c6
 try clear c6b0
 try clear c6b1
 try clear c6b2
 try clear c8
 try clear c8b0
 try clear c9
 try clear c11
 try clear c11b0
 try clear c11b1
 try clear c12
 try clear hcz13_0
 try clear hcz13_1
 try clear hcz13_2
 try clear hcz13_3
 try clear hcz15_0
 try clear hcz15_1
 try clear hcz15_2
 try clear hcz15_3
 try clear hcz16_0
 try clear hcz16_1
 try clear hcz16_2
 try clear hcz16_3
 try clear hcz18_0
 try clear hcz18_1
 try clear hcz18_2
 try clear hcz18_3
 try clear hcz19_0
 try clear hcz19_1
 try clear hcz19_2
 try clear hcz19_3
 try clear hcz5_0
 try clear hcz5_1
 try clear hcz5_2
 try clear hcz5_3
 try clear hcz9_0
 try clear hcz9_1
 try clear hcz9_2
 try clear hcz9_3
 try clear hfz13_0
 try clear hfz13_1
 try clear hfz13_2
 try clear hfz13_3
 try clear hfz15_0
 try clear hfz15_1
 try clear hfz15_2
 try clear hfz15_3
 try clear hfz16_0
 try clear hfz16_1
 try clear hfz16_2
 try clear hfz16_3
 try clear hfz18_0
 try clear hfz18_1
 try clear hfz18_2
 try clear hfz18_3
 try clear hfz19_0
 try clear hfz19_1
 try clear hfz19_2
 try clear hfz19_3
 try clear hfz5_0
 try clear hfz5_1
 try clear hfz5_2
 try clear hfz5_3
 try clear hfz9_0
 try clear hfz9_1
 try clear hfz9_2
 try clear hfz9_3
 obtain ⟨kq, HA, HJ2, BK376, HB⟩ := hcut
 cases kq with
 | zero => exact absurd HA.out (by simp [span_holds.j0])
 | succ kj2 =>
  have H := HA.out
  clear HA
  simp only [span_holds.j0] at H
  by_cases c21 : a0_1.toList = ([] : List UInt8)
  ·rw [if_pos c21] at H
   obtain ⟨c21b0, c21b1⟩ := eqT c21
   (try (have c21b2 : a0_1.toList.isEmpty = true := by simpa using c21))
   clear c21
   obtain rfl := Option.some.inj H
   obtain ⟨hcz22_0, hcz22_1, hcz22_2, hcz22_3, hfz22_0, hfz22_1, hfz22_2, hfz22_3⟩ := cells4 BK376
   go_wp2
   go_ret
   exact ⟨eA, bG⟩
  rw [if_neg c21] at H
  obtain ⟨c21b0, c21b1⟩ := eqF c21
  (try (have c21b2 : a0_1.toList.isEmpty = false := by simpa using c21))
  replace H := bi H
  obtain ⟨t378, A230, H⟩ := H
  try dsimp only at H
  have A23 := Aside0.mk A230
  clear A230
  by_cases c24 : t378 > 0
  ·rw [if_pos c24] at H
   have c24b0 := dT c24
   clear c24
   obtain rfl := Option.some.inj H
   obtain ⟨hcz25_0, hcz25_1, hcz25_2, hcz25_3, hfz25_0, hfz25_1, hfz25_2, hfz25_3⟩ := cells4 BK376
   go_wp2_with (first | (refine gl (some 31) Tryd.func114 #[.string a1, .string a0_1] ?_; (with_reducible refine (order_Compare.calls kj2 a1 a0_1 t378 _ (gS HG) A23.out).mono ?_); rintro e w26 ⟨rfl, hb⟩; refine ⟨_, rfl, ?_⟩; replace BK376 := kB BK376 hb; replace HB := sB hb; (try clear hb)))
   go_ret
   exact ⟨eA, bG⟩
  rw [if_neg c24] at H
  have c24b0 := dF c24
  clear c24
  by_cases c27 : t378 = 0
  rotate_left
  ·rw [if_neg c27] at H
   obtain ⟨c27b0, c27b1⟩ := eqF c27
   obtain rfl := Option.some.inj H
   obtain ⟨hcz35_0, hcz35_1, hcz35_2, hcz35_3, hfz35_0, hfz35_1, hfz35_2, hfz35_3⟩ := cells4 BK376
   go_wp2_with (first | (refine gl (some 31) Tryd.func114 #[.string a1, .string a0_1] ?_; (with_reducible refine (order_Compare.calls kj2 a1 a0_1 t378 _ (gS HG) A23.out).mono ?_); rintro e w36 ⟨rfl, hb⟩; refine ⟨_, rfl, ?_⟩; replace BK376 := kB BK376 hb; replace HB := sB hb; (try clear hb)))
   go_ret
   exact ⟨eA, bG⟩
  rw [if_pos c27] at H
  obtain ⟨c27b0, c27b1⟩ := eqT c27
  clear c27
  by_cases c28 : a0_3 = true
  ·subst c28
   have H1 : (some true) = some r := by rw [if_pos rfl] at H; exact H
   clear H
   have H := H1
   clear H1
   obtain rfl := Option.some.inj H
   obtain ⟨hcz29_0, hcz29_1, hcz29_2, hcz29_3, hfz29_0, hfz29_1, hfz29_2, hfz29_3⟩ := cells4 BK376
   go_wp2_with (first | (refine gl (some 31) Tryd.func114 #[.string a1, .string a0_1] ?_; (with_reducible refine (order_Compare.calls kj2 a1 a0_1 t378 _ (gS HG) A23.out).mono ?_); rintro e w30 ⟨rfl, hb⟩; refine ⟨_, rfl, ?_⟩; replace BK376 := kB BK376 hb; replace HB := sB hb; (try clear hb); have hcz31_0 : w30.cell? ⟨gb376, 0, none⟩ = some (.string a0_0) := (blk_cell BK376.out 0).trans rfl; have hcz31_1 : w30.cell? ⟨gb376, 1, none⟩ = some (.string a0_1) := (blk_cell BK376.out 1).trans rfl; have hcz31_2 : w30.cell? ⟨gb376, 2, none⟩ = some (.bool a0_2) := (blk_cell BK376.out 2).trans rfl; have hcz31_3 : w30.cell? ⟨gb376, 3, none⟩ = some (.bool true) := (blk_cell BK376.out 3).trans rfl; have hfz31_0 := blk_frozen BK376.out 0; have hfz31_1 := blk_frozen BK376.out 1; have hfz31_2 := blk_frozen BK376.out 2; have hfz31_3 := blk_frozen BK376.out 3))
   go_ret
   exact ⟨eA, bG⟩
  replace c28 := Bool.eq_false_iff.mpr c28
  subst c28
  have H1 : (some false) = some r := by rw [if_neg (show ¬ (false = true) by decide)] at H; exact H
  clear H
  have H := H1
  clear H1
  obtain rfl := Option.some.inj H
  obtain ⟨hcz32_0, hcz32_1, hcz32_2, hcz32_3, hfz32_0, hfz32_1, hfz32_2, hfz32_3⟩ := cells4 BK376
  go_wp2_with (first | (refine gl (some 31) Tryd.func114 #[.string a1, .string a0_1] ?_; (with_reducible refine (order_Compare.calls kj2 a1 a0_1 t378 _ (gS HG) A23.out).mono ?_); rintro e w33 ⟨rfl, hb⟩; refine ⟨_, rfl, ?_⟩; replace BK376 := kB BK376 hb; replace HB := sB hb; (try clear hb); have hcz34_0 : w33.cell? ⟨gb376, 0, none⟩ = some (.string a0_0) := (blk_cell BK376.out 0).trans rfl; have hcz34_1 : w33.cell? ⟨gb376, 1, none⟩ = some (.string a0_1) := (blk_cell BK376.out 1).trans rfl; have hcz34_2 : w33.cell? ⟨gb376, 2, none⟩ = some (.bool a0_2) := (blk_cell BK376.out 2).trans rfl; have hcz34_3 : w33.cell? ⟨gb376, 3, none⟩ = some (.bool false) := (blk_cell BK376.out 3).trans rfl; have hfz34_0 := blk_frozen BK376.out 0; have hfz34_1 := blk_frozen BK376.out 1; have hfz34_2 := blk_frozen BK376.out 2; have hfz34_3 := blk_frozen BK376.out 3))
  go_ret
  exact ⟨eA, bG⟩
end Go.Proofs.YtgdjfcmmpjcaaaaDoor.Q
namespace Go.Proofs.YtgdjfcmmpjcaaaaDoor.Q
open Go.RowKit Go.Proofs.YtgdjfcmmpjcaaaaDoorW.PrintWords Go.Proofs.YtgdjfcmmpjcaaaaDoorW.PrintLast Go.Proofs.YtgdjfcmmpjcaaaaDoorW.Own Go.Proofs.YtgdjfcmmpjcaaaaDoorW.PrintMore
attribute [local go_sem] max2_int min2_int max_two min_two max_three min_three max_four min_four   -- for this text's walks alone
set_option linter.unusedVariables false
set_option linter.unusedSimpArgs false
def span_Holds.one (k : Nat) (v : ByteArray) (s : S58) : Option Bool := span_holds.f k s.f0 s.f1 s.f2 s.f3 v
def span_Holds.l0 : Nat → List S58 → ByteArray → Int → Option Int
  | 0, _, _, _ => none
  | k + 1, l, v, i => if i < (l.length : Int) then (if 0 ≤ i then ((span_Holds.one k v (rd_T58 l i)).bind fun b => if b = true then some i else span_Holds.l0 k l v (wrap64 (i + 1))) else none) else some (-1)
def span_Holds.f (k : Nat) (l0 : List S58) (a1 : ByteArray) : Option Bool := (span_Holds.l0 k l0 a1 0).bind fun i => some (decide (i ≥ 0))
theorem span_Holds.mono_l : ∀ k, (∀ y0 y1 y2, LeO (span_Holds.l0 k y0 y1 y2) (span_Holds.l0 (k + 1) y0 y1 y2))
  | 0 => fun _ _ _ r h => by simp [span_Holds.l0] at h
  | k + 1 => by
    have ih0 := span_Holds.mono_l k
    · intro y0 y1 y2
      unfold span_Holds.l0
      unfold span_Holds.one
      repeat' first
      | (with_reducible exact ih0 _ _ _)
      | (with_reducible exact span_holds.mono _ _ _ _ _ _)
      | (with_reducible exact LeO.refl _)
      | (with_reducible exact LeO.none _)
      | (with_reducible refine LeO.ite ?_ ?_)
      | (with_reducible refine LeO.bind ?_ (fun _ => ?_))
theorem span_Holds.mono : ∀ a0 a1 k, LeO (span_Holds.f k a0 a1) (span_Holds.f (k + 1) a0 a1) := by
  intro a0 a1 k
  have ih0 := span_Holds.mono_l k
  unfold span_Holds.f
  repeat' first
      | (with_reducible exact ih0 _ _ _)
      | (with_reducible exact LeO.refl _)
      | (with_reducible refine LeO.bind ?_ (fun _ => ?_))
set_option maxHeartbeats 8000000 in
set_option maxRecDepth 100000 in
theorem span_Holds.calls1 (k : Nat) (s : S58) (v : ByteArray) (g : Nat) (r : Bool) (w : World) (hc : w.cell? ⟨g, 0, none⟩ = some (.string v)) (hG : Glob w) (h : span_Holds.one k v s = some r) :
    Calls Tryd.prog 96 #[.agg #[.string s.f0, .string s.f1, .bool s.f2, .bool s.f3], .pointer (some ⟨g, 0, none⟩)] w fun e w' => e = .returned (.bool r) ∧ Below w.heap.size w w' := by
  have hu := Tryd.underlying58
  have HG := Aside0.mk hG
  have HC := Aside0.mk hc
  have H := Aside0.mk (show span_holds.f k s.f0 s.f1 s.f2 s.f3 v = some r from h)
  clear hG hc h
  go_enter Tryd.func96, Tryd.ntmps96
  have HB := Aside0.mk (Below.refl w.heap.size w)
  go_upto_region 1 with (first | ((with_reducible refine gate_dst (N := 2) rfl ?_); refine box_event ?hg (N := 2) ?hd (cs := #[.string s.f0, .string s.f1, .bool s.f2, .bool s.f3]) (t := 58) ?hr ?_; (case hd => rfl); (case hg => rfl); (case hr => first | (go_simp; done) | (go_simp; rfl)); intro gb hg w3 hbox hb; have HX := Aside0.mk hbox; have n0_ := Aside0.mk (below_step (by repeat (first | (with_reducible first | exact HB.out | apply below_alloc | apply pw_below_drewN | apply below_drew1) | exact HB.out)) hb); have n1_ := Aside0.mk ((hb.cell (World.block_lt_of_cell? _ _ HC.out)).trans HC.out); clear HB HC; have HB := n0_; have HC := n1_; clear n0_ n1_; clear hb hbox hg))
  have hX0 : w3.cell? ⟨gb, 0, none⟩ = some (.string s.f0) := (blk_cell HX.out 0).trans rfl
  have hX1 : w3.cell? ⟨gb, 1, none⟩ = some (.string s.f1) := (blk_cell HX.out 1).trans rfl
  have hX2 : w3.cell? ⟨gb, 2, none⟩ = some (.bool s.f2) := (blk_cell HX.out 2).trans rfl
  have hX3 : w3.cell? ⟨gb, 3, none⟩ = some (.bool s.f3) := (blk_cell HX.out 3).trans rfl
  have hCv := HC.out
  go_wp2_with (first | (go_at_call 97; (with_reducible refine (span_holds.calls k s.f0 s.f1 s.f2 s.f3 v r _ ?side1 H.out).mono ?_); (case side1 => exact Glob.step HG.out (by repeat (first | (with_reducible first | exact HB.out | apply below_alloc | apply pw_below_drewN | apply below_drew1) | exact HB.out))); rintro e w4 ⟨rfl, hb⟩; have n0_ := Aside0.mk (below_step (by repeat (first | (with_reducible first | exact HB.out | apply below_alloc | apply pw_below_drewN | apply below_drew1) | exact HB.out)) hb); clear HB; have HB := n0_; clear n0_; clear hb))
  go_ret
  exact ⟨rfl, by repeat (first | (with_reducible first | exact HB.out | apply below_alloc | apply pw_below_drewN | apply below_drew1) | exact HB.out)⟩
set_option maxHeartbeats 8000000 in
set_option maxRecDepth 100000 in
theorem span_Holds.calls2 (k : Nat) (A0 : Option Addr) (c0 : Nat) (l0 : List S58) (v : ByteArray) (g : Nat) (r : Int) (w : World) (hr0 : Kd.C k58 w A0 l0.length l0) (hc0 : l0.length ≤ c0) (hc : w.cell? ⟨g, 0, none⟩ = some (.string v)) (hG : Glob w) (h : span_Holds.l0 k l0 v 0 = some r) :
    Calls Tryd.prog 128 #[.slice A0 l0.length c0, .func (.func 96) #[] #[.pointer (some ⟨g, 0, none⟩)]] w fun e w' => e = .returned (.int .i64 r) ∧ Below w.heap.size w w' := by
  have hu := Tryd.underlying58
  have HG := Aside0.mk hG
  have HR0 := Aside0.mk hr0
  have HC0 := Aside0.mk hc0
  have HC := Aside0.mk hc
  have HB := Aside0.mk (Below.refl w.heap.size w)
  have H' := Aside0.mk h
  clear hG hr0 hc0 hc h
  go_enter Tryd.func128, Tryd.ntmps128
  go_wp2
  go_loopg [8] k (fun kq v8 w' => ∃ (x8_1 : Int), v8 = .int .i64 x8_1 ∧ Aside0 (span_Holds.l0 kq l0 v x8_1 = some r) ∧ Aside0 (kq ≤ k) ∧ Aside0 (Below w.heap.size w w'))
  case atStart => exact ⟨(0), (by first | rfl | (simp; done) | (simp [*]; done) | (simp; exact isEmpty_bne _)), H', ⟨Nat.le_refl _⟩, ⟨by repeat (first | (with_reducible first | exact HB.out | apply below_alloc | apply pw_below_drewN | apply below_drew1) | exact HB.out)⟩⟩
  case round =>
    clear H' HB
    obtain ⟨x8_1, rfl, HA, HK1, HB⟩ := hrel
    cases gk with
    | zero => exact absurd HA.out (by simp [span_Holds.l0])
    | succ k1 =>
      have H := HA.out
      clear HA
      simp only [span_Holds.l0] at H
      by_cases c3 : x8_1 < (l0.length : Int)
      · rw [if_pos c3] at H
        have c3b0 : decide (x8_1 < (l0.length : Int)) = true := decide_eq_true c3
        by_cases c4 : 0 ≤ x8_1
        · rw [if_pos c4] at H
          have c4b0 : decide (0 ≤ x8_1) = true := decide_eq_true c4
          obtain ⟨ad, e_, hx0, hx1, hx2, hx3⟩ := at_T58 HR0.out x8_1 c4 c3
          cases e_
          replace hx0 := (HB.out.cell (World.block_lt_of_cell? w _ hx0)).trans hx0
          replace hx1 := (HB.out.cell (World.block_lt_of_cell? w _ hx1)).trans hx1
          replace hx2 := (HB.out.cell (World.block_lt_of_cell? w _ hx2)).trans hx2
          replace hx3 := (HB.out.cell (World.block_lt_of_cell? w _ hx3)).trans hx3
          have p_ := eq_true c4
          have q_ := eq_true c3
          clear c3 c4
          replace H := Option.bind_eq_some_iff.mp H
          obtain ⟨t103, A60, H⟩ := H
          have A6 := Aside0.mk A60
          clear A60
          cases t103 with
          | true =>
            rw [if_pos rfl] at H
            obtain rfl := Option.some.inj H
            clear H
            go_wp2_with (first | (go_at_call 96; (with_reducible refine (span_Holds.calls1 k1 (rd_T58 l0 x8_1) v g true _ ?side0 ?side1 A6.out).mono ?_); (case side0 => exact (Below.cell (w := w) (by repeat (first | (with_reducible first | exact HB.out | apply below_alloc | apply pw_below_drewN | apply below_drew1) | exact HB.out)) (World.block_lt_of_cell? w _ HC.out)).trans HC.out); (case side1 => exact Glob.step HG.out (by repeat (first | (with_reducible first | exact HB.out | apply below_alloc | apply pw_below_drewN | apply below_drew1) | exact HB.out))); rintro e w4 ⟨rfl, hb⟩; have n0_ := Aside0.mk (below_step (by repeat (first | (with_reducible first | exact HB.out | apply below_alloc | apply pw_below_drewN | apply below_drew1) | exact HB.out)) hb); clear HB; have HB := n0_; clear n0_; clear hb))
            go_ret
            exact ⟨rfl, by repeat (first | (with_reducible first | exact HB.out | apply below_alloc | apply pw_below_drewN | apply below_drew1) | exact HB.out)⟩
          | false =>
            rw [if_neg (by decide)] at H
            have H' := Aside0.mk H
            clear H
            go_wp2_with (first | (go_at_call 96; (with_reducible refine (span_Holds.calls1 k1 (rd_T58 l0 x8_1) v g false _ ?side0 ?side1 A6.out).mono ?_); (case side0 => exact (Below.cell (w := w) (by repeat (first | (with_reducible first | exact HB.out | apply below_alloc | apply pw_below_drewN | apply below_drew1) | exact HB.out)) (World.block_lt_of_cell? w _ HC.out)).trans HC.out); (case side1 => exact Glob.step HG.out (by repeat (first | (with_reducible first | exact HB.out | apply below_alloc | apply pw_below_drewN | apply below_drew1) | exact HB.out))); rintro e w4 ⟨rfl, hb⟩; have n0_ := Aside0.mk (below_step (by repeat (first | (with_reducible first | exact HB.out | apply below_alloc | apply pw_below_drewN | apply below_drew1) | exact HB.out)) hb); clear HB; have HB := n0_; clear n0_; clear hb))
            go_roundg k1
            case measure => have := HK1.out; omega
            case rel => exact ⟨(wrap64 (x8_1 + 1)), (by first | rfl | (simp; done) | (simp [*]; done) | (simp; exact isEmpty_bne _)), H', ⟨by have := HK1.out; omega⟩, ⟨by repeat (first | (with_reducible first | exact HB.out | apply below_alloc | apply pw_below_drewN | apply below_drew1) | exact HB.out)⟩⟩
        · rw [if_neg c4] at H
          exact absurd H (by simp)
      · rw [if_neg c3] at H
        have c3b0 : decide (x8_1 < (l0.length : Int)) = false := decide_eq_false c3
        clear c3
        obtain rfl := Option.some.inj H
        go_wp2
        go_ret
        exact ⟨rfl, by repeat (first | (with_reducible first | exact HB.out | apply below_alloc | apply pw_below_drewN | apply below_drew1) | exact HB.out)⟩
set_option maxHeartbeats 8000000 in
set_option maxRecDepth 100000 in
theorem span_Holds.calls3 (k : Nat) (A0 : Option Addr) (c0 : Nat) (l0 : List S58) (v : ByteArray) (g : Nat) (r : Int) (w : World) (hr0 : Kd.C k58 w A0 l0.length l0) (hc0 : l0.length ≤ c0) (hc : w.cell? ⟨g, 0, none⟩ = some (.string v)) (hG : Glob w) (h : span_Holds.l0 k l0 v 0 = some r) :
    Calls Tryd.prog 95 #[.slice A0 l0.length c0, .func (.func 96) #[] #[.pointer (some ⟨g, 0, none⟩)]] w fun e w' => e = .returned (.bool (decide (r ≥ 0))) ∧ Below w.heap.size w w' := by
  have HG := Aside0.mk hG
  have HR0 := Aside0.mk hr0
  have HC0 := Aside0.mk hc0
  have HC := Aside0.mk hc
  have HB := Aside0.mk (Below.refl w.heap.size w)
  have H' := Aside0.mk h
  clear hG hr0 hc0 hc h
  go_enter Tryd.func95, Tryd.ntmps95
  go_wp2_with (first | (go_at_call 128; (with_reducible refine (span_Holds.calls2 k A0 c0 l0 v g r _ ?sidea ?sideb ?side0 ?side1 H'.out).mono ?_); (case sidea => exact Kd.C_below HR0.out (by repeat (first | (with_reducible first | exact HB.out | apply below_alloc | apply pw_below_drewN | apply below_drew1) | exact HB.out))); (case sideb => exact HC0.out); (case side0 => exact (Below.cell (w := w) (by repeat (first | (with_reducible first | exact HB.out | apply below_alloc | apply pw_below_drewN | apply below_drew1) | exact HB.out)) (World.block_lt_of_cell? w _ HC.out)).trans HC.out); (case side1 => exact Glob.step HG.out (by repeat (first | (with_reducible first | exact HB.out | apply below_alloc | apply pw_below_drewN | apply below_drew1) | exact HB.out))); rintro e w4 ⟨rfl, hb⟩; have n0_ := Aside0.mk (below_step (by repeat (first | (with_reducible first | exact HB.out | apply below_alloc | apply pw_below_drewN | apply below_drew1) | exact HB.out)) hb); clear HB; have HB := n0_; clear n0_; clear hb))
  go_ret
  exact ⟨by first | rfl | (simp; done), by repeat (first | (with_reducible first | exact HB.out | apply below_alloc | apply pw_below_drewN | apply below_drew1) | exact HB.out)⟩
set_option maxHeartbeats 8000000 in
set_option maxRecDepth 100000 in
theorem span_Holds.calls (k : Nat) (A0 : Option Addr) (c0 : Nat) (l0 : List S58) (a1 : ByteArray) (r : Bool) (w : World) (hr0 : Kd.C k58 w A0 l0.length l0) (hc0 : l0.length ≤ c0) (hG : Glob w) (h : span_Holds.f k l0 a1 = some r) :
    Calls Tryd.prog 58 #[.slice A0 l0.length c0, .string a1] w fun e w' => e = .returned (.bool r) ∧ Below w.heap.size w w' := by
  unfold span_Holds.f at h
  replace h := Option.bind_eq_some_iff.mp h
  obtain ⟨ix, h, hr⟩ := h
  obtain rfl := Option.some.inj hr
  clear hr
  have HG := Aside0.mk hG
  have HR0 := Aside0.mk hr0
  have HC0 := Aside0.mk hc0
  have HB := Aside0.mk (Below.refl w.heap.size w)
  have H' := Aside0.mk h
  clear hG hr0 hc0 h
  go_enter Tryd.func58, Tryd.ntmps58
  go_upto_region 1 with (first | ((with_reducible refine gate_dst (N := 3) rfl ?_); refine box_event ?hg (N := 3) ?hd (cs := #[.string a1]) (t := 9) ?hr ?_; (case hd => rfl); (case hg => rfl); (case hr => first | (go_simp; done) | (go_simp; rfl)); intro gb hg w3 hbox hb; have HX := Aside0.mk hbox; have n0_ := Aside0.mk (below_step (by repeat (first | (with_reducible first | exact HB.out | apply below_alloc | apply pw_below_drewN | apply below_drew1) | exact HB.out)) hb); clear HB; have HB := n0_; clear n0_; clear hb hbox hg))
  have HX0 : Aside0 (w3.cell? ⟨gb, 0, none⟩ = some (.string a1)) := Aside0.mk ((blk_cell HX.out 0).trans rfl)
  have HL := Aside0.mk (Below.refl w3.heap.size w3)
  go_wp2_with (first | (go_at_call 95; (with_reducible refine (span_Holds.calls3 k A0 c0 l0 a1 gb ix _ ?sidea ?sideb ?side0 ?side1 H'.out).mono ?_); (case sidea => exact Kd.C_below HR0.out (by repeat (first | (with_reducible first | exact HB.out | apply below_alloc | apply pw_below_drewN | apply below_drew1) | exact HB.out))); (case sideb => exact HC0.out); (case side0 => exact (Below.cell (w := w3) (by repeat (first | exact HL.out | apply below_alloc | apply pw_below_drewN | apply below_drew1)) (World.block_lt_of_cell? w3 _ HX0.out)).trans HX0.out); (case side1 => exact Glob.step HG.out (by repeat (first | (with_reducible first | exact HB.out | apply below_alloc | apply pw_below_drewN | apply below_drew1) | exact HB.out))); rintro e w4 ⟨rfl, hb⟩; have n0_ := Aside0.mk (below_step (by repeat (first | (with_reducible first | exact HB.out | apply below_alloc | apply pw_below_drewN | apply below_drew1) | exact HB.out)) hb); clear HB; have HB := n0_; clear n0_; clear hb))
  go_ret
  exact ⟨rfl, by repeat (first | (with_reducible first | exact HB.out | apply below_alloc | apply pw_below_drewN | apply below_drew1) | exact HB.out)⟩
end Go.Proofs.YtgdjfcmmpjcaaaaDoor.Q
namespace Go.Proofs.YtgdjfcmmpjcaaaaDoor.Q
open Go.RowKit Go.Proofs.YtgdjfcmmpjcaaaaDoorW.PrintWords Go.Proofs.YtgdjfcmmpjcaaaaDoorW.PrintLast Go.Proofs.YtgdjfcmmpjcaaaaDoorW.Own Go.Proofs.YtgdjfcmmpjcaaaaDoorW.PrintMore
attribute [local go_sem] max2_int min2_int max_two min_two max_three min_three max_four min_four   -- for this text's walks alone
set_option linter.unusedVariables false
set_option linter.unusedSimpArgs false
set_option maxHeartbeats 8000000
set_option maxRecDepth 100000
def order_whole.f (k : Nat) (a0 : ByteArray) (a1 : ByteArray) : Option (Int) := (order_Compare.f k a0 a1).bind fun t379 => ((cmp_Compare_string.f a0 a1).bind fun t380 => ((cmp_Or_int.f k (([t379, t380] : List Int))).bind fun t384 => (some t384)))
theorem order_whole.mono : ∀ a0 a1 k, LeO (order_whole.f k a0 a1) (order_whole.f (k + 1) a0 a1) := by
 intro a0 a1 k
 unfold order_whole.f
 have m0 := @cmp_Or_int.mono
 have m1 := @order_Compare.mono
 exact mo
theorem order_whole.calls (k : Nat) (a0 : ByteArray) (a1 : ByteArray) (r : Int) (w : World) (hG : Glob w) (h : order_whole.f k a0 a1 = some r) :
 Calls Tryd.prog 116 #[.string a0, .string a1] w fun e w' => e = .returned (.int .i64 r) ∧ Below w.heap.size w w' := by
 have HG := Aside0.mk hG
 clear hG
 have HB := Aside0.mk (Below.refl w.heap.size w)
 have H : ((order_Compare.f k a0 a1).bind fun t379 => ((cmp_Compare_string.f a0 a1).bind fun t380 => ((cmp_Or_int.f k (([t379, t380] : List Int))).bind fun t384 => (some t384)))) = some r := h
 clear h
 replace H := bi H
 obtain ⟨t379, A30, H⟩ := H
 try dsimp only at H
 have A3 := Aside0.mk A30
 clear A30
 replace H := bi H
 obtain ⟨t380, A40, H⟩ := H
 try dsimp only at H
 have A4 := Aside0.mk A40
 clear A40
 obtain ⟨y381, hy381⟩ : ∃ y_ : List Int, y_ = (([t379, t380] : List Int)) := ⟨_, rfl⟩
 replace H : ((cmp_Or_int.f k y381).bind fun t384 => (some t384)) = some r := by first | (rw [hy381]; with_reducible exact H) | (have H2_ := (Option.bind_some _ _).symm.trans H; rw [hy381]; with_reducible exact H2_) | (have H2_ := (Option.bind_some _ _).symm.trans H; with_reducible exact H2_) | with_reducible exact H | (rw [hy381]; exact H) | exact H
 have Ny381 := Aside0.mk hy381
 clear hy381
 replace H := bi H
 obtain ⟨t384, A50, H⟩ := H
 try dsimp only at H
 have A5 := Aside0.mk A50
 clear A50
 obtain rfl := Option.some.inj H
 go_enter Tryd.func116, Tryd.ntmps116
 go_wp2_with (first | (refine gl (some 7) Tryd.func114 #[.string a0, .string a1] ?_; (with_reducible refine (order_Compare.calls k a0 a1 t379 _ (gS HG) A3.out).mono ?_); rintro e w6 ⟨rfl, hb⟩; refine ⟨_, rfl, ?_⟩; replace HB := sB hb; (try clear hb)) | (refine gl (some 10) Tryd.func113 #[.string a0, .string a1] ?_; (with_reducible refine (cmp_Compare_string.calls a0 a1 t380 _ (gS HG) A4.out).mono ?_); rintro e w' ⟨rfl, ⟨nd, rfl⟩⟩; refine ⟨_, rfl, ?_⟩) | ((with_reducible refine gate_dst (N := 11) rfl ?_); refine Kd.R_lit (Kd.int .i64) _ 3 ?hg (N := 11) ?hd (xs := ([t379, t380] : List Int)) (inner := [.int .i64 t379, .int .i64 t380]) (ok := fun _ => True) (okp := fun _ => True) ?hr ?hp (fun _ hk => hk) trivial (Below.refl _ _) (Nat.le_refl _) (by simp) ?_; (case hd => rfl); (case hg => rfl); (case hr => first | (go_simp; done) | (go_simp; rfl)); (case hp => exact (Reps.one (show Kd.M (Kd.int .i64) _ _ _ t379 [.int .i64 t379] from rfl) (Reps.one (show Kd.M (Kd.int .i64) _ _ _ t380 [.int .i64 t380] from rfl) (Reps.none _ _)))); intro v382 w7 ho8 hb hg_ hnew_; clear hg_ hnew_; (first | rw [← Ny381.out] at ho8 | (simp only [Int.reduceToNat] at ho8; rw [← Ny381.out] at ho8)); have HO383 := Aside0.mk (Kd.R_lower ho8 (below_size bE)); replace HB := sB hb; clear hb ho8; obtain ⟨Ao9, co9, eo9⟩ := Kd.R_slice HO383.out; subst eo9) | (refine gl (some 12) Tryd.func112 #[.slice Ao9 y381.length co9] ?_; (with_reducible refine (cmp_Or_int.calls k _ _ y381 t384 _ ?side1 ?side2 (gS HG) A5.out).mono ?_); (case side1 => repeat (first | exact (Kd.R_reads' HO383.out).2.2 | (with_reducible refine Kd.C_alloc ?_ _) | (with_reducible refine Kd.C_drewN ?_ _) | (with_reducible refine Kd.C_drew ?_))); (case side2 => exact (Kd.R_reads' HO383.out).2.1); rintro e w' ⟨rfl, ⟨nd, rfl⟩⟩; refine ⟨_, rfl, ?_⟩))
 go_ret
 exact ⟨eA, bE⟩
def slices_MaxFunc_string_string.l0 : Nat → List ByteArray → ByteArray → Int → Option (ByteArray)
 | 0, _, _, _ => none
 | k + 1, x0, x5, x6 => if x6 < (x0.length : Int) then (if 0 ≤ x6 then ((order_whole.f k (rdOf ByteArray.empty x0 x6) x5).bind fun t387 => (if t387 > 0 then (slices_MaxFunc_string_string.l0 k x0 (rdOf ByteArray.empty x0 x6) (wrap64 (x6 + 1))) else (slices_MaxFunc_string_string.l0 k x0 x5 (wrap64 (x6 + 1))))) else (none)) else (some x5)
def slices_MaxFunc_string_string.f (k : Nat) (l0 : List ByteArray)  : Option (ByteArray) := if (l0.length : Int) < 1 then (none) else (if 0 < (l0.length : Int) then (slices_MaxFunc_string_string.l0 k l0 (rdOf ByteArray.empty l0 0) 1) else (none))
theorem slices_MaxFunc_string_string.mono_l : ∀ k, (∀ y0 y1 y2, LeO (slices_MaxFunc_string_string.l0 k y0 y1 y2) (slices_MaxFunc_string_string.l0 (k + 1) y0 y1 y2))
 | 0 => fun _ _ _ r h => by simp [slices_MaxFunc_string_string.l0] at h
 | k + 1 => by
  have ih0 := slices_MaxFunc_string_string.mono_l k
  ·intro y0 y1 y2
   unfold slices_MaxFunc_string_string.l0
   have m0 := @order_whole.mono
   exact mo
theorem slices_MaxFunc_string_string.mono : ∀ a0 k, LeO (slices_MaxFunc_string_string.f k a0) (slices_MaxFunc_string_string.f (k + 1) a0) := by
 intro a0 k
 have ih0 := slices_MaxFunc_string_string.mono_l k
 unfold slices_MaxFunc_string_string.f
 have m0 := @order_whole.mono
 exact mo
theorem slices_MaxFunc_string_string.calls (k : Nat) (A0 : Option Addr) (c0 : Nat) (l0 : List ByteArray)  (r : ByteArray) (w : World) (hr0 : Kd.C Kd.string w A0 l0.length l0) (hc0 : l0.length ≤ c0) (hG : Glob w) (h : slices_MaxFunc_string_string.f k l0 = some r) :
 Calls Tryd.prog 115 #[.slice A0 l0.length c0, .func (.func 116) #[] #[]] w fun e w' => e = .returned (.string r) ∧ Below w.heap.size w w' := by
 have HG := Aside0.mk hG
 clear hG
 have HR0 := Aside0.mk hr0
 have HC0 := Aside0.mk hc0
 clear hr0 hc0
 have HB := Aside0.mk (Below.refl w.heap.size w)
 have H : (if (l0.length : Int) < 1 then (none) else (if 0 < (l0.length : Int) then (slices_MaxFunc_string_string.l0 k l0 (rdOf ByteArray.empty l0 0) 1) else (none))) = some r := h
 clear h
 by_cases c3 : (l0.length : Int) < 1
 ·rw [if_pos c3] at H
  exact absurd H (by simp)
 rw [if_neg c3] at H
 have c3b0 := dF c3
 have c3b1 : decide (l0.length < 1) = false := decide_eq_false (by omega)
 clear c3
 by_cases c4 : 0 < (l0.length : Int)
 rotate_left
 ·rw [if_neg c4] at H
  exact absurd H (by simp)
 rw [if_pos c4] at H
 have c4b0 := dT c4
 have c4b1 : decide (0 < l0.length) = true := decide_eq_true (by omega)
 clear c4
 have H' := Aside0.mk H
 clear H
 have p385 : 0 ≤ (0 : Int) := (by omega)
 have q385 : 0 < (l0.length : Int) := dA
 obtain ⟨ad385, e385, hx385_0⟩ := Kd.at_string HR0.out 0 p385 q385
 cases e385
 have qi385 : (0 < l0.length) = True := eq_true (by omega)
 (try rw [show ((0 : Int)).toNat = 0 from rfl] at hx385_0)
 (try rw [Addr.add_zero'] at hx385_0)
 replace p385 := eq_true p385
 replace q385 := eq_true q385
 go_enter Tryd.func115, Tryd.ntmps115
 go_wp2
 go_loopg [5, 6] k (fun kq v5 v6 w' => ∃ (x5_1 : ByteArray) (x6_1 : Int), v5 = .string x5_1 ∧ v6 = .int .i64 x6_1 ∧ Aside0 (slices_MaxFunc_string_string.l0 kq l0 x5_1 x6_1 = some r) ∧ Aside0 (kq ≤ k) ∧ Aside0 (Below w.heap.size w w'))
 case atStart => exact ⟨(rdOf ByteArray.empty l0 0), (1), cA, cA, H', ⟨Nat.le_refl _⟩, ⟨bE⟩⟩
 clear H'
 try clear c1
 try clear p2
 try clear c3
 try clear c3b0
 try clear c3b1
 try clear p3
 try clear q3
 try clear hx3
 try clear qi3
 try clear c4
 try clear c4b0
 try clear c4b1
 try clear hx385_0
 try clear p385
 try clear q385
 obtain ⟨x5_1, x6_1, rfl, rfl, HA, HK1, HB⟩ := hrel
 cases gk with
 | zero => exact absurd HA.out (by simp [slices_MaxFunc_string_string.l0])
 | succ k1 =>
  have H := HA.out
  clear HA
  simp only [slices_MaxFunc_string_string.l0] at H
  (try simp only [toList_lit] at H)
  by_cases c5 : x6_1 < (l0.length : Int)
  rotate_left
  ·rw [if_neg c5] at H
   have c5b0 := dF c5
   clear c5
   obtain rfl := Option.some.inj H
   go_wp2
   go_ret
   exact ⟨eA, bE⟩
  rw [if_pos c5] at H
  have c5b0 := dT c5
  clear c5
  by_cases c6 : 0 ≤ x6_1
  rotate_left
  ·rw [if_neg c6] at H
   exact absurd H (by simp)
  rw [if_pos c6] at H
  have c6b0 := dT c6
  clear c6
  replace H := bi H
  obtain ⟨t387, A70, H⟩ := H
  try dsimp only at H
  have A7 := Aside0.mk A70
  clear A70
  by_cases c8 : t387 > 0
  rotate_left
  ·rw [if_neg c8] at H
   have c8b0 := dF c8
   clear c8
   have H' := Aside0.mk H
   clear H
   have p386 : 0 ≤ (x6_1 : Int) := dA
   have q386 : x6_1 < (l0.length : Int) := dA
   obtain ⟨ad386, e386, hx386_0⟩ := Kd.at_string HR0.out x6_1 p386 q386
   obtain rfl : ad385 = ad386 := (by injection e386)
   replace hx386_0 := (HB.out.cell (World.block_lt_of_cell? w _ hx386_0)).trans hx386_0
   replace p386 := eq_true p386
   replace q386 := eq_true q386
   go_wp2_with (first | (go_at_call 116; (with_reducible refine (order_whole.calls k1 (rdOf ByteArray.empty l0 x6_1) x5_1 t387 _ (gS HG) A7.out).mono ?_); rintro e w10 ⟨rfl, hb⟩; replace HB := sB hb; (try clear hb)))
   go_roundg k1
   case measure => have := HK1.out; omega
   case rel => exact ⟨(x5_1), (wrap64 (x6_1 + 1)), cA, cA, H', ⟨by have := HK1.out; omega⟩, ⟨bE⟩⟩
  rw [if_pos c8] at H
  have c8b0 := dT c8
  clear c8
  have H' := Aside0.mk H
  clear H
  have p386 : 0 ≤ (x6_1 : Int) := dA
  have q386 : x6_1 < (l0.length : Int) := dA
  obtain ⟨ad386, e386, hx386_0⟩ := Kd.at_string HR0.out x6_1 p386 q386
  obtain rfl : ad385 = ad386 := (by injection e386)
  replace hx386_0 := (HB.out.cell (World.block_lt_of_cell? w _ hx386_0)).trans hx386_0
  replace p386 := eq_true p386
  replace q386 := eq_true q386
  go_wp2_with (first | (go_at_call 116; (with_reducible refine (order_whole.calls k1 (rdOf ByteArray.empty l0 x6_1) x5_1 t387 _ (gS HG) A7.out).mono ?_); rintro e w9 ⟨rfl, hb⟩; replace HB := sB hb; (try clear hb); have p388 : 0 ≤ (x6_1 : Int) := dA; have q388 : x6_1 < (l0.length : Int) := dA; obtain ⟨ad388, e388, hx388_0⟩ := Kd.at_string HR0.out x6_1 p388 q388; obtain rfl : ad385 = ad388 := (by injection e388); replace hx388_0 := (HB.out.cell (World.block_lt_of_cell? w _ hx388_0)).trans hx388_0; replace p388 := eq_true p388; replace q388 := eq_true q388))
  go_roundg k1
  case measure => have := HK1.out; omega
  case rel => exact ⟨(rdOf ByteArray.empty l0 x6_1), (wrap64 (x6_1 + 1)), cA, cA, H', ⟨by have := HK1.out; omega⟩, ⟨bE⟩⟩
def order_Greatest.f (k : Nat) (l0 : List ByteArray) : Option (ByteArray × Bool) := if (l0.length : Int) = 0 then (some ((⟨#[]⟩ : ByteArray), false)) else ((slices_MaxFunc_string_string.f k l0).bind fun t389 => (some (t389, true)))
theorem order_Greatest.mono : ∀ a0 k, LeO (order_Greatest.f k a0) (order_Greatest.f (k + 1) a0) := by
 intro a0 k
 unfold order_Greatest.f
 have m0 := @slices_MaxFunc_string_string.mono
 exact mo
theorem order_Greatest.calls (k : Nat) (A0 : Option Addr) (c0 : Nat) (l0 : List ByteArray) (r1 : ByteArray) (r2 : Bool) (w : World) (hr0 : Kd.C Kd.string w A0 l0.length l0) (hc0 : l0.length ≤ c0) (hG : Glob w) (h : order_Greatest.f k l0 = some (r1, r2)) :
 Calls Tryd.prog 84 #[.slice A0 l0.length c0] w fun e w' => e = .returned (.tuple #[.string r1, .bool r2]) ∧ Below w.heap.size w w' := by
 have HG := Aside0.mk hG
 clear hG
 have HR0 := Aside0.mk hr0
 have HC0 := Aside0.mk hc0
 clear hr0 hc0
 have HB := Aside0.mk (Below.refl w.heap.size w)
 have H : (if (l0.length : Int) = 0 then (some ((⟨#[]⟩ : ByteArray), false)) else ((slices_MaxFunc_string_string.f k l0).bind fun t389 => (some (t389, true)))) = some (r1, r2) := h
 clear h
 by_cases c2 : (l0.length : Int) = 0
 ·rw [if_pos c2] at H
  obtain ⟨c2b0, c2b1⟩ := eqT c2
  clear c2
  simp only [Option.some.injEq, Prod.mk.injEq] at H
  obtain ⟨rfl, rfl⟩ := H
  go_enter Tryd.func84, Tryd.ntmps84
  go_wp2
  go_ret2
  exact ⟨eA, bE⟩
 rw [if_neg c2] at H
 obtain ⟨c2b0, c2b1⟩ := eqF c2
 have c2b2 : ¬ (l0 = []) := fun h_ => c2 (by rw [h_]; rfl)
 replace H := bi H
 obtain ⟨t389, A30, H⟩ := H
 try dsimp only at H
 have A3 := Aside0.mk A30
 clear A30
 simp only [Option.some.injEq, Prod.mk.injEq] at H
 obtain ⟨rfl, rfl⟩ := H
 go_enter Tryd.func84, Tryd.ntmps84
 go_wp2_with (first | (refine gl (some 8) Tryd.func115 #[.slice A0 l0.length c0, .func (.func 116) #[] #[]] ?_; (with_reducible refine (slices_MaxFunc_string_string.calls k _ _ l0  t389 _ ?side1 ?side2 (gS HG) A3.out).mono ?_); (case side1 => repeat (first | exact HR0.out | (with_reducible refine Kd.C_alloc ?_ _) | (with_reducible refine Kd.C_drewN ?_ _) | (with_reducible refine Kd.C_drew ?_))); (case side2 => exact HC0.out); rintro e w4 ⟨rfl, hb⟩; refine ⟨_, rfl, ?_⟩; replace HB := sB hb; (try clear hb)))
 go_ret2
 exact ⟨eA, bE⟩
def choose_Highest.l0 : Nat → List ByteArray → List (S58) → List ByteArray → Int → Option (ByteArray × Bool)
 | 0, _, _, _, _ => none
 | k + 1, x0, x1, x6, x7 => if x7 < (x0.length : Int) then (if 0 ≤ x7 then ((span_Holds.f k x1 (rdOf ByteArray.empty x0 x7)).bind fun t391 => (if t391 = true then (if x6.length < 8796093022208 then (choose_Highest.l0 k x0 x1 (x6 ++ [rdOf ByteArray.empty x0 x7]) (wrap64 (x7 + 1))) else (none)) else (choose_Highest.l0 k x0 x1 x6 (wrap64 (x7 + 1))))) else (none)) else ((order_Greatest.f k x6).bind fun bt396 => (some (bt396.1, bt396.2)))
def choose_Highest.f (k : Nat) (l0 : List ByteArray) (l1 : List (S58)) : Option (ByteArray × Bool) := choose_Highest.l0 k l0 l1 ([] : List ByteArray) 0
theorem choose_Highest.mono_l : ∀ k, (∀ y0 y1 y2 y3, LeO (choose_Highest.l0 k y0 y1 y2 y3) (choose_Highest.l0 (k + 1) y0 y1 y2 y3))
 | 0 => fun _ _ _ _ r h => by simp [choose_Highest.l0] at h
 | k + 1 => by
  have ih0 := choose_Highest.mono_l k
  ·intro y0 y1 y2 y3
   unfold choose_Highest.l0
   have m0 := @order_Greatest.mono
   have m1 := @span_Holds.mono
   exact mo
theorem choose_Highest.mono : ∀ a0 a1 k, LeO (choose_Highest.f k a0 a1) (choose_Highest.f (k + 1) a0 a1) := by
 intro a0 a1 k
 have ih0 := choose_Highest.mono_l k
 unfold choose_Highest.f
 have m0 := @order_Greatest.mono
 have m1 := @span_Holds.mono
 exact mo
theorem choose_Highest.calls (k : Nat) (A0 : Option Addr) (c0 : Nat) (l0 : List ByteArray) (A1 : Option Addr) (c1 : Nat) (l1 : List (S58)) (r1 : ByteArray) (r2 : Bool) (w : World) (hr0 : Kd.C Kd.string w A0 l0.length l0) (hc0 : l0.length ≤ c0) (hr1 : Kd.C k58 w A1 l1.length l1) (hc1 : l1.length ≤ c1) (hG : Glob w) (h : choose_Highest.f k l0 l1 = some (r1, r2)) :
 Calls Tryd.prog 46 #[.slice A0 l0.length c0, .slice A1 l1.length c1] w fun e w' => e = .returned (.tuple #[.string r1, .bool r2]) ∧ Below w.heap.size w w' := by
 have HG := Aside0.mk hG
 clear hG
 have HR0 := Aside0.mk hr0
 have HC0 := Aside0.mk hc0
 clear hr0 hc0
 have HR1 := Aside0.mk hr1
 have HC1 := Aside0.mk hc1
 clear hr1 hc1
 have HB := Aside0.mk (Below.refl w.heap.size w)
 have H : (choose_Highest.l0 k l0 l1 ([] : List ByteArray) 0) = some (r1, r2) := h
 clear h
 have HS3 := Aside0.mk H
 clear H
 go_enter Tryd.func46, Tryd.ntmps46
 go_wp2
 refine wp_scope_loop 0 (by rfl) ?_
 have H := HS3.out
 clear HS3
 have H' := Aside0.mk H
 clear H
 go_wp2
 refine wp_label ?_
 rename_i hlb
 refine hlb _ _ ?_
 refine wp_at_label ?_
 refine LoopAt.intro (fun aB_ kq_ a1 w1 => ∃ (u4 u5 u6 u7 u8 u9 u10 u11 u12 u13 u14 u15 u16 u17 u18 u19 u20 u21 u22 u23 u24 u25 u26 u27 u28 u29 u30 : Value), (fun kq v6 v7 w' => ∃ (x6_1 : List ByteArray) (x7_1 : Int), v7 = .int .i64 x7_1 ∧ Aside0 (choose_Highest.l0 kq l0 l1 x6_1 x7_1 = some (r1, r2)) ∧ Aside0 (kq ≤ k) ∧ Aside0 (Kd.R Kd.string 9 w' w.heap.size (fun _ => True) v6 x6_1) ∧ Aside0 (Below w.heap.size w w')) kq_ u6 u7 w1 ∧ a1 = (((((((((((((((((((((((((((aB_.put (some 4) u4).put (some 5) u5).put (some 6) u6).put (some 7) u7).put (some 8) u8).put (some 9) u9).put (some 10) u10).put (some 11) u11).put (some 12) u12).put (some 13) u13).put (some 14) u14).put (some 15) u15).put (some 16) u16).put (some 17) u17).put (some 18) u18).put (some 19) u19).put (some 20) u20).put (some 21) u21).put (some 22) u22).put (some 23) u23).put (some 24) u24).put (some 25) u25).put (some 26) u26).put (some 27) u27).put (some 28) u28).put (some 29) u29).put (some 30) u30)) k ?_ ?_
 ·(repeat apply Exists.intro)
  (try simp only [Act.put, List.setIfInBounds_toArray, List.set_cons_zero, List.set_cons_succ])
  refine ⟨?_, rfl⟩
  exact ⟨(([] : List ByteArray)), (0), cA, H', ⟨Nat.le_refl _⟩, ⟨by first | exact Kd.R_nil _ _ _ _ _ | exact Kd.N_nil _ _ _ _ _ | exact Kd.V_nil _ _ _ _ _ | exact Kd.Q_nil _ _ _ _ _ | exact Kd.S_nil _ _ _ _ _⟩, ⟨bE⟩⟩
 ·intro gk a1 wr hinv
  obtain ⟨u4, u5, u6, u7, u8, u9, u10, u11, u12, u13, u14, u15, u16, u17, u18, u19, u20, u21, u22, u23, u24, u25, u26, u27, u28, u29, u30, hrel, ha⟩ := hinv
  subst ha
  (try simp only [Act.put, List.setIfInBounds_toArray, List.set_cons_zero, List.set_cons_succ])
  intro Js0 Ks0 hJs0 hKs0
  clear H'
  try clear c1
  try clear p2
  obtain ⟨x6_1, x7_1, rfl, HA, HK1, HO_6, HB⟩ := hrel
  cases gk with
  | zero => exact absurd HA.out (by simp [choose_Highest.l0])
  | succ k1 =>
   have H := HA.out
   clear HA
   simp only [choose_Highest.l0] at H
   by_cases c4 : x7_1 < (l0.length : Int)
   rotate_left
   ·rw [if_neg c4] at H
    have c4b0 := dF c4
    clear c4
    replace H := bi H
    obtain ⟨⟨t396, t397⟩, A120, H⟩ := H
    try dsimp only at H
    have A12 := Aside0.mk A120
    clear A120
    simp only [Option.some.injEq, Prod.mk.injEq] at H
    obtain ⟨rfl, rfl⟩ := H
    obtain ⟨Ao13, co13, eo13⟩ := Kd.R_slice HO_6.out
    subst eo13
    go_wp2_with (first | (refine gl (some 28) Tryd.func84 #[.slice Ao13 x6_1.length co13] ?_; (with_reducible refine (order_Greatest.calls k1 _ _ x6_1 t396 t397 _ ?side1 ?side2 (gS HG) A12.out).mono ?_); (case side1 => repeat (first | exact (Kd.R_reads' HO_6.out).2.2 | (with_reducible refine Kd.C_alloc ?_ _) | (with_reducible refine Kd.C_drewN ?_ _) | (with_reducible refine Kd.C_drew ?_))); (case side2 => exact (Kd.R_reads' HO_6.out).2.1); rintro e w14 ⟨rfl, hb⟩; refine ⟨_, rfl, ?_⟩; replace HO_6 := rB HO_6 hb; replace HB := sB hb; (try clear hb)))
    (try simp only [Exit.inBlock, Exit.then, jump_ret])
    go_ret2
    exact ⟨eA, bE⟩
   rw [if_pos c4] at H
   have c4b0 := dT c4
   clear c4
   by_cases c5 : 0 ≤ x7_1
   rotate_left
   ·rw [if_neg c5] at H
    exact absurd H (by simp)
   rw [if_pos c5] at H
   have c5b0 := dT c5
   clear c5
   replace H := bi H
   obtain ⟨t391, A60, H⟩ := H
   try dsimp only at H
   have A6 := Aside0.mk A60
   clear A60
   by_cases c7 : t391 = true
   rotate_left
   ·replace c7 := Bool.eq_false_iff.mpr c7
    subst c7
    have H1 : (choose_Highest.l0 k1 l0 l1 x6_1 (wrap64 (x7_1 + 1))) = some (r1, r2) := by rw [if_neg (show ¬ (false = true) by decide)] at H; exact H
    clear H
    have H := H1
    clear H1
    have H' := Aside0.mk H
    clear H
    have p390 : 0 ≤ (x7_1 : Int) := dA
    have q390 : x7_1 < (l0.length : Int) := dA
    obtain ⟨ad390, e390, hx390_0⟩ := Kd.at_string HR0.out x7_1 p390 q390
    cases e390
    replace hx390_0 := (HB.out.cell (World.block_lt_of_cell? w _ hx390_0)).trans hx390_0
    replace p390 := eq_true p390
    replace q390 := eq_true q390
    go_wp2_with (first | (refine gl (some 17) Tryd.func58 #[.slice A1 l1.length c1, .string (rdOf ByteArray.empty l0 x7_1)] ?_; (with_reducible refine (span_Holds.calls k1 _ _ l1 (rdOf ByteArray.empty l0 x7_1) false _ ?side1 ?side2 (gS HG) A6.out).mono ?_); (case side1 => repeat (first | exact (Kd.C_below HR1.out HB.out) | (with_reducible refine Kd.C_alloc ?_ _) | (with_reducible refine Kd.C_drewN ?_ _) | (with_reducible refine Kd.C_drew ?_))); (case side2 => exact HC1.out); rintro e w11 ⟨rfl, hb⟩; refine ⟨_, rfl, ?_⟩; replace HO_6 := rB HO_6 hb; replace HB := sB hb; (try clear hb)))
    refine wp_goto (And.intro rfl ?_)
    refine hKs0 _ _ ?_
    go_roundg k1
    case measure => have := HK1.out; omega
    case rel => exact ⟨(x6_1), (wrap64 (x7_1 + 1)), cA, H', ⟨by have := HK1.out; omega⟩, ⟨kR HO_6⟩, ⟨bE⟩⟩
   subst c7
   have H1 : (if x6_1.length < 8796093022208 then (choose_Highest.l0 k1 l0 l1 (x6_1 ++ [rdOf ByteArray.empty l0 x7_1]) (wrap64 (x7_1 + 1))) else (none)) = some (r1, r2) := by rw [if_pos rfl] at H; exact H
   clear H
   have H := H1
   clear H1
   by_cases c8 : x6_1.length < 8796093022208
   rotate_left
   ·rw [if_neg c8] at H
    exact absurd H (by simp)
   rw [if_pos c8] at H
   have LMc8 := Aside0.mk c8
   clear c8
   obtain ⟨y393, hy393⟩ : ∃ y_ : List ByteArray, y_ = (x6_1 ++ [rdOf ByteArray.empty l0 x7_1]) := ⟨_, rfl⟩
   replace H : (choose_Highest.l0 k1 l0 l1 y393 (wrap64 (x7_1 + 1))) = some (r1, r2) := by first | (rw [hy393]; with_reducible exact H) | (have H2_ := (Option.bind_some _ _).symm.trans H; rw [hy393]; with_reducible exact H2_) | (have H2_ := (Option.bind_some _ _).symm.trans H; with_reducible exact H2_) | with_reducible exact H | (rw [hy393]; exact H) | exact H
   have Ny393 := Aside0.mk hy393
   clear hy393
   have H' := Aside0.mk H
   clear H
   have p390 : 0 ≤ (x7_1 : Int) := dA
   have q390 : x7_1 < (l0.length : Int) := dA
   obtain ⟨ad390, e390, hx390_0⟩ := Kd.at_string HR0.out x7_1 p390 q390
   cases e390
   replace hx390_0 := (HB.out.cell (World.block_lt_of_cell? w _ hx390_0)).trans hx390_0
   replace p390 := eq_true p390
   replace q390 := eq_true q390
   go_wp2_with (first | (refine gl (some 17) Tryd.func58 #[.slice A1 l1.length c1, .string (rdOf ByteArray.empty l0 x7_1)] ?_; (with_reducible refine (span_Holds.calls k1 _ _ l1 (rdOf ByteArray.empty l0 x7_1) true _ ?side1 ?side2 (gS HG) A6.out).mono ?_); (case side1 => repeat (first | exact (Kd.C_below HR1.out HB.out) | (with_reducible refine Kd.C_alloc ?_ _) | (with_reducible refine Kd.C_drewN ?_ _) | (with_reducible refine Kd.C_drew ?_))); (case side2 => exact HC1.out); rintro e w9 ⟨rfl, hb⟩; refine ⟨_, rfl, ?_⟩; replace HO_6 := rB HO_6 hb; replace HB := sB hb; (try clear hb); have p392 : 0 ≤ (x7_1 : Int) := dA; have q392 : x7_1 < (l0.length : Int) := dA; obtain ⟨ad392, e392, hx392_0⟩ := Kd.at_string HR0.out x7_1 p392 q392; obtain rfl : ad390 = ad392 := (by injection e392); replace hx392_0 := (HB.out.cell (World.block_lt_of_cell? w _ hx392_0)).trans hx392_0; replace p392 := eq_true p392; replace q392 := eq_true q392) | ((with_reducible refine gate_builtin (b := .append) (xs := #[.tmp 18, .tmp 23]) rfl ?_); at_builtin; refine Kd.R_append Kd.string (w0 := w) w.heap.size rfl (.tmp 18) (.tmp 23) 43 9 (.string ⟨#[]⟩) 16 rfl Tryd.underlying43 info9 rfl (by decide) (by omega) u6 x6_1 (rdOf ByteArray.empty l0 x7_1) [.string (rdOf ByteArray.empty l0 x7_1)] (fun _ => True) (fun _ => False) rfl rfl ?aP (fun _ hk => hk.elim) ?aF ?aO ?aB ?aS ?aL ?_; (case aP => exact rfl); (case aB => exact bE); (case aF => exact (fun _ _ => trivial)); (case aO => exact (kR HO_6)); (case aS => exact (below_size bE)); (case aL => have := LMc8.out; omega); intro v394 w10 ho hb hg hat; rw [← Ny393.out] at ho; replace HB := Aside0.mk (hb); have HO395 := Aside0.mk (ho); clear HO_6; clear ho hb hg hat))
   refine wp_goto (And.intro rfl ?_)
   refine hKs0 _ _ ?_
   go_roundg k1
   case measure => have := HK1.out; omega
   case rel => exact ⟨(y393), (wrap64 (x7_1 + 1)), cA, H', ⟨by have := HK1.out; omega⟩, ⟨kR HO395⟩, ⟨bE⟩⟩
end Go.Proofs.YtgdjfcmmpjcaaaaDoor.Q
namespace Go.Proofs.YtgdjfcmmpjcaaaaDoor.Q
open Go.RowKit Go.Proofs.YtgdjfcmmpjcaaaaDoorW.PrintWords Go.Proofs.YtgdjfcmmpjcaaaaDoorW.PrintLast Go.Proofs.YtgdjfcmmpjcaaaaDoorW.Own Go.Proofs.YtgdjfcmmpjcaaaaDoorW.PrintMore
attribute [local go_sem] max2_int min2_int max_two min_two max_three min_three max_four min_four   -- for this text's walks alone
set_option linter.unusedVariables false
set_option linter.unusedSimpArgs false
namespace IndexAnyG
open Go Go.RowKit Go.Lib
theorem dec_hi (s : ByteArray) (i : Nat) (h : i < s.size) (hx : 128 ≤ (s.get! i).toNat) :
    1 ≤ (Utf8.decode s i).2 ∧ i + (Utf8.decode s i).2 ≤ s.size ∧ 128 ≤ (Utf8.decode s i).1 ∧ (Utf8.decode s i).1 ≤ 1114111 ∧ ∀ j, j < (Utf8.decode s i).2 → 128 ≤ (s.get! (i + j)).toNat := by
  have k0 : ∀ j, j < 1 → 128 ≤ (s.get! (i + j)).toNat := fun j hj => by
    obtain rfl : j = 0 := by omega
    exact hx
  have bad : 1 ≤ (Utf8.runeError, 1).2 ∧ i + (Utf8.runeError, 1).2 ≤ s.size ∧ 128 ≤ (Utf8.runeError, 1).1 ∧ (Utf8.runeError, 1).1 ≤ 1114111 ∧ ∀ j, j < (Utf8.runeError, 1).2 → 128 ≤ (s.get! (i + j)).toNat := ⟨Nat.le_refl _, h, by decide, by decide, k0⟩
  have hb : ∀ k, (s.get! (i + k)).toNat < 256 := fun k => UInt8.toNat_lt _
  unfold Utf8.decode
  simp only [Nat.add_zero]
  rw [if_neg (by omega)]
  have c1 : ∀ k, (decide (i + k < s.size) && (s.get! (i + k)).toNat / 64 == 2) = true → i + k < s.size ∧ 128 ≤ (s.get! (i + k)).toNat := fun k hk => by
    simp only [Bool.and_eq_true, decide_eq_true_eq, beq_iff_eq] at hk
    exact ⟨hk.1, by omega⟩
  split
  · rename_i h2
    simp only [Bool.and_eq_true] at h2
    obtain ⟨h21, h22⟩ := h2
    have d1 := c1 1 (by simpa using h22)
    have h21 : (s.get! i).toNat / 32 = 6 := by simpa using h21
    have b0 := hb 0; simp only [Nat.add_zero] at b0
    split
    · rename_i h3
      refine ⟨by show 1 ≤ 2; omega, by show i + 2 ≤ _; omega, by show 128 ≤ _; omega, by show _ ≤ 1114111; omega, fun j hj => ?_⟩
      have hj : j < 2 := hj
      rcases (by omega : j = 0 ∨ j = 1) with rfl | rfl
      · exact hx
      · exact d1.2
    · exact bad
  · split
    · rename_i h2
      simp only [Bool.and_eq_true] at h2
      obtain ⟨⟨h21, h22⟩, h23⟩ := h2
      have d1 := c1 1 (by simpa using h22)
      have d2 := c1 2 (by simpa using h23)
      have h21 : (s.get! i).toNat / 16 = 14 := by simpa using h21
      split
      · rename_i h3
        simp only [Bool.and_eq_true, decide_eq_true_eq] at h3
        refine ⟨by show 1 ≤ 3; omega, by show i + 3 ≤ _; omega, by show 128 ≤ _; omega, by show _ ≤ 1114111; omega, fun j hj => ?_⟩
        have hj : j < 3 := hj
        rcases (by omega : j = 0 ∨ j = 1 ∨ j = 2) with rfl | rfl | rfl
        · exact hx
        · exact d1.2
        · exact d2.2
      · exact bad
    · split
      · rename_i h2
        simp only [Bool.and_eq_true] at h2
        obtain ⟨⟨⟨h21, h22⟩, h23⟩, h24⟩ := h2
        have d1 := c1 1 (by simpa using h22)
        have d2 := c1 2 (by simpa using h23)
        have d3 := c1 3 (by simpa using h24)
        split
        · rename_i h3
          simp only [Bool.and_eq_true, decide_eq_true_eq] at h3
          have hv := h3.2
          refine ⟨by show 1 ≤ 4; omega, by show i + 4 ≤ _; omega, by show 128 ≤ _; omega, ?_, fun j hj => ?_⟩
          · simp only [Utf8.valid] at hv
            show _ ≤ 1114111
            simp at hv
            omega
          · have hj : j < 4 := hj
            rcases (by omega : j = 0 ∨ j = 1 ∨ j = 2 ∨ j = 3) with rfl | rfl | rfl | rfl
            · exact hx
            · exact d1.2
            · exact d2.2
            · exact d3.2
        · exact bad
      · exact bad
theorem get_data (s : ByteArray) (i : Nat) (h : i < s.size) : s.data.toList[i]? = some (s.get! i) := by
  have h1 : i < s.data.size := h
  have h2 : s.get! i = s.data[i] := by
    show s.data[i]! = _
    rw [getElem!_pos s.data i h1]
  rw [h2, List.getElem?_eq_getElem (by simpa using h1)]
  simp
theorem indexByte_none (l : List UInt8) (c : UInt8) (h : ∀ b ∈ l, b ≠ c) : Lib.indexByte l c = -1 := by
  rcases Int.lt_or_le (Lib.indexByte l c) 0 with h0 | h0
  · have := Lib.indexByte_ge l c
    omega
  · exfalso
    have := Lib.contains_iff_indexByte l c
    rw [decide_eq_true h0] at this
    exact h c (by simpa using this) rfl
set_option maxHeartbeats 8000000 in
set_option maxRecDepth 1000000 in
theorem indexRune_hi (s : ByteArray) (r : Int) (w : World) (h0 : 128 ≤ r) (h1 : r ≤ 1114111) (hs : s.size < 4294967281) (hascii : ∀ (j : Nat) b, s.data.toList[j]? = some b → b.toNat < 128) :
    Calls Tryd.prog 144 #[.string s, .int .i32 r] w fun e w' => e = .returned (.int .i64 (-1)) ∧ Below w.heap.size w w' := by
  have HA : Aside (∀ (j : Nat) b, s.data.toList[j]? = some b → b.toNat < 128) := hascii
  clear hascii
  have n128 : decide (r < 128) = false := decide_eq_false (by omega)
  have p0 : decide (0 ≤ r) = true := decide_eq_true (by omega)
  by_cases hE : r = 65533
  · subst hE
    go_enter Tryd.func144, Tryd.ntmps144
    go_wp2
    go_loopg [] s.size (fun g wx => ∃ i : Nat, i + g = s.size ∧ wx = w.iter s i)
    case atStart => exact ⟨0, by omega, rfl⟩
    case round =>
      obtain ⟨i, hig, rfl⟩ := hrel
      cases gk with
      | zero =>
        obtain rfl : i = s.size := by omega
        have hnx := run_next_end (P := Tryd.prog) w s s.size
        go_wp2
        go_ret
        exact ⟨rfl, (Below.refl _ _).alloc (Nat.le_refl _) _⟩
      | succ g =>
        have hi : i < s.size := by omega
        have hx128 : (s[i]'hi).toNat < 128 := HA.out i _ (Lib.data_getElem? s i hi)
        have hnx := fun ty => run_next_ascii (P := Tryd.prog) w s i ty hi hx128
        obtain ⟨x, hx⟩ : ∃ x : Nat, (s[i]'hi).toNat = x := ⟨_, rfl⟩
        rw [hx] at hnx hx128
        clear hx
        have hne : (((x : Nat) : Int) == 65533) = false := beq_eq_false_iff_ne.2 (by omega)
        go_wp2
        go_roundg g
        case measure => omega
        case rel => exact ⟨i + 1, by omega, rfl⟩
  · have bE : (r == 65533) = false := beq_eq_false_iff_ne.2 hE
    by_cases hv : Lib.validRune r = true
    · have hv' : Utf8.valid r = true := by rw [Go.validRune_eq]; exact hv
      obtain ⟨he2, he4, hlast⟩ := encode_facts r hv' h0
      obtain ⟨t, ht⟩ : ∃ t : ByteArray, Utf8.encode r = t := ⟨_, rfl⟩
      rw [ht] at he2 he4 hlast
      have HT : Aside (Utf8.encode r = t) := ht
      clear ht
      go_enter Tryd.func144, Tryd.ntmps144
      go_wp2_with (first | (go_at_call 163; refine (Tryd.utf8_ValidRune _ _).mono ?_; rintro e w' ⟨rfl, rfl⟩; rw [hv]))
      go_step3
      have hr128 : decide (r < 128) = false := n128
      go_wp2
      obtain ⟨m, hm⟩ : ∃ m, t.size = m + 1 := ⟨t.size - 1, by omega⟩
      have hw : wrap64 ((t.size : Int) - 1) = (m : Int) := by unfold wrap64; omega
      rw [HT.out, hw]
      have hm3 : m ≤ 3 := by omega
      have hmt : m < t.size := by omega
      obtain ⟨c, hc⟩ : ∃ c : UInt8, t[m]'hmt = c := ⟨_, rfl⟩
      have hc128 : 128 ≤ c.toNat := by
        have h1 := hlast (by omega)
        have h2 : t[t.size - 1]'(by omega) = t[m]'hmt := by congr 1; omega
        rw [h2, hc] at h1
        exact h1
      have HM : Aside (t.size = m + 1) := hm
      clear hm hw he2 he4 hlast HT
      refine wp_loop_rounds 1 ?_
      rw [rounds_succ]
      by_cases hlt : m < s.size
      · have hd : decide ((m : Int) < (s.size : Int)) = true := decide_eq_true (by omega)
        have hx128 : (s[m]'hlt).toNat < 128 := HA.out m _ (Lib.data_getElem? s m hlt)
        obtain ⟨x, hx⟩ : ∃ x : UInt8, s[m]'hlt = x := ⟨_, rfl⟩
        rw [hx] at hx128
        have hne : ((x.toNat : Int) != (c.toNat : Int)) = true := bne_iff_ne.2 (by omega)
        have hno : Lib.indexByte (s.extract (m + 1) s.size).data.toList c = -1 := by
          refine indexByte_none _ _ (fun b hb hbc => ?_)
          have hb' := mem_extract hb
          obtain ⟨j, hj⟩ := List.mem_iff_getElem?.1 hb'
          have := HA.out j b hj
          rw [hbc] at this
          omega
        have HN := Lib.hid hno
        clear hno
        have HX := Lib.hid hx
        have HC := Lib.hid hc
        go_wp2_with (fail)
        go_step3
        go_wp2_with (fail)
        have px : (m : Int) < (s.size : Int) := by omega
        have pt : (m : Int) < (t.size : Int) := by omega
        go_quiet (fail)
        generalize hWx : World.drewN _ _ = W2
        have HBW : Aside (Below w'.heap.size w' W2) := by
          rw [← hWx]
          exact pw_below_drewN (Below.refl _ _) _
        clear hWx
        go_wp2_with (fail)
        have e1 : IntKind.i64.wrap ((m : Int) + 1) = (m : Int) + 1 := by rw [i64_w]; unfold wrap64; omega
        have e2 : ((m : Int) + 1).toNat = m + 1 := by omega
        have e3 : (0 : Int) ≤ (m : Int) + 1 := by omega
        have e4 : (m : Int) + 1 ≤ (s.size : Int) := by omega
        go_quiet ((go_at_call 68; exact Calls.quiet_of_same (Tryd.strings_IndexByte _ _ _)))
        generalize hO : Lib.indexByte _ _ = o
        have ho : o = -1 := by
          rw [← hO]
          simpa using HN.out
        clear hO
        subst ho
        go_wp2_with (fail)
        rw [Exit.noGoto_ret]
        simp only [Exit.inBlock, Exit.then]
        rw [Exit.noGoto_ret]
        simp only [Exit.inBlock]
        go_ret
        exact ⟨rfl, pw_below_drewN HBW.out _⟩
      · have hd : decide ((m : Int) < (s.size : Int)) = false := decide_eq_false (by omega)
        go_wp2
        rw [Exit.noGoto_ret]
        go_ret
        exact ⟨rfl, Below.refl _ _⟩
    · have hv' : Lib.validRune r = false := by simpa using hv
      clear hv
      go_enter Tryd.func144, Tryd.ntmps144
      go_wp2_with (first | (go_at_call 163; refine (Tryd.utf8_ValidRune _ _).mono ?_; rintro e w' ⟨rfl, rfl⟩; rw [hv']))
      go_ret
      exact ⟨rfl, Below.refl _ _⟩
theorem below_iterAt {B : Nat} {a w : World} (h : Below B a w) (k : Nat) (hk : B ≤ k) (s : ByteArray) (pos : Nat) : Below B a (w.iterAt k s pos) :=
  h.trans ⟨rfl, rfl, rfl, by simp [World.iterAt], fun i hi => by simp only [World.iterAt]; rw [Array.getElem?_setIfInBounds_ne (by omega)]⟩
theorem NoAny_step (l chars : List UInt8) (i k : Nat) (h : Lib.NoAny l chars i) (hc : ∀ j, i ≤ j → j < i + k → ∀ b, l[j]? = some b → chars.contains b = false) : Lib.NoAny l chars (i + k) := by
  induction k with
  | zero => exact h
  | succ k ih =>
    have h1 := ih (fun j h1 h2 => hc j h1 (by omega))
    rcases Nat.lt_or_ge (i + k) l.length with hl | hl
    · have hx : l[i + k]? = some l[i + k] := List.getElem?_eq_getElem hl
      exact h1.succ hx (hc (i + k) (by omega) (by omega) _ hx)
    · intro j b hj hb
      have hjl := (List.getElem?_eq_some_iff.1 hb).1
      exact h1 j b (by omega) hb
set_option maxHeartbeats 8000000 in
set_option maxRecDepth 1000000 in
theorem indexAny_short (s chars : ByteArray) (w : World) (h2 : 2 ≤ chars.size) (h8 : s.size ≤ 8) (hcs : chars.size < 4294967281) (hac : ∀ (j : Nat) b, chars.data.toList[j]? = some b → b.toNat < 128) :
    Calls Tryd.prog 123 #[.string s, .string chars] w fun e w' => e = .returned (.int .i64 (Lib.indexAny s.data.toList chars.data.toList)) ∧ Below w.heap.size w w' := by
  have HA : Aside (∀ (j : Nat) b, chars.data.toList[j]? = some b → b.toNat < 128) := hac
  clear hac
  have hemp : chars.toList.isEmpty = false := by
    rw [Lib.toList_data]
    cases h : chars.data.toList with
    | nil => have := Lib.size_eq chars; rw [h, List.length_nil] at this; omega
    | cons _ _ => rfl
  have hn1 : ((chars.size : Int) == 1) = false := beq_eq_false_iff_ne.2 (by omega)
  have h8z : decide ((8 : Int) < (s.size : Int)) = false := decide_eq_false (by omega)
  go_enter Tryd.func123, Tryd.ntmps123
  go_wp2_with (go_at_call 145; refine (Tryd.strings_shouldUseASCIISet _ _).mono ?_; rintro e w' ⟨rfl, rfl⟩; rw [h8z])
  have HB0 : Aside (Below w'.heap.size w' (w'.iter s 0)) := (Below.refl _ _).alloc (Nat.le_refl _) _
  have HI0 : Aside ((w'.iter s 0).heap[w'.heap.size]? = some (.stringIter s 0)) := World.iter_heap _ _ _
  generalize w'.iter s 0 = wi at *
  go_loopg [] s.size (fun g wx => ∃ i : Nat, s.size ≤ i + g ∧ i ≤ s.size ∧ Aside (wx.heap[w'.heap.size]? = some (.stringIter s i)) ∧ Aside (Below w'.heap.size w' wx) ∧ Aside (Lib.NoAny s.data.toList chars.data.toList i))
  case atStart => exact ⟨0, by omega, by omega, HI0, HB0, Lib.NoAny.zero _ _⟩
  case round =>
    clear HB0 HI0
    obtain ⟨i, hig, his, HI, HB, HN⟩ := hrel
    by_cases hi : i < s.size
    · obtain ⟨g, rfl⟩ : ∃ g, gk = g + 1 := ⟨gk - 1, by omega⟩
      have hnx := fun ty => Lib.run_next_any_at (P := Tryd.prog) wr w'.heap.size s i ty HI.out hi
      have HB2 : Aside (Below w'.heap.size w' (wr.iterAt w'.heap.size s (i + (Utf8.decode s i).2))) := below_iterAt HB.out _ (Nat.le_refl _) _ _
      have HI2 : Aside ((wr.iterAt w'.heap.size s (i + (Utf8.decode s i).2)).heap[w'.heap.size]? = some (.stringIter s (i + (Utf8.decode s i).2))) := Lib.iterAt_heap _ _ _ _ _ HI.out
      obtain ⟨W2, hW2⟩ : ∃ W2, wr.iterAt w'.heap.size s (i + (Utf8.decode s i).2) = W2 := ⟨_, rfl⟩
      rw [hW2] at hnx HB2 HI2
      clear hW2
      have hsz : w'.heap.size < W2.heap.size := by
        rcases Nat.lt_or_ge w'.heap.size W2.heap.size with h | h
        · exact h
        · have := HI2.out
          rw [Array.getElem?_eq_none h] at this
          exact absurd this (by simp)
      by_cases hx : 128 ≤ (s.get! i).toNat
      · obtain ⟨d1, d2, d3, d4, d5⟩ := dec_hi s i hi hx
        obtain ⟨c, hc⟩ : ∃ c, (Utf8.decode s i).1 = c := ⟨_, rfl⟩
        obtain ⟨k, hk⟩ : ∃ k, (Utf8.decode s i).2 = k := ⟨_, rfl⟩
        rw [hc] at hnx d3 d4
        rw [hk] at d1 d2 d5 HI2
        clear hc hk hx
        have HN2 : Aside (Lib.NoAny s.data.toList chars.data.toList (i + k)) := NoAny_step _ _ _ _ HN.out (fun j h1 h2 b hb => by
          have hjs : j < s.size := by omega
          rw [get_data s j hjs] at hb
          obtain rfl := Option.some.inj hb
          have hhi := d5 (j - i) (by omega)
          rw [show i + (j - i) = j by omega] at hhi
          rcases hcon : chars.data.toList.contains (s.get! j) with _ | _
          · rfl
          · exfalso
            obtain ⟨q, hq⟩ := List.mem_iff_getElem?.1 (by simpa using hcon : s.get! j ∈ chars.data.toList)
            have := HA.out q _ hq
            omega)
        clear d5 HN
        go_wp2_with (go_at_call 144; refine (indexRune_hi _ _ _ (by omega) (by omega) hcs HA.out).mono ?_; rintro e w3 ⟨rfl, hb3⟩)
        go_roundg g
        case measure => omega
        case rel => exact ⟨i + k, by omega, by omega, (by show w3.heap[_]? = _; rw [hb3.block _ hsz]; exact HI2.out), HB2.out.trans (hb3.mono (by omega)), HN2⟩
      · have h0 : Utf8.decode s i = ((s.get! i).toNat, 1) := by
          unfold Utf8.decode
          simp only [Nat.add_zero]
          rw [if_pos (by omega)]
        rw [h0] at hnx HI2
        obtain ⟨x, hxx⟩ : ∃ x : UInt8, s.get! i = x := ⟨_, rfl⟩
        have Hx : Aside (s.data.toList[i]? = some x) := by rw [← hxx]; exact get_data s i hi
        rw [hxx] at hnx hx
        clear hxx h0
        have hcon := Lib.contains_iff_indexByte chars.data.toList x
        have hback : ((x.toNat : Int)).toNat.toUInt8 = x := by simp
        cases hin : chars.data.toList.contains x
        · rw [hin] at hcon
          have hlt : ¬ ((0 : Int) ≤ Lib.indexByte chars.data.toList x) := of_decide_eq_false hcon.symm
          clear hcon
          go_wp2_with (go_at_call 144; refine (Tryd.strings_IndexRune_ascii _ _ _ (by omega) (by omega)).mono ?_; rintro e w3 ⟨rfl, hw⟩; rw [hw, hback])
          go_roundg g
          case measure => omega
          case rel => exact ⟨i + 1, by omega, by omega, HI2, HB2, HN.out.succ Hx.out hin⟩
        · rw [hin] at hcon
          have hge : (0 : Int) ≤ Lib.indexByte chars.data.toList x := of_decide_eq_true hcon.symm
          clear hcon
          go_wp2_with (go_at_call 144; refine (Tryd.strings_IndexRune_ascii _ _ _ (by omega) (by omega)).mono ?_; rintro e w3 ⟨rfl, hw⟩; rw [hw, hback])
          go_ret
          exact ⟨by rw [Lib.indexAny_hit HN.out Hx.out hin]; rfl, HB2.out⟩
    · obtain rfl : i = s.size := by omega
      have hnx := fun ty => Lib.run_next_end_at (P := Tryd.prog) wr w'.heap.size s s.size ty HI.out (by omega)
      go_wp2
      go_ret
      exact ⟨by rw [Lib.indexAny_none (by rw [← Lib.size_eq]; exact HN.out)]; rfl, HB.out⟩
end IndexAnyG
def strings_IndexAny.f (a0 a1 : ByteArray) : Option Int := if a0.size < 4294967281 ∧ 2 ≤ a1.size ∧ a1.size < 4294967281 ∧ (a1.data.toList.all fun b => decide (b.toNat < 128)) = true then some (Lib.indexAny a0.data.toList a1.data.toList) else none
set_option maxHeartbeats 2000000 in
theorem strings_IndexAny.calls (a0 a1 : ByteArray) (r : Int) (w : World) (hG : Glob w) (h : strings_IndexAny.f a0 a1 = some r) :
    Calls Tryd.prog 123 #[.string a0, .string a1] w fun e w' => e = .returned (.int .i64 r) ∧ Below w.heap.size w w' := by
  unfold strings_IndexAny.f at h
  split at h
  · rename_i hs
    obtain ⟨hs0, hs1, hs2, hs3⟩ := hs
    obtain rfl := Option.some.inj h
    have hac : ∀ (j : Nat) b, a1.data.toList[j]? = some b → b.toNat < 128 := fun j b hb => by
      have := List.all_eq_true.1 hs3 b (List.mem_iff_getElem?.2 ⟨j, hb⟩)
      simpa using this
    clear hs3
    rcases Nat.lt_or_ge 8 a0.size with h8 | h8
    · exact (Tryd.strings_IndexAny_long (fun w => by kernel_rfl) a0 a1 w hs1 h8 hs0 hs2 hac).mono fun e w' hh => ⟨hh.1, by rw [hh.2]; exact ((Below.refl _ _).alloc (Nat.le_refl _) _).alloc (by simp) _⟩
    · exact IndexAnyG.indexAny_short a0 a1 w hs1 h8 hs2 hac
  · exact absurd h (by simp)
end Go.Proofs.YtgdjfcmmpjcaaaaDoor.Q
namespace Go.Proofs.YtgdjfcmmpjcaaaaDoor.Q
open Go.RowKit Go.Proofs.YtgdjfcmmpjcaaaaDoorW.PrintWords Go.Proofs.YtgdjfcmmpjcaaaaDoorW.PrintLast Go.Proofs.YtgdjfcmmpjcaaaaDoorW.Own Go.Proofs.YtgdjfcmmpjcaaaaDoorW.PrintMore
attribute [local go_sem] max2_int min2_int max_two min_two max_three min_three max_four min_four   -- for this text's walks alone
set_option linter.unusedVariables false
set_option linter.unusedSimpArgs false
set_option maxHeartbeats 8000000
set_option maxRecDepth 100000
def strings_Cut.f (a0 a1 : ByteArray) : Option (ByteArray × ByteArray × Bool) := if a0.size < 4294967281 then some (⟨(Lib.cut a0.data.toList a1.data.toList).1.toArray⟩, ⟨(Lib.cut a0.data.toList a1.data.toList).2.1.toArray⟩, (Lib.cut a0.data.toList a1.data.toList).2.2) else none
theorem strings_Cut.calls (a0 a1 : ByteArray) (r1 r2 : ByteArray) (r3 : Bool) (w : World) (hG : Glob w) (h : strings_Cut.f a0 a1 = some (r1, r2, r3)) :
 Calls Tryd.prog 124 #[.string a0, .string a1] w fun e w' => e = .returned (.tuple #[.string r1, .string r2, .bool r3]) ∧ Drawn0 w w' := by
 unfold strings_Cut.f at h
 split at h
 ·rename_i hs
  simp only [Option.some.injEq, Prod.mk.injEq] at h
  obtain ⟨rfl, rfl, rfl⟩ := h
  obtain ⟨m, hm⟩ := hG
  exact (Tryd.strings_Cut a0 a1 m w hs hm).mono fun e w' hh => ⟨hh.1, ⟨hh.2⟩⟩
 ·exact absurd h (by simp)
def strings_Trim.f (a0 a1 : ByteArray) : Option ByteArray := if a1.size = 1 ∧ (a1.data.toList.getD 0 0).toNat < 128 ∧ a0.size ≤ 9223372036854775807 then some ⟨(Lib.trimB a0.data.toList (a1.data.toList.getD 0 0)).toArray⟩ else none
theorem strings_Trim.calls (a0 a1 : ByteArray) (r : ByteArray) (w : World) (hG : Glob w) (h : strings_Trim.f a0 a1 = some r) :
 Calls Tryd.prog 125 #[.string a0, .string a1] w fun e w' => e = .returned (.string r) ∧ Drawn0 w w' := by
 unfold strings_Trim.f at h
 split at h
 ·rename_i hs
  obtain rfl := Option.some.inj h
  obtain ⟨c, rfl⟩ : ∃ c : UInt8, a1 = ⟨#[c]⟩ := by
   rcases a1 with ⟨⟨l⟩⟩
   match l, hs.1 with
   | [c], _ => exact ⟨c, rfl⟩
  refine (Tryd.strings_Trim_one a0 c hs.2.1 w hs.2.2).mono fun e w' hh => ⟨hh.1, ?_⟩
  rcases hh.2 with rfl | rfl
  ·exact Drawn0.refl _
  ·exact (Drawn0.refl w).step 1
 ·exact absurd h (by simp)
def span_bound.f (k : Nat) (a0 : ByteArray) (a1 : Bool) : Option (Bool) := (words_Right.f k a0).bind fun t311 => (if t311 = true then (some true) else (if a0.toList = ([] : List UInt8) then (some (!a1)) else (some false)))
theorem span_bound.mono : ∀ a0 a1 k, LeO (span_bound.f k a0 a1) (span_bound.f (k + 1) a0 a1) := by
 intro a0 a1 k
 unfold span_bound.f
 have m0 := @words_Right.mono
 exact mo
theorem span_bound.calls (k : Nat) (a0 : ByteArray) (a1 : Bool) (r : Bool) (w : World) (hG : Glob w) (h : span_bound.f k a0 a1 = some r) :
 Calls Tryd.prog 151 #[.string a0, .bool a1] w fun e w' => e = .returned (.bool r) ∧ Below w.heap.size w w' := by
 have HG := Aside0.mk hG
 clear hG
 have HB := Aside0.mk (Below.refl w.heap.size w)
 have H : ((words_Right.f k a0).bind fun t311 => (if t311 = true then (some true) else (if a0.toList = ([] : List UInt8) then (some (!a1)) else (some false)))) = some r := h
 clear h
 replace H := bi H
 obtain ⟨t311, A30, H⟩ := H
 try dsimp only at H
 have A3 := Aside0.mk A30
 clear A30
 by_cases c4 : t311 = true
 ·subst c4
  have H1 : (some true) = some r := by rw [if_pos rfl] at H; exact H
  clear H
  have H := H1
  clear H1
  obtain rfl := Option.some.inj H
  go_enter Tryd.func151, Tryd.ntmps151
  go_wp2_with (first | (refine gl (some 6) Tryd.func28 #[.string a0] ?_; (with_reducible refine (words_Right.calls k a0 true _ (gS HG) A3.out).mono ?_); rintro e w5 ⟨rfl, hb⟩; refine ⟨_, rfl, ?_⟩; replace HB := sB hb; (try clear hb)))
  go_ret
  exact ⟨eA, bE⟩
 replace c4 := Bool.eq_false_iff.mpr c4
 subst c4
 have H1 : (if a0.toList = ([] : List UInt8) then (some (!a1)) else (some false)) = some r := by rw [if_neg (show ¬ (false = true) by decide)] at H; exact H
 clear H
 have H := H1
 clear H1
 by_cases c6 : a0.toList = ([] : List UInt8)
 rotate_left
 ·rw [if_neg c6] at H
  obtain ⟨c6b0, c6b1⟩ := eqF c6
  (try (have c6b2 : a0.toList.isEmpty = false := by simpa using c6))
  obtain rfl := Option.some.inj H
  go_enter Tryd.func151, Tryd.ntmps151
  go_wp2_with (first | (refine gl (some 6) Tryd.func28 #[.string a0] ?_; (with_reducible refine (words_Right.calls k a0 false _ (gS HG) A3.out).mono ?_); rintro e w8 ⟨rfl, hb⟩; refine ⟨_, rfl, ?_⟩; replace HB := sB hb; (try clear hb)))
  go_ret
  exact ⟨eA, bE⟩
 rw [if_pos c6] at H
 obtain ⟨c6b0, c6b1⟩ := eqT c6
 (try (have c6b2 : a0.toList.isEmpty = true := by simpa using c6))
 clear c6
 obtain rfl := Option.some.inj H
 go_enter Tryd.func151, Tryd.ntmps151
 go_wp2_with (first | (refine gl (some 6) Tryd.func28 #[.string a0] ?_; (with_reducible refine (words_Right.calls k a0 false _ (gS HG) A3.out).mono ?_); rintro e w7 ⟨rfl, hb⟩; refine ⟨_, rfl, ?_⟩; replace HB := sB hb; (try clear hb)))
 go_ret
 exact ⟨eA, bE⟩
def span_may.j0 : Nat → Bool → ByteArray → ByteArray → Bool → Bool → Option (Bool)
 | 0, _, _, _, _, _ => none
 | k + 1, x17, x342000, x342001, x342002, x342003 => if x17 = true then (some false) else (if x342000.toList = ([] : List UInt8) then (some true) else (if x342001.toList = ([] : List UInt8) then (some true) else ((order_Compare.f k x342000 x342001).bind fun t344 => (if t344 < 0 then (some true) else (if t344 = 0 then (if x342002 = true then (some x342003) else (some false)) else (some false))))))
def span_may.f (k : Nat) (a0_0 : ByteArray) (a0_1 : ByteArray) (a0_2 : Bool) (a0_3 : Bool) : Option (Bool) := (span_bound.f k a0_0 a0_2).bind fun t342 => (if t342 = true then ((span_bound.f k a0_1 a0_3).bind fun t343 => (span_may.j0 k (!t343) a0_0 a0_1 a0_2 a0_3)) else (span_may.j0 k true a0_0 a0_1 a0_2 a0_3))
theorem span_may.mono_l : ∀ k, (∀ y0 y1 y2 y3 y4, LeO (span_may.j0 k y0 y1 y2 y3 y4) (span_may.j0 (k + 1) y0 y1 y2 y3 y4))
 | 0 => fun _ _ _ _ _ r h => by simp [span_may.j0] at h
 | k + 1 => by
  have ih0 := span_may.mono_l k
  ·intro y0 y1 y2 y3 y4
   unfold span_may.j0
   have m0 := @order_Compare.mono
   have m1 := @span_bound.mono
   exact mo
theorem span_may.mono : ∀ a0 a1 a2 a3 k, LeO (span_may.f k a0 a1 a2 a3) (span_may.f (k + 1) a0 a1 a2 a3) := by
 intro a0 a1 a2 a3 k
 have ih0 := span_may.mono_l k
 unfold span_may.f
 have m0 := @order_Compare.mono
 have m1 := @span_bound.mono
 exact mo
theorem span_may.calls (k : Nat) (a0_0 : ByteArray) (a0_1 : ByteArray) (a0_2 : Bool) (a0_3 : Bool) (r : Bool) (w : World) (hG : Glob w) (h : span_may.f k a0_0 a0_1 a0_2 a0_3 = some r) :
 Calls Tryd.prog 126 #[.agg #[.string a0_0, .string a0_1, .bool a0_2, .bool a0_3]] w fun e w' => e = .returned (.bool r) ∧ Below w.heap.size w w' := by
 have hu58 := Tryd.underlying58
 have HG := Aside0.mk hG
 clear hG
 have HB := Aside0.mk (Below.refl w.heap.size w)
 have H : ((span_bound.f k a0_0 a0_2).bind fun t342 => (if t342 = true then ((span_bound.f k a0_1 a0_3).bind fun t343 => (span_may.j0 k (!t343) a0_0 a0_1 a0_2 a0_3)) else (span_may.j0 k true a0_0 a0_1 a0_2 a0_3))) = some r := h
 clear h
 have HC2 := Aside0.mk H
 clear H
 go_enter Tryd.func126, Tryd.ntmps126
 go_upto_region 1 with (first | (refine be 1 #[.string a0_0, .string a0_1, .bool a0_2, .bool a0_3] 58 ?_; intro gb341 hg w3 hbox hb; have BK341 := Aside0.mk (hbox); have GW341 := gW hg; have GE341 := gW hg; replace HB := sB hb; clear hb hbox hg))
 (try simp only [Act.put, List.setIfInBounds_toArray, List.set_cons_zero, List.set_cons_succ])
 go_cut [17] (fun v17 wc => ∃ (kq : Nat) (x17_1 : Bool), v17 = .bool x17_1 ∧ Aside0 (span_may.j0 kq x17_1 a0_0 a0_1 a0_2 a0_3 = some r) ∧ Aside0 (kq ≤ k) ∧ Aside0 (wc.heap[gb341]? = some (.cells #[.string a0_0, .string a0_1, .bool a0_2, .bool a0_3] 58 (0, 0))) ∧ Aside0 (Below w.heap.size w wc))
 case first =>
  have H := HC2.out
  clear HC2
  replace H := bi H
  obtain ⟨t342, A40, H⟩ := H
  try dsimp only at H
  have A4 := Aside0.mk A40
  clear A40
  by_cases c5 : t342 = true
  rotate_left
  ·replace c5 := Bool.eq_false_iff.mpr c5
   subst c5
   have H1 : (span_may.j0 k true a0_0 a0_1 a0_2 a0_3) = some r := by rw [if_neg (show ¬ (false = true) by decide)] at H; exact H
   clear H
   have H := H1
   clear H1
   have H' := Aside0.mk H
   clear H
   obtain ⟨hcz11_0, hcz11_1, hcz11_2, hcz11_3, hfz11_0, hfz11_1, hfz11_2, hfz11_3⟩ := cells4 BK341
   go_wp2_with (first | (refine gl (some 8) Tryd.func151 #[.string a0_0, .bool a0_2] ?_; (with_reducible refine (span_bound.calls k a0_0 a0_2 false _ (gS HG) A4.out).mono ?_); rintro e w12 ⟨rfl, hb⟩; refine ⟨_, rfl, ?_⟩; replace BK341 := kB BK341 hb; replace HB := sB hb; (try clear hb)))
   go_meet
   case rel => exact ⟨_, (true), cA, H', ⟨by first | omega | exact Nat.le_refl _⟩, ⟨bK BK341⟩, ⟨bG⟩⟩
  subst c5
  have H1 : ((span_bound.f k a0_1 a0_3).bind fun t343 => (span_may.j0 k (!t343) a0_0 a0_1 a0_2 a0_3)) = some r := by rw [if_pos rfl] at H; exact H
  clear H
  have H := H1
  clear H1
  replace H := bi H
  obtain ⟨t343, A60, H⟩ := H
  try dsimp only at H
  have A6 := Aside0.mk A60
  clear A60
  have H' := Aside0.mk H
  clear H
  obtain ⟨hcz7_0, hcz7_1, hcz7_2, hcz7_3, hfz7_0, hfz7_1, hfz7_2, hfz7_3⟩ := cells4 BK341
  go_wp2_with (first | (refine gl (some 8) Tryd.func151 #[.string a0_0, .bool a0_2] ?_; (with_reducible refine (span_bound.calls k a0_0 a0_2 true _ (gS HG) A4.out).mono ?_); rintro e w8 ⟨rfl, hb⟩; refine ⟨_, rfl, ?_⟩; replace BK341 := kB BK341 hb; replace HB := sB hb; (try clear hb); have hcz9_0 : w8.cell? ⟨gb341, 0, none⟩ = some (.string a0_0) := (blk_cell BK341.out 0).trans rfl; have hcz9_1 : w8.cell? ⟨gb341, 1, none⟩ = some (.string a0_1) := (blk_cell BK341.out 1).trans rfl; have hcz9_2 : w8.cell? ⟨gb341, 2, none⟩ = some (.bool a0_2) := (blk_cell BK341.out 2).trans rfl; have hcz9_3 : w8.cell? ⟨gb341, 3, none⟩ = some (.bool a0_3) := (blk_cell BK341.out 3).trans rfl; have hfz9_0 := blk_frozen BK341.out 0; have hfz9_1 := blk_frozen BK341.out 1; have hfz9_2 := blk_frozen BK341.out 2; have hfz9_3 := blk_frozen BK341.out 3) | (go_at_call 151; (with_reducible refine (span_bound.calls k a0_1 a0_3 t343 _ (gS HG) A6.out).mono ?_); rintro e w10 ⟨rfl, hb⟩; replace BK341 := kB BK341 hb; replace HB := sB hb; (try clear hb)))
  go_meet
  case rel => exact ⟨_, (!t343), cA, H', ⟨by first | omega | exact Nat.le_refl _⟩, ⟨bK BK341⟩, ⟨bG⟩⟩
 clear HC2
 try clear c1
 try clear p2
 try clear c5
 try clear c12
 try clear hcz11_0
 try clear hcz11_1
 try clear hcz11_2
 try clear hcz11_3
 try clear hcz7_0
 try clear hcz7_1
 try clear hcz7_2
 try clear hcz7_3
 try clear hcz9_0
 try clear hcz9_1
 try clear hcz9_2
 try clear hcz9_3
 try clear hfz11_0
 try clear hfz11_1
 try clear hfz11_2
 try clear hfz11_3
 try clear hfz7_0
 try clear hfz7_1
 try clear hfz7_2
 try clear hfz7_3
 try clear hfz9_0
 try clear hfz9_1
 try clear hfz9_2
 try clear hfz9_3
 obtain ⟨kq, x17_1, rfl, HA, HJ1, BK341, HB⟩ := hcut
 cases kq with
 | zero => exact absurd HA.out (by simp [span_may.j0])
 | succ kj1 =>
  have H := HA.out
  clear HA
  simp only [span_may.j0] at H
  by_cases c13 : x17_1 = true
  ·subst c13
   have H1 : (some false) = some r := by rw [if_pos rfl] at H; exact H
   clear H
   have H := H1
   clear H1
   obtain rfl := Option.some.inj H
   go_wp2
   go_ret
   exact ⟨eA, bG⟩
  replace c13 := Bool.eq_false_iff.mpr c13
  subst c13
  have H1 : (if a0_0.toList = ([] : List UInt8) then (some true) else (if a0_1.toList = ([] : List UInt8) then (some true) else ((order_Compare.f kj1 a0_0 a0_1).bind fun t344 => (if t344 < 0 then (some true) else (if t344 = 0 then (if a0_2 = true then (some a0_3) else (some false)) else (some false)))))) = some r := by rw [if_neg (show ¬ (false = true) by decide)] at H; exact H
  clear H
  have H := H1
  clear H1
  by_cases c14 : a0_0.toList = ([] : List UInt8)
  ·rw [if_pos c14] at H
   obtain ⟨c14b0, c14b1⟩ := eqT c14
   (try (have c14b2 : a0_0.toList.isEmpty = true := by simpa using c14))
   clear c14
   obtain rfl := Option.some.inj H
   obtain ⟨hcz15_0, hcz15_1, hcz15_2, hcz15_3, hfz15_0, hfz15_1, hfz15_2, hfz15_3⟩ := cells4 BK341
   go_wp2
   go_ret
   exact ⟨eA, bG⟩
  rw [if_neg c14] at H
  obtain ⟨c14b0, c14b1⟩ := eqF c14
  (try (have c14b2 : a0_0.toList.isEmpty = false := by simpa using c14))
  by_cases c16 : a0_1.toList = ([] : List UInt8)
  ·rw [if_pos c16] at H
   obtain ⟨c16b0, c16b1⟩ := eqT c16
   (try (have c16b2 : a0_1.toList.isEmpty = true := by simpa using c16))
   clear c16
   obtain rfl := Option.some.inj H
   obtain ⟨hcz17_0, hcz17_1, hcz17_2, hcz17_3, hfz17_0, hfz17_1, hfz17_2, hfz17_3⟩ := cells4 BK341
   go_wp2
   go_ret
   exact ⟨eA, bG⟩
  rw [if_neg c16] at H
  obtain ⟨c16b0, c16b1⟩ := eqF c16
  (try (have c16b2 : a0_1.toList.isEmpty = false := by simpa using c16))
  replace H := bi H
  obtain ⟨t344, A180, H⟩ := H
  try dsimp only at H
  have A18 := Aside0.mk A180
  clear A180
  by_cases c19 : t344 < 0
  ·rw [if_pos c19] at H
   have c19b0 := dT c19
   clear c19
   obtain rfl := Option.some.inj H
   obtain ⟨hcz20_0, hcz20_1, hcz20_2, hcz20_3, hfz20_0, hfz20_1, hfz20_2, hfz20_3⟩ := cells4 BK341
   go_wp2_with (first | (refine gl (some 30) Tryd.func114 #[.string a0_0, .string a0_1] ?_; (with_reducible refine (order_Compare.calls kj1 a0_0 a0_1 t344 _ (gS HG) A18.out).mono ?_); rintro e w21 ⟨rfl, hb⟩; refine ⟨_, rfl, ?_⟩; replace BK341 := kB BK341 hb; replace HB := sB hb; (try clear hb)))
   go_ret
   exact ⟨eA, bG⟩
  rw [if_neg c19] at H
  have c19b0 := dF c19
  clear c19
  by_cases c22 : t344 = 0
  rotate_left
  ·rw [if_neg c22] at H
   obtain ⟨c22b0, c22b1⟩ := eqF c22
   obtain rfl := Option.some.inj H
   obtain ⟨hcz30_0, hcz30_1, hcz30_2, hcz30_3, hfz30_0, hfz30_1, hfz30_2, hfz30_3⟩ := cells4 BK341
   go_wp2_with (first | (refine gl (some 30) Tryd.func114 #[.string a0_0, .string a0_1] ?_; (with_reducible refine (order_Compare.calls kj1 a0_0 a0_1 t344 _ (gS HG) A18.out).mono ?_); rintro e w31 ⟨rfl, hb⟩; refine ⟨_, rfl, ?_⟩; replace BK341 := kB BK341 hb; replace HB := sB hb; (try clear hb)))
   go_ret
   exact ⟨eA, bG⟩
  rw [if_pos c22] at H
  obtain ⟨c22b0, c22b1⟩ := eqT c22
  clear c22
  by_cases c23 : a0_2 = true
  ·subst c23
   have H1 : (some a0_3) = some r := by rw [if_pos rfl] at H; exact H
   clear H
   have H := H1
   clear H1
   obtain rfl := Option.some.inj H
   obtain ⟨hcz24_0, hcz24_1, hcz24_2, hcz24_3, hfz24_0, hfz24_1, hfz24_2, hfz24_3⟩ := cells4 BK341
   go_wp2_with (first | (refine gl (some 30) Tryd.func114 #[.string a0_0, .string a0_1] ?_; (with_reducible refine (order_Compare.calls kj1 a0_0 a0_1 t344 _ (gS HG) A18.out).mono ?_); rintro e w25 ⟨rfl, hb⟩; refine ⟨_, rfl, ?_⟩; replace BK341 := kB BK341 hb; replace HB := sB hb; (try clear hb); have hcz26_0 : w25.cell? ⟨gb341, 0, none⟩ = some (.string a0_0) := (blk_cell BK341.out 0).trans rfl; have hcz26_1 : w25.cell? ⟨gb341, 1, none⟩ = some (.string a0_1) := (blk_cell BK341.out 1).trans rfl; have hcz26_2 : w25.cell? ⟨gb341, 2, none⟩ = some (.bool true) := (blk_cell BK341.out 2).trans rfl; have hcz26_3 : w25.cell? ⟨gb341, 3, none⟩ = some (.bool a0_3) := (blk_cell BK341.out 3).trans rfl; have hfz26_0 := blk_frozen BK341.out 0; have hfz26_1 := blk_frozen BK341.out 1; have hfz26_2 := blk_frozen BK341.out 2; have hfz26_3 := blk_frozen BK341.out 3))
   go_ret
   exact ⟨eA, bG⟩
  replace c23 := Bool.eq_false_iff.mpr c23
  subst c23
  have H1 : (some false) = some r := by rw [if_neg (show ¬ (false = true) by decide)] at H; exact H
  clear H
  have H := H1
  clear H1
  obtain rfl := Option.some.inj H
  obtain ⟨hcz27_0, hcz27_1, hcz27_2, hcz27_3, hfz27_0, hfz27_1, hfz27_2, hfz27_3⟩ := cells4 BK341
  go_wp2_with (first | (refine gl (some 30) Tryd.func114 #[.string a0_0, .string a0_1] ?_; (with_reducible refine (order_Compare.calls kj1 a0_0 a0_1 t344 _ (gS HG) A18.out).mono ?_); rintro e w28 ⟨rfl, hb⟩; refine ⟨_, rfl, ?_⟩; replace BK341 := kB BK341 hb; replace HB := sB hb; (try clear hb); have hcz29_0 : w28.cell? ⟨gb341, 0, none⟩ = some (.string a0_0) := (blk_cell BK341.out 0).trans rfl; have hcz29_1 : w28.cell? ⟨gb341, 1, none⟩ = some (.string a0_1) := (blk_cell BK341.out 1).trans rfl; have hcz29_2 : w28.cell? ⟨gb341, 2, none⟩ = some (.bool false) := (blk_cell BK341.out 2).trans rfl; have hcz29_3 : w28.cell? ⟨gb341, 3, none⟩ = some (.bool a0_3) := (blk_cell BK341.out 3).trans rfl; have hfz29_0 := blk_frozen BK341.out 0; have hfz29_1 := blk_frozen BK341.out 1; have hfz29_2 := blk_frozen BK341.out 2; have hfz29_3 := blk_frozen BK341.out 3))
  go_ret
  exact ⟨eA, bG⟩
def stringslite_HasPrefix.f (a0 : ByteArray) (a1 : ByteArray) : Option (Bool) := if (a0.size : Int) ≥ (a1.size : Int) then (if 0 ≤ (a1.size : Int) then (if (a1.size : Int) ≤ (a0.size : Int) then (some ((a0.extract 0 ((a1.size : Int) : Int).toNat).toList == a1.toList)) else (none)) else (none)) else (some false)
theorem stringslite_HasPrefix.calls (a0 : ByteArray) (a1 : ByteArray) (r : Bool) (w : World) (hG : Glob w) (h : stringslite_HasPrefix.f a0 a1 = some r) :
 Calls Tryd.prog 142 #[.string a0, .string a1] w fun e w' => e = .returned (.bool r) ∧ Drawn0 w w' := by
 have HG := Aside0.mk hG
 clear hG
 have H : (if (a0.size : Int) ≥ (a1.size : Int) then (if 0 ≤ (a1.size : Int) then (if (a1.size : Int) ≤ (a0.size : Int) then (some ((a0.extract 0 ((a1.size : Int) : Int).toNat).toList == a1.toList)) else (none)) else (none)) else (some false)) = some r := h
 clear h
 by_cases c3 : (a0.size : Int) ≥ (a1.size : Int)
 rotate_left
 ·rw [if_neg c3] at H
  have c3b0 := dF c3
  have c3b1 : decide (a1.size ≤ a0.size) = false := decide_eq_false (fun h => c3 (Int.ofNat_le.mpr h))
  clear c3
  obtain rfl := Option.some.inj H
  go_enter Tryd.func142, Tryd.ntmps142
  go_wp2
  go_ret
  exact ⟨by first | rfl | (simp; done) | (simp [*]; done), by repeat (first | exact Drawn0.refl _ | apply Drawn0.step)⟩
 rw [if_pos c3] at H
 have c3b0 := dT c3
 have c3b1 : decide (a1.size ≤ a0.size) = true := decide_eq_true (Int.ofNat_le.mp c3)
 clear c3
 by_cases c4 : 0 ≤ (a1.size : Int)
 rotate_left
 ·rw [if_neg c4] at H
  exact absurd H (by simp)
 rw [if_pos c4] at H
 have c4b0 := eq_true c4
 have c4b1 := dT c4
 clear c4
 by_cases c5 : (a1.size : Int) ≤ (a0.size : Int)
 rotate_left
 ·rw [if_neg c5] at H
  exact absurd H (by simp)
 rw [if_pos c5] at H
 have c5b0 := eq_true c5
 have c5b1 := dT c5
 clear c5
 obtain rfl := Option.some.inj H
 go_enter Tryd.func142, Tryd.ntmps142
 go_wp2
 go_ret
 exact ⟨by first | rfl | (simp; done) | (simp [*]; done), by repeat (first | exact Drawn0.refl _ | apply Drawn0.step)⟩
def strings_HasPrefix.f (a0 : ByteArray) (a1 : ByteArray) : Option (Bool) := (stringslite_HasPrefix.f a0 a1).bind fun t308 => (some t308)
theorem strings_HasPrefix.calls (a0 : ByteArray) (a1 : ByteArray) (r : Bool) (w : World) (hG : Glob w) (h : strings_HasPrefix.f a0 a1 = some r) :
 Calls Tryd.prog 118 #[.string a0, .string a1] w fun e w' => e = .returned (.bool r) ∧ Drawn0 w w' := by
 have HG := Aside0.mk hG
 clear hG
 have H : ((stringslite_HasPrefix.f a0 a1).bind fun t308 => (some t308)) = some r := h
 clear h
 replace H := bi H
 obtain ⟨t308, A30, H⟩ := H
 try dsimp only at H
 have A3 := Aside0.mk A30
 clear A30
 obtain rfl := Option.some.inj H
 go_enter Tryd.func118, Tryd.ntmps118
 go_wp2_with (first | (refine gl (some 7) Tryd.func142 #[.string a0, .string a1] ?_; (with_reducible refine (stringslite_HasPrefix.calls a0 a1 t308 _ ?side1 A3.out).mono ?_); (case side1 => exact Glob.drawn HG.out (by repeat (first | exact Drawn0.refl _ | apply Drawn0.step))); rintro e w' ⟨rfl, ⟨nd, rfl⟩⟩; refine ⟨_, rfl, ?_⟩))
 go_ret
 exact ⟨by first | rfl | (simp; done) | (simp [*]; done), by repeat (first | exact Drawn0.refl _ | apply Drawn0.step)⟩
def span_Is.f (a0 : ByteArray) : Option (Bool) := (strings_HasPrefix.f a0 (⟨#[91]⟩ : ByteArray)).bind fun t309 => (if t309 = true then (some true) else ((strings_HasPrefix.f a0 (⟨#[40]⟩ : ByteArray)).bind fun t310 => (some t310)))
theorem span_Is.calls (a0 : ByteArray) (r : Bool) (w : World) (hG : Glob w) (h : span_Is.f a0 = some r) :
 Calls Tryd.prog 86 #[.string a0] w fun e w' => e = .returned (.bool r) ∧ Drawn0 w w' := by
 have HG := Aside0.mk hG
 clear hG
 have H : ((strings_HasPrefix.f a0 (⟨#[91]⟩ : ByteArray)).bind fun t309 => (if t309 = true then (some true) else ((strings_HasPrefix.f a0 (⟨#[40]⟩ : ByteArray)).bind fun t310 => (some t310)))) = some r := h
 clear h
 replace H := bi H
 obtain ⟨t309, A20, H⟩ := H
 try dsimp only at H
 have A2 := Aside0.mk A20
 clear A20
 by_cases c3 : t309 = true
 ·subst c3
  have H1 : (some true) = some r := by rw [if_pos rfl] at H; exact H
  clear H
  have H := H1
  clear H1
  obtain rfl := Option.some.inj H
  go_enter Tryd.func86, Tryd.ntmps86
  go_wp2_with (first | (refine gl (some 4) Tryd.func118 #[.string a0, .string (⟨#[91]⟩ : ByteArray)] ?_; (with_reducible refine (strings_HasPrefix.calls a0 (⟨#[91]⟩ : ByteArray) true _ ?side1 A2.out).mono ?_); (case side1 => exact Glob.drawn HG.out (by repeat (first | exact Drawn0.refl _ | apply Drawn0.step))); rintro e w' ⟨rfl, ⟨nd, rfl⟩⟩; refine ⟨_, rfl, ?_⟩))
  go_ret
  exact ⟨by first | rfl | (simp; done) | (simp [*]; done), by repeat (first | exact Drawn0.refl _ | apply Drawn0.step)⟩
 replace c3 := Bool.eq_false_iff.mpr c3
 subst c3
 have H1 : ((strings_HasPrefix.f a0 (⟨#[40]⟩ : ByteArray)).bind fun t310 => (some t310)) = some r := by rw [if_neg (show ¬ (false = true) by decide)] at H; exact H
 clear H
 have H := H1
 clear H1
 replace H := bi H
 obtain ⟨t310, A40, H⟩ := H
 try dsimp only at H
 have A4 := Aside0.mk A40
 clear A40
 obtain rfl := Option.some.inj H
 go_enter Tryd.func86, Tryd.ntmps86
 go_wp2_with (first | (refine gl (some 4) Tryd.func118 #[.string a0, .string (⟨#[91]⟩ : ByteArray)] ?_; (with_reducible refine (strings_HasPrefix.calls a0 (⟨#[91]⟩ : ByteArray) false _ ?side1 A2.out).mono ?_); (case side1 => exact Glob.drawn HG.out (by repeat (first | exact Drawn0.refl _ | apply Drawn0.step))); rintro e w' ⟨rfl, ⟨nd, rfl⟩⟩; refine ⟨_, rfl, ?_⟩) | (go_at_call 118; (with_reducible refine (strings_HasPrefix.calls a0 (⟨#[40]⟩ : ByteArray) t310 _ ?side1 A4.out).mono ?_); (case side1 => exact Glob.drawn HG.out (by repeat (first | exact Drawn0.refl _ | apply Drawn0.step))); rintro e w' ⟨rfl, ⟨nd, rfl⟩⟩))
 go_ret
 exact ⟨by first | rfl | (simp; done) | (simp [*]; done), by repeat (first | exact Drawn0.refl _ | apply Drawn0.step)⟩
def span_one.j0 : Nat → ByteArray → Int → ByteArray → ByteArray → Bool → ByteArray → ByteArray → Bool → Bool → Option (ByteArray × ByteArray × Bool × Bool × ByteArray × Bool)
 | 0, _, _, _, _, _, _, _, _, _ => none
 | k + 1, x0, x5, x7, x8, x9, x349000, x349001, x349002, x349003 => (strings_Trim.f x7 (⟨#[32]⟩ : ByteArray)).bind fun t352 => ((strings_Trim.f x8 (⟨#[32]⟩ : ByteArray)).bind fun t353 => (if x9 = true then (if 0 ≤ (wrap64 (x5 + 1)) then (if (wrap64 (x5 + 1)) ≤ (x0.size : Int) then ((span_may.f k t352 t353 x349002 x349003).bind fun t354 => (some (t352, t353, x349002, x349003, x0.extract ((wrap64 (x5 + 1)) : Int).toNat x0.size, t354))) else (none)) else (none)) else (if x349002 = true then (if x349003 = true then (if 0 ≤ (wrap64 (x5 + 1)) then (if (wrap64 (x5 + 1)) ≤ (x0.size : Int) then ((span_may.f k t352 t353 x349002 x349003).bind fun t355 => (some (t352, t353, x349002, x349003, x0.extract ((wrap64 (x5 + 1)) : Int).toNat x0.size, t355))) else (none)) else (none)) else (some ((⟨#[]⟩ : ByteArray), (⟨#[]⟩ : ByteArray), false, false, (⟨#[]⟩ : ByteArray), false))) else (some ((⟨#[]⟩ : ByteArray), (⟨#[]⟩ : ByteArray), false, false, (⟨#[]⟩ : ByteArray), false)))))
def span_one.f (k : Nat) (a0 : ByteArray) : Option (ByteArray × ByteArray × Bool × Bool × ByteArray × Bool) := (span_Is.f a0).bind fun t346 => (if t346 = true then ((strings_IndexAny.f a0 (⟨#[93, 41]⟩ : ByteArray)).bind fun t347 => (if t347 < 0 then (some ((⟨#[]⟩ : ByteArray), (⟨#[]⟩ : ByteArray), false, false, (⟨#[]⟩ : ByteArray), false)) else (if 0 < (a0.size : Int) then (if 0 ≤ t347 then (if t347 < (a0.size : Int) then (if 1 ≤ t347 then (if t347 ≤ (a0.size : Int) then ((strings_Cut.f (a0.extract 1 (t347 : Int).toNat) (⟨#[44]⟩ : ByteArray)).bind fun bt349 => (if bt349.2.2 = true then (span_one.j0 k a0 t347 bt349.1 bt349.2.1 bt349.2.2 (⟨#[]⟩ : ByteArray) (⟨#[]⟩ : ByteArray) ((bt a0 0) == 91) ((bt a0 t347) == 93)) else (span_one.j0 k a0 t347 bt349.1 bt349.1 bt349.2.2 (⟨#[]⟩ : ByteArray) (⟨#[]⟩ : ByteArray) ((bt a0 0) == 91) ((bt a0 t347) == 93)))) else (none)) else (none)) else (none)) else (none)) else (none)))) else (some ((⟨#[]⟩ : ByteArray), (⟨#[]⟩ : ByteArray), false, false, (⟨#[]⟩ : ByteArray), false)))
theorem span_one.mono_l : ∀ k, (∀ y0 y1 y2 y3 y4 y5 y6 y7 y8, LeO (span_one.j0 k y0 y1 y2 y3 y4 y5 y6 y7 y8) (span_one.j0 (k + 1) y0 y1 y2 y3 y4 y5 y6 y7 y8))
 | 0 => fun _ _ _ _ _ _ _ _ _ r h => by simp [span_one.j0] at h
 | k + 1 => by
  have ih0 := span_one.mono_l k
  ·intro y0 y1 y2 y3 y4 y5 y6 y7 y8
   unfold span_one.j0
   have m0 := @span_may.mono
   exact mo
theorem span_one.mono : ∀ a0 k, LeO (span_one.f k a0) (span_one.f (k + 1) a0) := by
 intro a0 k
 have ih0 := span_one.mono_l k
 unfold span_one.f
 have m0 := @span_may.mono
 exact mo
def span_one.T6 : Bool × List (List Nat × List Nat) := (true, [([], []), ([0], [0]), ([1], [1]), ([], []), ([], []), ([3, 4], [3, 4]), ([5], [5]), ([2, 6], [2, 6]), ([], []), ([8, 7, 0, 1, 2, 3, 4, 5, 6, 7, 8], [7, 8])])
def span_one.B6 : List Nat := [0, 1, 3, 0, 0, 24, 56, 127, 0, 511]
theorem span_one.tab6 : rtab .any (opsOf Tryd.f92 6) = span_one.T6 := by kernel_rfl
theorem span_one.bits6 : waitsOk span_one.T6.2 span_one.B6 = true := by kernel_rfl
def span_one.T13 : Bool × List (List Nat × List Nat) := (true, [([], []), ([], []), ([], []), ([2], [2]), ([1, 3], [1, 3]), ([], []), ([5], [5]), ([0, 6, 0], [0]), ([4, 7, 0, 1, 2, 3, 4, 7], [4]), ([6, 8, 0, 1, 2, 3, 4, 5, 6, 7, 8], [6])])
def span_one.B13 : List Nat := [0, 0, 0, 4, 14, 0, 32, 97, 255, 511]
theorem span_one.tab13 : rtab .any (opsOf Tryd.f92 13) = span_one.T13 := by kernel_rfl
theorem span_one.bits13 : waitsOk span_one.T13.2 span_one.B13 = true := by kernel_rfl
theorem span_one.calls (k : Nat) (a0 : ByteArray) (r1 : ByteArray) (r2 : ByteArray) (r3 : Bool) (r4 : Bool) (r5 : ByteArray) (r6 : Bool) (w : World) (hG : Glob w) (h : span_one.f k a0 = some (r1, r2, r3, r4, r5, r6)) :
 Calls Tryd.prog 92 #[.string a0] w fun e w' => e = .returned (.tuple #[.agg #[.string r1, .string r2, .bool r3, .bool r4], .string r5, .bool r6]) ∧ Below w.heap.size w w' := by
 have hu58 := Tryd.underlying58
 have HG := Aside0.mk hG
 clear hG
 have HB := Aside0.mk (Below.refl w.heap.size w)
 have H : ((span_Is.f a0).bind fun t346 => (if t346 = true then ((strings_IndexAny.f a0 (⟨#[93, 41]⟩ : ByteArray)).bind fun t347 => (if t347 < 0 then (some ((⟨#[]⟩ : ByteArray), (⟨#[]⟩ : ByteArray), false, false, (⟨#[]⟩ : ByteArray), false)) else (if 0 < (a0.size : Int) then (if 0 ≤ t347 then (if t347 < (a0.size : Int) then (if 1 ≤ t347 then (if t347 ≤ (a0.size : Int) then ((strings_Cut.f (a0.extract 1 (t347 : Int).toNat) (⟨#[44]⟩ : ByteArray)).bind fun bt349 => (if bt349.2.2 = true then (span_one.j0 k a0 t347 bt349.1 bt349.2.1 bt349.2.2 (⟨#[]⟩ : ByteArray) (⟨#[]⟩ : ByteArray) ((bt a0 0) == 91) ((bt a0 t347) == 93)) else (span_one.j0 k a0 t347 bt349.1 bt349.1 bt349.2.2 (⟨#[]⟩ : ByteArray) (⟨#[]⟩ : ByteArray) ((bt a0 0) == 91) ((bt a0 t347) == 93)))) else (none)) else (none)) else (none)) else (none)) else (none)))) else (some ((⟨#[]⟩ : ByteArray), (⟨#[]⟩ : ByteArray), false, false, (⟨#[]⟩ : ByteArray), false)))) = some (r1, r2, r3, r4, r5, r6) := h
 clear h
 replace H := bi H
 obtain ⟨t346, A20, H⟩ := H
 try dsimp only at H
 have A2 := Aside0.mk A20
 clear A20
 by_cases c3 : t346 = true
 rotate_left
 ·replace c3 := Bool.eq_false_iff.mpr c3
  subst c3
  have H1 : (some ((⟨#[]⟩ : ByteArray), (⟨#[]⟩ : ByteArray), false, false, (⟨#[]⟩ : ByteArray), false)) = some (r1, r2, r3, r4, r5, r6) := by rw [if_neg (show ¬ (false = true) by decide)] at H; exact H
  clear H
  have H := H1
  clear H1
  simp only [Option.some.injEq, Prod.mk.injEq] at H
  obtain ⟨rfl, rfl, rfl, rfl, rfl, rfl⟩ := H
  go_enter Tryd.func92, Tryd.ntmps92
  go_wp2_with (first | (refine be 2 #[.string (⟨#[]⟩ : ByteArray), .string (⟨#[]⟩ : ByteArray), .bool false, .bool false] 58 ?_; intro gb345 hg w64 hbox hb; have BK345 := Aside0.mk (hbox); have GW345 := gW hg; have GE345 := gW hg; replace HB := sB hb; clear hb hbox hg) | ((with_reducible refine gate_callee (f := 86) rfl ?_); refine goesL_ (some 11) rfl rfl Tryd.func86 (by kernel_rfl) rfl #[.string a0] rfl (by (try simp only [List.map_toArray, List.map_cons, List.map_nil]); first | done | rfl | (simp only [List.length_drop, List.length_take]; rfl) | (rw [show ((bt a0 t347) == 93) = true by assumption]; rfl) | (rw [show ((bt a0 t347) == 93) = true by assumption, show ((bt a0 0) == 91) = true by assumption]; rfl)) ?_; (with_reducible refine (span_Is.calls a0 false _ (gS HG) A2.out).mono ?_); rintro e w' ⟨rfl, ⟨nd, rfl⟩⟩; refine ⟨_, rfl, ?_⟩; (try ((try simp only [World.drewN_drewN]); (first | generalize hq_ : World.drewN w64 _ = w64 | (rw [drewN_self w64]; generalize hq_ : World.drewN w64 _ = w64)); have n0_ : Aside0 (w64.heap[gb345]? = some (.cells #[.string (⟨#[]⟩ : ByteArray), .string (⟨#[]⟩ : ByteArray), .bool false, .bool false] 58 (0, 0))) := ⟨by rw [← hq_]; exact (bK BK345)⟩; have n1_ : Aside0 (Below w.heap.size w w64) := ⟨by rw [← hq_]; exact bG⟩; clear BK345 HB hq_; have BK345 := n0_; have HB := n1_; clear n0_ n1_)); have hcz65_0 : w64.cell? ⟨gb345, 0, none⟩ = some (.string (⟨#[]⟩ : ByteArray)) := (blk_cell BK345.out 0).trans rfl; have hcz65_1 : w64.cell? ⟨gb345, 1, none⟩ = some (.string (⟨#[]⟩ : ByteArray)) := (blk_cell BK345.out 1).trans rfl; have hcz65_2 : w64.cell? ⟨gb345, 2, none⟩ = some (.bool false) := (blk_cell BK345.out 2).trans rfl; have hcz65_3 : w64.cell? ⟨gb345, 3, none⟩ = some (.bool false) := (blk_cell BK345.out 3).trans rfl; have hfz65_0 := blk_frozen BK345.out 0; have hfz65_1 := blk_frozen BK345.out 1; have hfz65_2 := blk_frozen BK345.out 2; have hfz65_3 := blk_frozen BK345.out 3))
  refine bodyPost_ret (results_ctt rfl _ _ gb345 58 #[.string (⟨#[]⟩ : ByteArray), .string (⟨#[]⟩ : ByteArray), .bool false, .bool false] (0, 0) _ rfl (bP BK345) Tryd.underlying58 rfl (by kernel_rfl)) rfl ?_
  exact ⟨eA, bG⟩
 subst c3
 have H1 : ((strings_IndexAny.f a0 (⟨#[93, 41]⟩ : ByteArray)).bind fun t347 => (if t347 < 0 then (some ((⟨#[]⟩ : ByteArray), (⟨#[]⟩ : ByteArray), false, false, (⟨#[]⟩ : ByteArray), false)) else (if 0 < (a0.size : Int) then (if 0 ≤ t347 then (if t347 < (a0.size : Int) then (if 1 ≤ t347 then (if t347 ≤ (a0.size : Int) then ((strings_Cut.f (a0.extract 1 (t347 : Int).toNat) (⟨#[44]⟩ : ByteArray)).bind fun bt349 => (if bt349.2.2 = true then (span_one.j0 k a0 t347 bt349.1 bt349.2.1 bt349.2.2 (⟨#[]⟩ : ByteArray) (⟨#[]⟩ : ByteArray) ((bt a0 0) == 91) ((bt a0 t347) == 93)) else (span_one.j0 k a0 t347 bt349.1 bt349.1 bt349.2.2 (⟨#[]⟩ : ByteArray) (⟨#[]⟩ : ByteArray) ((bt a0 0) == 91) ((bt a0 t347) == 93)))) else (none)) else (none)) else (none)) else (none)) else (none)))) = some (r1, r2, r3, r4, r5, r6) := by rw [if_pos rfl] at H; exact H
 clear H
 have H := H1
 clear H1
 replace H := bi H
 obtain ⟨t347, A40, H⟩ := H
 try dsimp only at H
 have A4 := Aside0.mk A40
 clear A40
 by_cases c5 : t347 < 0
 ·rw [if_pos c5] at H
  have c5b0 := dT c5
  clear c5
  simp only [Option.some.injEq, Prod.mk.injEq] at H
  obtain ⟨rfl, rfl, rfl, rfl, rfl, rfl⟩ := H
  go_enter Tryd.func92, Tryd.ntmps92
  go_wp2_with (first | (refine be 2 #[.string (⟨#[]⟩ : ByteArray), .string (⟨#[]⟩ : ByteArray), .bool false, .bool false] 58 ?_; intro gb345 hg w6 hbox hb; have BK345 := Aside0.mk (hbox); have GW345 := gW hg; have GE345 := gW hg; replace HB := sB hb; clear hb hbox hg) | ((with_reducible refine gate_callee (f := 86) rfl ?_); refine goesL_ (some 11) rfl rfl Tryd.func86 (by kernel_rfl) rfl #[.string a0] rfl (by (try simp only [List.map_toArray, List.map_cons, List.map_nil]); first | done | rfl | (simp only [List.length_drop, List.length_take]; rfl) | (rw [show ((bt a0 t347) == 93) = true by assumption]; rfl) | (rw [show ((bt a0 t347) == 93) = true by assumption, show ((bt a0 0) == 91) = true by assumption]; rfl)) ?_; (with_reducible refine (span_Is.calls a0 true _ (gS HG) A2.out).mono ?_); rintro e w' ⟨rfl, ⟨nd, rfl⟩⟩; refine ⟨_, rfl, ?_⟩; (try ((try simp only [World.drewN_drewN]); (first | generalize hq_ : World.drewN w6 _ = w6 | (rw [drewN_self w6]; generalize hq_ : World.drewN w6 _ = w6)); have n0_ : Aside0 (w6.heap[gb345]? = some (.cells #[.string (⟨#[]⟩ : ByteArray), .string (⟨#[]⟩ : ByteArray), .bool false, .bool false] 58 (0, 0))) := ⟨by rw [← hq_]; exact (bK BK345)⟩; have n1_ : Aside0 (Below w.heap.size w w6) := ⟨by rw [← hq_]; exact bG⟩; clear BK345 HB hq_; have BK345 := n0_; have HB := n1_; clear n0_ n1_))) | ((with_reducible refine gate_callee (f := 123) rfl ?_); refine goesL_ (some 15) rfl rfl Tryd.func123 (by kernel_rfl) rfl #[.string a0, .string (⟨#[93, 41]⟩ : ByteArray)] rfl (by (try simp only [List.map_toArray, List.map_cons, List.map_nil]); first | done | rfl | (simp only [List.length_drop, List.length_take]; rfl) | (rw [show ((bt a0 t347) == 93) = true by assumption]; rfl) | (rw [show ((bt a0 t347) == 93) = true by assumption, show ((bt a0 0) == 91) = true by assumption]; rfl)) ?_; (with_reducible refine (strings_IndexAny.calls a0 (⟨#[93, 41]⟩ : ByteArray) t347 _ (gS HG) A4.out).mono ?_); rintro e w7 ⟨rfl, hb⟩; refine ⟨_, rfl, ?_⟩; replace BK345 := kB BK345 hb; replace HB := sB hb; (try clear hb); have hcz8_0 : w7.cell? ⟨gb345, 0, none⟩ = some (.string (⟨#[]⟩ : ByteArray)) := (blk_cell BK345.out 0).trans rfl; have hcz8_1 : w7.cell? ⟨gb345, 1, none⟩ = some (.string (⟨#[]⟩ : ByteArray)) := (blk_cell BK345.out 1).trans rfl; have hcz8_2 : w7.cell? ⟨gb345, 2, none⟩ = some (.bool false) := (blk_cell BK345.out 2).trans rfl; have hcz8_3 : w7.cell? ⟨gb345, 3, none⟩ = some (.bool false) := (blk_cell BK345.out 3).trans rfl; have hfz8_0 := blk_frozen BK345.out 0; have hfz8_1 := blk_frozen BK345.out 1; have hfz8_2 := blk_frozen BK345.out 2; have hfz8_3 := blk_frozen BK345.out 3))
  refine bodyPost_ret (results_ctt rfl _ _ gb345 58 #[.string (⟨#[]⟩ : ByteArray), .string (⟨#[]⟩ : ByteArray), .bool false, .bool false] (0, 0) _ rfl (bP BK345) Tryd.underlying58 rfl (by kernel_rfl)) rfl ?_
  exact ⟨eA, bG⟩
 rw [if_neg c5] at H
 have c5b0 := dF c5
 clear c5
 by_cases c9 : 0 < (a0.size : Int)
 rotate_left
 ·rw [if_neg c9] at H
  exact absurd H (by simp)
 rw [if_pos c9] at H
 have c9b0 := dT c9
 have c9b1 : decide (0 < a0.size) = true := decide_eq_true (by omega)
 clear c9
 by_cases c11 : 0 ≤ t347
 rotate_left
 ·rw [if_neg c11] at H
  exact absurd H (by simp)
 rw [if_pos c11] at H
 have c11b0 := dT c11
 clear c11
 by_cases c12 : t347 < (a0.size : Int)
 rotate_left
 ·rw [if_neg c12] at H
  exact absurd H (by simp)
 rw [if_pos c12] at H
 have c12b0 := dT c12
 clear c12
 by_cases c14 : 1 ≤ t347
 rotate_left
 ·rw [if_neg c14] at H
  exact absurd H (by simp)
 rw [if_pos c14] at H
 have c14b0 := eq_true c14
 have c14b1 := dT c14
 clear c14
 by_cases c15 : t347 ≤ (a0.size : Int)
 rotate_left
 ·rw [if_neg c15] at H
  exact absurd H (by simp)
 rw [if_pos c15] at H
 have c15b0 := eq_true c15
 have c15b1 := dT c15
 clear c15
 replace H := bi H
 obtain ⟨⟨t349, t350, t351⟩, A160, H⟩ := H
 try dsimp only at H
 have A16 := Aside0.mk A160
 clear A160
 have HC17 := Aside0.mk H
 clear H
 go_enter Tryd.func92, Tryd.ntmps92
 try go_wp2_with (first | (refine be 2 #[.string (⟨#[]⟩ : ByteArray), .string (⟨#[]⟩ : ByteArray), .bool false, .bool false] 58 ?_; intro gb345 hg w18 hbox hb; have BK345 := Aside0.mk (hbox); have GW345 := gW hg; have GE345 := gW hg; replace HB := sB hb; clear hb hbox hg) | ((with_reducible refine gate_callee (f := 86) rfl ?_); refine goesL_ (some 11) rfl rfl Tryd.func86 (by kernel_rfl) rfl #[.string a0] rfl (by (try simp only [List.map_toArray, List.map_cons, List.map_nil]); first | done | rfl | (simp only [List.length_drop, List.length_take]; rfl) | (rw [show ((bt a0 t347) == 93) = true by assumption]; rfl) | (rw [show ((bt a0 t347) == 93) = true by assumption, show ((bt a0 0) == 91) = true by assumption]; rfl)) ?_; (with_reducible refine (span_Is.calls a0 true _ (gS HG) A2.out).mono ?_); rintro e w' ⟨rfl, ⟨nd, rfl⟩⟩; refine ⟨_, rfl, ?_⟩; (try ((try simp only [World.drewN_drewN]); (first | generalize hq_ : World.drewN w18 _ = w18 | (rw [drewN_self w18]; generalize hq_ : World.drewN w18 _ = w18)); have n0_ : Aside0 (w18.heap[gb345]? = some (.cells #[.string (⟨#[]⟩ : ByteArray), .string (⟨#[]⟩ : ByteArray), .bool false, .bool false] 58 (0, 0))) := ⟨by rw [← hq_]; exact (bK BK345)⟩; have n1_ : Aside0 (Below w.heap.size w w18) := ⟨by rw [← hq_]; exact bG⟩; clear BK345 HB hq_; have BK345 := n0_; have HB := n1_; clear n0_ n1_))) | ((with_reducible refine gate_callee (f := 123) rfl ?_); refine goesL_ (some 15) rfl rfl Tryd.func123 (by kernel_rfl) rfl #[.string a0, .string (⟨#[93, 41]⟩ : ByteArray)] rfl (by (try simp only [List.map_toArray, List.map_cons, List.map_nil]); first | done | rfl | (simp only [List.length_drop, List.length_take]; rfl) | (rw [show ((bt a0 t347) == 93) = true by assumption]; rfl) | (rw [show ((bt a0 t347) == 93) = true by assumption, show ((bt a0 0) == 91) = true by assumption]; rfl)) ?_; (with_reducible refine (strings_IndexAny.calls a0 (⟨#[93, 41]⟩ : ByteArray) t347 _ (gS HG) A4.out).mono ?_); rintro e w19 ⟨rfl, hb⟩; refine ⟨_, rfl, ?_⟩; replace BK345 := kB BK345 hb; replace HB := sB hb; (try clear hb)))
 replace BK345 := Aside0.mk (blk_drew BK345.out)
 replace HB := Aside0.mk (below_drew1 HB.out)
 have p10 : 0 ≤ (0 : Int) := (by omega)
 have q10 : 0 < a0.size := (by have : (0 : Int) < (a0.size : Int) := dA; omega)
 have hx10 : ∀ h : 0 < a0.size, ((a0[0]'h).toNat : Int) = bt a0 0 := bt_at a0 0
 clear p10
 have qi10 : (0 < (a0.size : Int)) = True := eq_true (dA)
 replace q10 := eq_true q10
 have p13 : 0 ≤ (t347 : Int) := dA
 have q13 : t347 < (a0.size : Int) := dA
 have hx13 := bt_at a0 t347
 replace p13 := eq_true p13
 replace q13 := eq_true q13
 refine start_ (n := 10) (S := fun w' => True) (ds := []) #[false, false, false, false, false, false, false, false, false, false] (by kernel_rfl) rfl rfl trivial (fun hHeld => ?_); refine with_tabW span_one.tab6 span_one.bits6 (fun HT_ HW_ => ?_)
 generalize w19.drew = w20 at BK345 HB hHeld ⊢
 refine pz 0 (some 19) HT_ ?_
 refine pz 3 (some 22) HT_ ?_
 refine pz 4 (some 23) HT_ ?_
 refine tk 1 (some 20) HT_ HW_ hHeld ?_
 refine pz 2 (some 21) HT_ ?_
 refine tk 5 (some 24) HT_ HW_ hHeld ?_
 refine pz 6 (some 25) HT_ ?_
 refine pz 7 (some 26) HT_ ?_
 refine on 8 (some 6) HT_ (fun K hK => ?_)
 refine bs 6 #[.string (⟨#[]⟩ : ByteArray), .string (⟨#[]⟩ : ByteArray), .bool false, .bool false] 58 ?_
 intro gb348 hg w21 hbox hb
 have BK348 := Aside0.mk (hbox)
 have GW348 := gW hg
 have GE348 := gW hg
 replace HB := sB hb
 have NB345_348 := nL BK345 hg
 have NB348_345 := nG BK345 hg
 replace BK345 := kB BK345 hb
 clear hb hbox hg
 refine hK.out _ _ trivial (fun hHeld => ?_)
 clear hK K
 refine nz (some 6) ?_
 refine on 9 (none) HT_ (fun K hK => ?_)
 have hs22 : w21.cell? ⟨gb348, 0, none⟩ = some (.string (⟨#[]⟩ : ByteArray)) := (blk_cell BK348.out 0).trans rfl
 have hfs22 := blk_frozen BK348.out 0
 have hns22_0 := NB345_348.out
 have hms22_0 := NB348_345.out
 have hs23 : w21.cell? ⟨gb348, 1, none⟩ = some (.string (⟨#[]⟩ : ByteArray)) := (blk_cell BK348.out 1).trans rfl
 have hfs23 := blk_frozen BK348.out 1
 have hns23_0 := NB345_348.out
 have hms23_0 := NB348_345.out
 have hs24 : w21.cell? ⟨gb348, 2, none⟩ = some (.bool false) := (blk_cell BK348.out 2).trans rfl
 have hfs24 := blk_frozen BK348.out 2
 have hns24_0 := NB345_348.out
 have hms24_0 := NB348_345.out
 have hs25 : w21.cell? ⟨gb348, 3, none⟩ = some (.bool false) := (blk_cell BK348.out 3).trans rfl
 have hfs25 := blk_frozen BK348.out 3
 have hns25_0 := NB345_348.out
 have hms25_0 := NB348_345.out
 refine skip_ (w1 := ?_) (by rfl) rfl ?_ ?_
 rotate_left
 ·go_simp
  rfl
 refine hK.out _ _ trivial (fun hHeld => ?_)
 clear hK K
 refine done_ (done_of HT_.out (by kernel_rfl)) ?_
 go_upto_if 36 with (first | ((with_reducible refine gate_callee (f := 124) rfl ?_); refine goesL_ (some 31) rfl rfl Tryd.func124 (by kernel_rfl) rfl #[.string (a0.extract 1 (t347 : Int).toNat), .string (⟨#[44]⟩ : ByteArray)] rfl (by (try simp only [List.map_toArray, List.map_cons, List.map_nil]); first | done | rfl | (simp only [List.length_drop, List.length_take]; rfl) | (rw [show ((bt a0 t347) == 93) = true by assumption]; rfl) | (rw [show ((bt a0 t347) == 93) = true by assumption, show ((bt a0 0) == 91) = true by assumption]; rfl)) ?_; (with_reducible refine (strings_Cut.calls (a0.extract 1 (t347 : Int).toNat) (⟨#[44]⟩ : ByteArray) t349 t350 t351 _ (gS HG) A16.out).mono ?_); rintro e w' ⟨rfl, ⟨nd, rfl⟩⟩; refine ⟨_, rfl, ?_⟩))
 (try simp only [Act.put, List.setIfInBounds_toArray, List.set_cons_zero, List.set_cons_succ])
 go_cut [8] (fun v8 wc => ∃ (kq : Nat) (x8_16 : ByteArray), v8 = .string x8_16 ∧ Aside0 (span_one.j0 kq a0 t347 t349 x8_16 t351 (⟨#[]⟩ : ByteArray) (⟨#[]⟩ : ByteArray) ((bt a0 0) == 91) ((bt a0 t347) == 93) = some (r1, r2, r3, r4, r5, r6)) ∧ Aside0 (kq ≤ k) ∧ Aside0 (wc.heap[gb345]? = some (.cells #[.string (⟨#[]⟩ : ByteArray), .string (⟨#[]⟩ : ByteArray), .bool false, .bool false] 58 (0, 0))) ∧ Aside0 (wc.heap[gb348]? = some (.cells #[.string (⟨#[]⟩ : ByteArray), .string (⟨#[]⟩ : ByteArray), .bool ((bt a0 0) == 91), .bool ((bt a0 t347) == 93)] 58 (0, 0))) ∧ Aside0 (Below w.heap.size w wc))
 case first =>
  have H := HC17.out
  clear HC17
  by_cases c26 : t351 = true
  ·subst c26
   have H1 : (span_one.j0 k a0 t347 t349 t350 true (⟨#[]⟩ : ByteArray) (⟨#[]⟩ : ByteArray) ((bt a0 0) == 91) ((bt a0 t347) == 93)) = some (r1, r2, r3, r4, r5, r6) := by rw [if_pos rfl] at H; exact H
   clear H
   have H := H1
   clear H1
   have H' := Aside0.mk H
   clear H
   go_wp2
   go_meet
   case rel => exact ⟨_, (t350), cA, H', ⟨by first | omega | exact Nat.le_refl _⟩, ⟨by (with_reducible repeat (first | refine blk_drewN ?_ _ | refine blk_drew ?_ | refine blk_alloc ?_ _)); refine blk_far ?_ NB345_348.out _; (with_reducible repeat (first | refine blk_drewN ?_ _ | refine blk_drew ?_ | refine blk_alloc ?_ _)); refine blk_far ?_ NB345_348.out _; (with_reducible repeat (first | refine blk_drewN ?_ _ | refine blk_drew ?_ | refine blk_alloc ?_ _)); refine blk_far ?_ NB345_348.out _; (with_reducible repeat (first | refine blk_drewN ?_ _ | refine blk_drew ?_ | refine blk_alloc ?_ _)); refine blk_far ?_ NB345_348.out _; (with_reducible repeat (first | refine blk_drewN ?_ _ | refine blk_drew ?_ | refine blk_alloc ?_ _)); exact BK345.out⟩, ⟨bP BK348⟩, ⟨bG⟩⟩
  replace c26 := Bool.eq_false_iff.mpr c26
  subst c26
  have H1 : (span_one.j0 k a0 t347 t349 t349 false (⟨#[]⟩ : ByteArray) (⟨#[]⟩ : ByteArray) ((bt a0 0) == 91) ((bt a0 t347) == 93)) = some (r1, r2, r3, r4, r5, r6) := by rw [if_neg (show ¬ (false = true) by decide)] at H; exact H
  clear H
  have H := H1
  clear H1
  have H' := Aside0.mk H
  clear H
  go_wp2
  go_meet
  case rel => exact ⟨_, (t349), cA, H', ⟨by first | omega | exact Nat.le_refl _⟩, ⟨by (with_reducible repeat (first | refine blk_drewN ?_ _ | refine blk_drew ?_ | refine blk_alloc ?_ _)); refine blk_far ?_ NB345_348.out _; (with_reducible repeat (first | refine blk_drewN ?_ _ | refine blk_drew ?_ | refine blk_alloc ?_ _)); refine blk_far ?_ NB345_348.out _; (with_reducible repeat (first | refine blk_drewN ?_ _ | refine blk_drew ?_ | refine blk_alloc ?_ _)); refine blk_far ?_ NB345_348.out _; (with_reducible repeat (first | refine blk_drewN ?_ _ | refine blk_drew ?_ | refine blk_alloc ?_ _)); refine blk_far ?_ NB345_348.out _; (with_reducible repeat (first | refine blk_drewN ?_ _ | refine blk_drew ?_ | refine blk_alloc ?_ _)); exact BK345.out⟩, ⟨bP BK348⟩, ⟨bG⟩⟩
 clear HC17
 try clear c1
 try clear p1
 try clear q1
 try clear hx1
 try clear qi1
 try clear c2
 try clear p2
 try clear c3
 try clear c5
 try clear c5b0
 try clear c8
 try clear c9
 try clear c9b0
 try clear c9b1
 try clear p10
 try clear q10
 try clear hx10
 try clear qi10
 try clear c11
 try clear c11b0
 try clear c12
 try clear c12b0
 try clear p13
 try clear q13
 try clear hx13
 try clear c14
 try clear c14b0
 try clear c14b1
 try clear c15
 try clear c15b0
 try clear c15b1
 try clear c26
 try clear hcz8_0
 try clear hcz8_1
 try clear hcz8_2
 try clear hcz8_3
 try clear hfz8_0
 try clear hfz8_1
 try clear hfz8_2
 try clear hfz8_3
 try clear p10
 try clear p13
 try clear q10
 try clear q13
 obtain ⟨kq, x8_16, rfl, HA, HJ16, BK345, BK348, HB⟩ := hcut
 cases kq with
 | zero => exact absurd HA.out (by simp [span_one.j0])
 | succ kj16 =>
  have H := HA.out
  clear HA
  simp only [span_one.j0] at H
  (try simp only [toList_lit] at H)
  replace H := bi H
  obtain ⟨t352, A270, H⟩ := H
  try dsimp only at H
  have A27 := Aside0.mk A270
  clear A270
  replace H := bi H
  obtain ⟨t353, A280, H⟩ := H
  try dsimp only at H
  have A28 := Aside0.mk A280
  clear A280
  by_cases c29 : t351 = true
  ·subst c29
   have H1 : (if 0 ≤ (wrap64 (t347 + 1)) then (if (wrap64 (t347 + 1)) ≤ (a0.size : Int) then ((span_may.f kj16 t352 t353 ((bt a0 0) == 91) ((bt a0 t347) == 93)).bind fun t354 => (some (t352, t353, ((bt a0 0) == 91), ((bt a0 t347) == 93), a0.extract ((wrap64 (t347 + 1)) : Int).toNat a0.size, t354))) else (none)) else (none)) = some (r1, r2, r3, r4, r5, r6) := by rw [if_pos rfl] at H; exact H
   clear H
   have H := H1
   clear H1
   obtain ⟨ji30, hji30⟩ : ∃ j_ : Int, (wrap64 (t347 + 1)) = j_ := ⟨_, rfl⟩
   rw [hji30] at H
   (try rw [hji30] at A27)
   (try rw [hji30] at A28)
   have hji30w : (IntKind.i64.wrap (t347 + 1)) = ji30 := (i64_w _).trans hji30
   by_cases c31 : 0 ≤ (ji30)
   rotate_left
   ·rw [if_neg c31] at H
    exact absurd H (by simp)
   rw [if_pos c31] at H
   have c31b0 := eq_true c31
   have c31b1 := dT c31
   clear c31
   by_cases c32 : (ji30) ≤ (a0.size : Int)
   rotate_left
   ·rw [if_neg c32] at H
    exact absurd H (by simp)
   rw [if_pos c32] at H
   have c32b0 := eq_true c32
   have c32b1 := dT c32
   clear c32
   replace H := bi H
   obtain ⟨t354, A330, H⟩ := H
   try dsimp only at H
   have A33 := Aside0.mk A330
   clear A330
   simp only [Option.some.injEq, Prod.mk.injEq] at H
   obtain ⟨rfl, rfl, rfl, rfl, rfl, rfl⟩ := H
   try go_wp2_with (first | ((with_reducible refine gate_callee (f := 125) rfl ?_); refine goesL_ (some 39) rfl rfl Tryd.func125 (by kernel_rfl) rfl #[.string t349, .string (⟨#[32]⟩ : ByteArray)] rfl (by (try simp only [List.map_toArray, List.map_cons, List.map_nil]); first | done | rfl | (simp only [List.length_drop, List.length_take]; rfl) | (rw [show ((bt a0 t347) == 93) = true by assumption]; rfl) | (rw [show ((bt a0 t347) == 93) = true by assumption, show ((bt a0 0) == 91) = true by assumption]; rfl)) ?_; (with_reducible refine (strings_Trim.calls t349 (⟨#[32]⟩ : ByteArray) t352 _ (gS HG) A27.out).mono ?_); rintro e w' ⟨rfl, ⟨nd, rfl⟩⟩; refine ⟨_, rfl, ?_⟩; (try (rw [drewN_self wc]; generalize hq_ : World.drewN wc _ = wc; have n0_ : Aside0 (wc.heap[gb345]? = some (.cells #[.string (⟨#[]⟩ : ByteArray), .string (⟨#[]⟩ : ByteArray), .bool false, .bool false] 58 (0, 0))) := ⟨by rw [← hq_]; exact (bK BK345)⟩; have n1_ : Aside0 (wc.heap[gb348]? = some (.cells #[.string (⟨#[]⟩ : ByteArray), .string (⟨#[]⟩ : ByteArray), .bool ((bt a0 0) == 91), .bool ((bt a0 t347) == 93)] 58 (0, 0))) := ⟨by rw [← hq_]; exact (bK BK348)⟩; have n2_ : Aside0 (Below w.heap.size w wc) := ⟨by rw [← hq_]; exact bG⟩; clear BK345 BK348 HB hq_; have BK345 := n0_; have BK348 := n1_; have HB := n2_; clear n0_ n1_ n2_))) | ((with_reducible refine gate_callee (f := 125) rfl ?_); refine goesL_ (some 41) rfl rfl Tryd.func125 (by kernel_rfl) rfl #[.string x8_16, .string (⟨#[32]⟩ : ByteArray)] rfl (by (try simp only [List.map_toArray, List.map_cons, List.map_nil]); first | done | rfl | (simp only [List.length_drop, List.length_take]; rfl) | (rw [show ((bt a0 t347) == 93) = true by assumption]; rfl) | (rw [show ((bt a0 t347) == 93) = true by assumption, show ((bt a0 0) == 91) = true by assumption]; rfl)) ?_; (with_reducible refine (strings_Trim.calls x8_16 (⟨#[32]⟩ : ByteArray) t353 _ (gS HG) A28.out).mono ?_); rintro e w' ⟨rfl, ⟨nd, rfl⟩⟩; refine ⟨_, rfl, ?_⟩; (try (rw [drewN_self wc]; generalize hq_ : World.drewN wc _ = wc; have n0_ : Aside0 (wc.heap[gb345]? = some (.cells #[.string (⟨#[]⟩ : ByteArray), .string (⟨#[]⟩ : ByteArray), .bool false, .bool false] 58 (0, 0))) := ⟨by rw [← hq_]; exact (bK BK345)⟩; have n1_ : Aside0 (wc.heap[gb348]? = some (.cells #[.string (⟨#[]⟩ : ByteArray), .string (⟨#[]⟩ : ByteArray), .bool ((bt a0 0) == 91), .bool ((bt a0 t347) == 93)] 58 (0, 0))) := ⟨by rw [← hq_]; exact (bK BK348)⟩; have n2_ : Aside0 (Below w.heap.size w wc) := ⟨by rw [← hq_]; exact bG⟩; clear BK345 BK348 HB hq_; have BK345 := n0_; have BK348 := n1_; have HB := n2_; clear n0_ n1_ n2_)); have hnb34 := NB348_345.out; have hnc34 := NB345_348.out; have hcz35_0 : wc.cell? ⟨gb348, 0, none⟩ = some (.string (⟨#[]⟩ : ByteArray)) := (blk_cell BK348.out 0).trans rfl; have hcz35_1 : wc.cell? ⟨gb348, 1, none⟩ = some (.string (⟨#[]⟩ : ByteArray)) := (blk_cell BK348.out 1).trans rfl; have hcz35_2 : wc.cell? ⟨gb348, 2, none⟩ = some (.bool ((bt a0 0) == 91)) := (blk_cell BK348.out 2).trans rfl; have hcz35_3 : wc.cell? ⟨gb348, 3, none⟩ = some (.bool ((bt a0 t347) == 93)) := (blk_cell BK348.out 3).trans rfl; have hfz35_0 := blk_frozen BK348.out 0; have hfz35_1 := blk_frozen BK348.out 1; have hfz35_2 := blk_frozen BK348.out 2; have hfz35_3 := blk_frozen BK348.out 3))
   have n0_ : Aside0 (((wc.setCell ⟨gb348, 0, none⟩ (.string t352)).setCell ⟨gb348, 1, none⟩ (.string t353)).heap[gb345]? = some (.cells #[.string (⟨#[]⟩ : ByteArray), .string (⟨#[]⟩ : ByteArray), .bool false, .bool false] 58 (0, 0))) := ⟨by (with_reducible repeat (first | refine blk_drewN ?_ _ | refine blk_drew ?_ | refine blk_alloc ?_ _)); refine blk_far ?_ NB345_348.out _; (with_reducible repeat (first | refine blk_drewN ?_ _ | refine blk_drew ?_ | refine blk_alloc ?_ _)); refine blk_far ?_ NB345_348.out _; (with_reducible repeat (first | refine blk_drewN ?_ _ | refine blk_drew ?_ | refine blk_alloc ?_ _)); exact BK345.out⟩
   have n1_ : Aside0 (((wc.setCell ⟨gb348, 0, none⟩ (.string t352)).setCell ⟨gb348, 1, none⟩ (.string t353)).heap[gb348]? = some (.cells #[.string t352, .string t353, .bool ((bt a0 0) == 91), .bool ((bt a0 t347) == 93)] 58 (0, 0))) := ⟨bP BK348⟩
   have n2_ : Aside0 (Below w.heap.size w ((wc.setCell ⟨gb348, 0, none⟩ (.string t352)).setCell ⟨gb348, 1, none⟩ (.string t353))) := ⟨bG⟩
   (try clear BK345)
   (try clear BK348)
   (try clear HB)
   generalize ((wc.setCell ⟨gb348, 0, none⟩ (.string t352)).setCell ⟨gb348, 1, none⟩ (.string t353)) = w36 at n0_ n1_ n2_ ⊢
   have BK345 := n0_
   have BK348 := n1_
   have HB := n2_
   clear n0_ n1_ n2_
   replace BK345 := Aside0.mk (blk_drew BK345.out)
   replace BK348 := Aside0.mk (blk_drew BK348.out)
   replace HB := Aside0.mk (below_drew1 HB.out)
   refine start_ (n := 10) (S := fun w' => w'.cell? ⟨gb348, 0, none⟩ = some (.string t352) ∧ w'.cell? ⟨gb348, 1, none⟩ = some (.string t353) ∧ w'.cell? ⟨gb348, 2, none⟩ = some (.bool ((bt a0 0) == 91)) ∧ w'.cell? ⟨gb348, 3, none⟩ = some (.bool ((bt a0 t347) == 93))) (ds := []) #[false, false, false, false, false, false, false, false, false, false] (by kernel_rfl) rfl rfl ⟨(blk_cell BK348.out 0).trans rfl, (blk_cell BK348.out 1).trans rfl, (blk_cell BK348.out 2).trans rfl, (blk_cell BK348.out 3).trans rfl⟩ (fun hHeld => ?_); refine with_tabW span_one.tab13 span_one.bits13 (fun HT_ HW_ => ?_)
   generalize w36.drew = w37 at BK345 BK348 HB hHeld ⊢
   refine pz 1 (some 58) HT_ ?_
   refine pz 2 (some 59) HT_ ?_
   refine pz 3 (some 60) HT_ ?_
   refine pz 4 (some 61) HT_ ?_
   refine tm 0 (some 57) HT_ HW_ hHeld ?_
   refine tm 5 (some 62) HT_ HW_ hHeld ?_
   refine on 6 (some 63) HT_ (fun K hK => ?_)
   refine goes_ Tryd.func126 (by kernel_rfl) rfl #[.agg #[.string t352, .string t353, .bool ((bt a0 0) == 91), .bool ((bt a0 t347) == 93)]] (by rfl) rfl rfl (by (try simp only [List.map_toArray, List.map_cons, List.map_nil]); first | done | rfl | (simp only [List.length_drop, List.length_take]; rfl) | (rw [show ((bt a0 t347) == 93) = true by assumption]; rfl) | (rw [show ((bt a0 t347) == 93) = true by assumption, show ((bt a0 0) == 91) = true by assumption]; rfl)) ?_
   with_reducible refine (span_may.calls kj16 t352 t353 ((bt a0 0) == 91) ((bt a0 t347) == 93) t354 _ (gS HG) A33.out).mono ?_
   rintro e w38 ⟨rfl, hb⟩
   refine ⟨_, rfl, ?_⟩
   replace BK345 := kB BK345 hb
   replace BK348 := kB BK348 hb
   replace HB := sB hb
   (try clear hb)
   refine hK.out _ _ ⟨(blk_cell BK348.out 0).trans rfl, (blk_cell BK348.out 1).trans rfl, (blk_cell BK348.out 2).trans rfl, (blk_cell BK348.out 3).trans rfl⟩ (fun hHeld => ?_)
   clear hK K
   refine nz (some 63) ?_
   refine on 7 (none) HT_ (fun K hK => ?_)
   have hs39 : w38.cell? ⟨gb345, 0, none⟩ = some (.string (⟨#[]⟩ : ByteArray)) := (blk_cell BK345.out 0).trans rfl
   have hfs39 := blk_frozen BK345.out 0
   have hns39_1 := NB348_345.out
   have hms39_1 := NB345_348.out
   have hs40 : w38.cell? ⟨gb345, 1, none⟩ = some (.string (⟨#[]⟩ : ByteArray)) := (blk_cell BK345.out 1).trans rfl
   have hfs40 := blk_frozen BK345.out 1
   have hns40_1 := NB348_345.out
   have hms40_1 := NB345_348.out
   have hs41 : w38.cell? ⟨gb345, 2, none⟩ = some (.bool false) := (blk_cell BK345.out 2).trans rfl
   have hfs41 := blk_frozen BK345.out 2
   have hns41_1 := NB348_345.out
   have hms41_1 := NB345_348.out
   have hs42 : w38.cell? ⟨gb345, 3, none⟩ = some (.bool false) := (blk_cell BK345.out 3).trans rfl
   have hfs42 := blk_frozen BK345.out 3
   have hns42_1 := NB348_345.out
   have hms42_1 := NB345_348.out
   refine skip_ (w1 := ?_) (by rfl) rfl ?_ ?_
   rotate_left
   ·go_simp
    rfl
   refine hK.out _ _ ⟨((cell_far (p := ⟨gb345, _, none⟩) NB348_345.out _).trans (((cell_far (p := ⟨gb345, _, none⟩) NB348_345.out _).trans (((cell_far (p := ⟨gb345, _, none⟩) NB348_345.out _).trans (((cell_far (p := ⟨gb345, _, none⟩) NB348_345.out _).trans (hHeld.1)))))))), ((cell_far (p := ⟨gb345, _, none⟩) NB348_345.out _).trans (((cell_far (p := ⟨gb345, _, none⟩) NB348_345.out _).trans (((cell_far (p := ⟨gb345, _, none⟩) NB348_345.out _).trans (((cell_far (p := ⟨gb345, _, none⟩) NB348_345.out _).trans (hHeld.2.1)))))))), ((cell_far (p := ⟨gb345, _, none⟩) NB348_345.out _).trans (((cell_far (p := ⟨gb345, _, none⟩) NB348_345.out _).trans (((cell_far (p := ⟨gb345, _, none⟩) NB348_345.out _).trans (((cell_far (p := ⟨gb345, _, none⟩) NB348_345.out _).trans (hHeld.2.2.1)))))))), ((cell_far (p := ⟨gb345, _, none⟩) NB348_345.out _).trans (((cell_far (p := ⟨gb345, _, none⟩) NB348_345.out _).trans (((cell_far (p := ⟨gb345, _, none⟩) NB348_345.out _).trans (((cell_far (p := ⟨gb345, _, none⟩) NB348_345.out _).trans (hHeld.2.2.2))))))))⟩ (fun hHeld => ?_)
   clear hK K
   refine pz 8 (some 3) HT_ ?_
   refine pz 9 (some 4) HT_ ?_
   refine done_ (done_of HT_.out (by kernel_rfl)) ?_
   try go_wp2
   first | (refine bodyPost_ret (results_ctt rfl _ _ gb345 58 #[.string t352, .string t353, .bool ((bt a0 0) == 91), .bool ((bt a0 t347) == 93)] (0, 0) _ rfl (bP BK345) Tryd.underlying58 rfl (by kernel_rfl)) rfl ?_) | (refine bodyPost_ret (results_ctt rfl _ _ gb345 58 #[.string t352, .string t353, .bool true, .bool true] (0, 0) _ rfl (bP BK345) Tryd.underlying58 rfl (by kernel_rfl)) rfl ?_) | (refine bodyPost_ret (results_ctt rfl _ _ gb345 58 #[.string t352, .string t353, .bool true, .bool ((bt a0 t347) == 93)] (0, 0) _ rfl (bP BK345) Tryd.underlying58 rfl (by kernel_rfl)) rfl ?_) | (refine bodyPost_ret (results_ctt rfl _ _ gb345 58 #[.string t352, .string t353, .bool ((bt a0 0) == 91), .bool true] (0, 0) _ rfl (bP BK345) Tryd.underlying58 rfl (by kernel_rfl)) rfl ?_)
   exact ⟨by first | rfl | (simp [errW_none, errW_some] <;> rfl) | (simp only [← hji30]; first | rfl | (simp [errW_none, errW_some] <;> rfl)) | (simp [*, errW_none, errW_some] <;> rfl), bG⟩
  replace c29 := Bool.eq_false_iff.mpr c29
  subst c29
  have H1 : (if ((bt a0 0) == 91) = true then (if ((bt a0 t347) == 93) = true then (if 0 ≤ (wrap64 (t347 + 1)) then (if (wrap64 (t347 + 1)) ≤ (a0.size : Int) then ((span_may.f kj16 t352 t353 ((bt a0 0) == 91) ((bt a0 t347) == 93)).bind fun t355 => (some (t352, t353, ((bt a0 0) == 91), ((bt a0 t347) == 93), a0.extract ((wrap64 (t347 + 1)) : Int).toNat a0.size, t355))) else (none)) else (none)) else (some ((⟨#[]⟩ : ByteArray), (⟨#[]⟩ : ByteArray), false, false, (⟨#[]⟩ : ByteArray), false))) else (some ((⟨#[]⟩ : ByteArray), (⟨#[]⟩ : ByteArray), false, false, (⟨#[]⟩ : ByteArray), false))) = some (r1, r2, r3, r4, r5, r6) := by rw [if_neg (show ¬ (false = true) by decide)] at H; exact H
  clear H
  have H := H1
  clear H1
  by_cases c43 : ((bt a0 0) == 91) = true
  rotate_left
  ·rw [if_neg c43] at H
   have c43b0 : ((bt a0 0) == 91) = false := by simpa using c43
   (try (have c43b1 : decide ((bt a0 0) = 91) = false := by simpa using c43))
   (try (have c43b2 : ((bt a0 0) == 91) = false := by simpa using c43))
   (try (have c43b3 : ¬ ((bt a0 0) = 91) := by simpa using c43))
   clear c43
   simp only [Option.some.injEq, Prod.mk.injEq] at H
   obtain ⟨rfl, rfl, rfl, rfl, rfl, rfl⟩ := H
   go_wp2_with (first | ((with_reducible refine gate_callee (f := 125) rfl ?_); refine goesL_ (some 39) rfl rfl Tryd.func125 (by kernel_rfl) rfl #[.string t349, .string (⟨#[32]⟩ : ByteArray)] rfl (by (try simp only [List.map_toArray, List.map_cons, List.map_nil]); first | done | rfl | (simp only [List.length_drop, List.length_take]; rfl) | (rw [show ((bt a0 t347) == 93) = true by assumption]; rfl) | (rw [show ((bt a0 t347) == 93) = true by assumption, show ((bt a0 0) == 91) = true by assumption]; rfl)) ?_; (with_reducible refine (strings_Trim.calls t349 (⟨#[32]⟩ : ByteArray) t352 _ (gS HG) A27.out).mono ?_); rintro e w' ⟨rfl, ⟨nd, rfl⟩⟩; refine ⟨_, rfl, ?_⟩; (try (rw [drewN_self wc]; generalize hq_ : World.drewN wc _ = wc; have n0_ : Aside0 (wc.heap[gb345]? = some (.cells #[.string (⟨#[]⟩ : ByteArray), .string (⟨#[]⟩ : ByteArray), .bool false, .bool false] 58 (0, 0))) := ⟨by rw [← hq_]; exact (bK BK345)⟩; have n1_ : Aside0 (wc.heap[gb348]? = some (.cells #[.string (⟨#[]⟩ : ByteArray), .string (⟨#[]⟩ : ByteArray), .bool ((bt a0 0) == 91), .bool ((bt a0 t347) == 93)] 58 (0, 0))) := ⟨by rw [← hq_]; exact (bK BK348)⟩; have n2_ : Aside0 (Below w.heap.size w wc) := ⟨by rw [← hq_]; exact bG⟩; clear BK345 BK348 HB hq_; have BK345 := n0_; have BK348 := n1_; have HB := n2_; clear n0_ n1_ n2_))) | ((with_reducible refine gate_callee (f := 125) rfl ?_); refine goesL_ (some 41) rfl rfl Tryd.func125 (by kernel_rfl) rfl #[.string x8_16, .string (⟨#[32]⟩ : ByteArray)] rfl (by (try simp only [List.map_toArray, List.map_cons, List.map_nil]); first | done | rfl | (simp only [List.length_drop, List.length_take]; rfl) | (rw [show ((bt a0 t347) == 93) = true by assumption]; rfl) | (rw [show ((bt a0 t347) == 93) = true by assumption, show ((bt a0 0) == 91) = true by assumption]; rfl)) ?_; (with_reducible refine (strings_Trim.calls x8_16 (⟨#[32]⟩ : ByteArray) t353 _ (gS HG) A28.out).mono ?_); rintro e w' ⟨rfl, ⟨nd, rfl⟩⟩; refine ⟨_, rfl, ?_⟩; (try (rw [drewN_self wc]; generalize hq_ : World.drewN wc _ = wc; have n0_ : Aside0 (wc.heap[gb345]? = some (.cells #[.string (⟨#[]⟩ : ByteArray), .string (⟨#[]⟩ : ByteArray), .bool false, .bool false] 58 (0, 0))) := ⟨by rw [← hq_]; exact (bK BK345)⟩; have n1_ : Aside0 (wc.heap[gb348]? = some (.cells #[.string (⟨#[]⟩ : ByteArray), .string (⟨#[]⟩ : ByteArray), .bool ((bt a0 0) == 91), .bool ((bt a0 t347) == 93)] 58 (0, 0))) := ⟨by rw [← hq_]; exact (bK BK348)⟩; have n2_ : Aside0 (Below w.heap.size w wc) := ⟨by rw [← hq_]; exact bG⟩; clear BK345 BK348 HB hq_; have BK345 := n0_; have BK348 := n1_; have HB := n2_; clear n0_ n1_ n2_)); have hnb61 := NB348_345.out; have hnc61 := NB345_348.out; have hcz62_0 : wc.cell? ⟨gb348, 0, none⟩ = some (.string (⟨#[]⟩ : ByteArray)) := (blk_cell BK348.out 0).trans rfl; have hcz62_1 : wc.cell? ⟨gb348, 1, none⟩ = some (.string (⟨#[]⟩ : ByteArray)) := (blk_cell BK348.out 1).trans rfl; have hcz62_2 : wc.cell? ⟨gb348, 2, none⟩ = some (.bool ((bt a0 0) == 91)) := (blk_cell BK348.out 2).trans rfl; have hcz62_3 : wc.cell? ⟨gb348, 3, none⟩ = some (.bool ((bt a0 t347) == 93)) := (blk_cell BK348.out 3).trans rfl; have hfz62_0 := blk_frozen BK348.out 0; have hfz62_1 := blk_frozen BK348.out 1; have hfz62_2 := blk_frozen BK348.out 2; have hfz62_3 := blk_frozen BK348.out 3; have hcz63_0 : wc.cell? ⟨gb345, 0, none⟩ = some (.string (⟨#[]⟩ : ByteArray)) := (blk_cell BK345.out 0).trans rfl; have hcz63_1 : wc.cell? ⟨gb345, 1, none⟩ = some (.string (⟨#[]⟩ : ByteArray)) := (blk_cell BK345.out 1).trans rfl; have hcz63_2 : wc.cell? ⟨gb345, 2, none⟩ = some (.bool false) := (blk_cell BK345.out 2).trans rfl; have hcz63_3 : wc.cell? ⟨gb345, 3, none⟩ = some (.bool false) := (blk_cell BK345.out 3).trans rfl; have hfz63_0 := blk_frozen BK345.out 0; have hfz63_1 := blk_frozen BK345.out 1; have hfz63_2 := blk_frozen BK345.out 2; have hfz63_3 := blk_frozen BK345.out 3))
   refine bodyPost_ret (results_ctt rfl _ _ gb345 58 #[.string (⟨#[]⟩ : ByteArray), .string (⟨#[]⟩ : ByteArray), .bool false, .bool false] (0, 0) _ rfl (by (with_reducible repeat (first | refine blk_drewN ?_ _ | refine blk_drew ?_ | refine blk_alloc ?_ _)); refine blk_put (cs := #[.string (⟨#[]⟩ : ByteArray), .string (⟨#[]⟩ : ByteArray), .bool false, .bool false]) ?_ 3 _ rfl; (with_reducible repeat (first | refine blk_drewN ?_ _ | refine blk_drew ?_ | refine blk_alloc ?_ _)); refine blk_put (cs := #[.string (⟨#[]⟩ : ByteArray), .string (⟨#[]⟩ : ByteArray), .bool false, .bool false]) ?_ 2 _ rfl; (with_reducible repeat (first | refine blk_drewN ?_ _ | refine blk_drew ?_ | refine blk_alloc ?_ _)); refine blk_put (cs := #[.string (⟨#[]⟩ : ByteArray), .string (⟨#[]⟩ : ByteArray), .bool false, .bool false]) ?_ 1 _ rfl; (with_reducible repeat (first | refine blk_drewN ?_ _ | refine blk_drew ?_ | refine blk_alloc ?_ _)); refine blk_put (cs := #[.string (⟨#[]⟩ : ByteArray), .string (⟨#[]⟩ : ByteArray), .bool false, .bool false]) ?_ 0 _ rfl; (with_reducible repeat (first | refine blk_drewN ?_ _ | refine blk_drew ?_ | refine blk_alloc ?_ _)); refine blk_far ?_ NB345_348.out _; (with_reducible repeat (first | refine blk_drewN ?_ _ | refine blk_drew ?_ | refine blk_alloc ?_ _)); refine blk_far ?_ NB345_348.out _; (with_reducible repeat (first | refine blk_drewN ?_ _ | refine blk_drew ?_ | refine blk_alloc ?_ _)); exact BK345.out) Tryd.underlying58 rfl (by kernel_rfl)) rfl ?_
   exact ⟨eA, bG⟩
  rw [if_pos c43] at H
  have c43b0 : ((bt a0 0) == 91) = true := c43
  (try (have c43b1 : decide ((bt a0 0) = 91) = true := by simpa using c43))
  (try (have c43b2 : ((bt a0 0) == 91) = true := by simpa using c43))
  clear c43
  by_cases c44 : ((bt a0 t347) == 93) = true
  rotate_left
  ·rw [if_neg c44] at H
   have c44b0 : ((bt a0 t347) == 93) = false := by simpa using c44
   (try (have c44b1 : decide ((bt a0 t347) = 93) = false := by simpa using c44))
   (try (have c44b2 : ((bt a0 t347) == 93) = false := by simpa using c44))
   (try (have c44b3 : ¬ ((bt a0 t347) = 93) := by simpa using c44))
   clear c44
   simp only [Option.some.injEq, Prod.mk.injEq] at H
   obtain ⟨rfl, rfl, rfl, rfl, rfl, rfl⟩ := H
   go_wp2_with (first | ((with_reducible refine gate_callee (f := 125) rfl ?_); refine goesL_ (some 39) rfl rfl Tryd.func125 (by kernel_rfl) rfl #[.string t349, .string (⟨#[32]⟩ : ByteArray)] rfl (by (try simp only [List.map_toArray, List.map_cons, List.map_nil]); first | done | rfl | (simp only [List.length_drop, List.length_take]; rfl) | (rw [show ((bt a0 t347) == 93) = true by assumption]; rfl) | (rw [show ((bt a0 t347) == 93) = true by assumption, show ((bt a0 0) == 91) = true by assumption]; rfl)) ?_; (with_reducible refine (strings_Trim.calls t349 (⟨#[32]⟩ : ByteArray) t352 _ (gS HG) A27.out).mono ?_); rintro e w' ⟨rfl, ⟨nd, rfl⟩⟩; refine ⟨_, rfl, ?_⟩; (try (rw [drewN_self wc]; generalize hq_ : World.drewN wc _ = wc; have n0_ : Aside0 (wc.heap[gb345]? = some (.cells #[.string (⟨#[]⟩ : ByteArray), .string (⟨#[]⟩ : ByteArray), .bool false, .bool false] 58 (0, 0))) := ⟨by rw [← hq_]; exact (bK BK345)⟩; have n1_ : Aside0 (wc.heap[gb348]? = some (.cells #[.string (⟨#[]⟩ : ByteArray), .string (⟨#[]⟩ : ByteArray), .bool ((bt a0 0) == 91), .bool ((bt a0 t347) == 93)] 58 (0, 0))) := ⟨by rw [← hq_]; exact (bK BK348)⟩; have n2_ : Aside0 (Below w.heap.size w wc) := ⟨by rw [← hq_]; exact bG⟩; clear BK345 BK348 HB hq_; have BK345 := n0_; have BK348 := n1_; have HB := n2_; clear n0_ n1_ n2_))) | ((with_reducible refine gate_callee (f := 125) rfl ?_); refine goesL_ (some 41) rfl rfl Tryd.func125 (by kernel_rfl) rfl #[.string x8_16, .string (⟨#[32]⟩ : ByteArray)] rfl (by (try simp only [List.map_toArray, List.map_cons, List.map_nil]); first | done | rfl | (simp only [List.length_drop, List.length_take]; rfl) | (rw [show ((bt a0 t347) == 93) = true by assumption]; rfl) | (rw [show ((bt a0 t347) == 93) = true by assumption, show ((bt a0 0) == 91) = true by assumption]; rfl)) ?_; (with_reducible refine (strings_Trim.calls x8_16 (⟨#[32]⟩ : ByteArray) t353 _ (gS HG) A28.out).mono ?_); rintro e w' ⟨rfl, ⟨nd, rfl⟩⟩; refine ⟨_, rfl, ?_⟩; (try (rw [drewN_self wc]; generalize hq_ : World.drewN wc _ = wc; have n0_ : Aside0 (wc.heap[gb345]? = some (.cells #[.string (⟨#[]⟩ : ByteArray), .string (⟨#[]⟩ : ByteArray), .bool false, .bool false] 58 (0, 0))) := ⟨by rw [← hq_]; exact (bK BK345)⟩; have n1_ : Aside0 (wc.heap[gb348]? = some (.cells #[.string (⟨#[]⟩ : ByteArray), .string (⟨#[]⟩ : ByteArray), .bool ((bt a0 0) == 91), .bool ((bt a0 t347) == 93)] 58 (0, 0))) := ⟨by rw [← hq_]; exact (bK BK348)⟩; have n2_ : Aside0 (Below w.heap.size w wc) := ⟨by rw [← hq_]; exact bG⟩; clear BK345 BK348 HB hq_; have BK345 := n0_; have BK348 := n1_; have HB := n2_; clear n0_ n1_ n2_)); have hnb58 := NB348_345.out; have hnc58 := NB345_348.out; have hcz59_0 : wc.cell? ⟨gb348, 0, none⟩ = some (.string (⟨#[]⟩ : ByteArray)) := (blk_cell BK348.out 0).trans rfl; have hcz59_1 : wc.cell? ⟨gb348, 1, none⟩ = some (.string (⟨#[]⟩ : ByteArray)) := (blk_cell BK348.out 1).trans rfl; have hcz59_2 : wc.cell? ⟨gb348, 2, none⟩ = some (.bool ((bt a0 0) == 91)) := (blk_cell BK348.out 2).trans rfl; have hcz59_3 : wc.cell? ⟨gb348, 3, none⟩ = some (.bool ((bt a0 t347) == 93)) := (blk_cell BK348.out 3).trans rfl; have hfz59_0 := blk_frozen BK348.out 0; have hfz59_1 := blk_frozen BK348.out 1; have hfz59_2 := blk_frozen BK348.out 2; have hfz59_3 := blk_frozen BK348.out 3; have hcz60_0 : wc.cell? ⟨gb345, 0, none⟩ = some (.string (⟨#[]⟩ : ByteArray)) := (blk_cell BK345.out 0).trans rfl; have hcz60_1 : wc.cell? ⟨gb345, 1, none⟩ = some (.string (⟨#[]⟩ : ByteArray)) := (blk_cell BK345.out 1).trans rfl; have hcz60_2 : wc.cell? ⟨gb345, 2, none⟩ = some (.bool false) := (blk_cell BK345.out 2).trans rfl; have hcz60_3 : wc.cell? ⟨gb345, 3, none⟩ = some (.bool false) := (blk_cell BK345.out 3).trans rfl; have hfz60_0 := blk_frozen BK345.out 0; have hfz60_1 := blk_frozen BK345.out 1; have hfz60_2 := blk_frozen BK345.out 2; have hfz60_3 := blk_frozen BK345.out 3))
   refine bodyPost_ret (results_ctt rfl _ _ gb345 58 #[.string (⟨#[]⟩ : ByteArray), .string (⟨#[]⟩ : ByteArray), .bool false, .bool false] (0, 0) _ rfl (by (with_reducible repeat (first | refine blk_drewN ?_ _ | refine blk_drew ?_ | refine blk_alloc ?_ _)); refine blk_put (cs := #[.string (⟨#[]⟩ : ByteArray), .string (⟨#[]⟩ : ByteArray), .bool false, .bool false]) ?_ 3 _ rfl; (with_reducible repeat (first | refine blk_drewN ?_ _ | refine blk_drew ?_ | refine blk_alloc ?_ _)); refine blk_put (cs := #[.string (⟨#[]⟩ : ByteArray), .string (⟨#[]⟩ : ByteArray), .bool false, .bool false]) ?_ 2 _ rfl; (with_reducible repeat (first | refine blk_drewN ?_ _ | refine blk_drew ?_ | refine blk_alloc ?_ _)); refine blk_put (cs := #[.string (⟨#[]⟩ : ByteArray), .string (⟨#[]⟩ : ByteArray), .bool false, .bool false]) ?_ 1 _ rfl; (with_reducible repeat (first | refine blk_drewN ?_ _ | refine blk_drew ?_ | refine blk_alloc ?_ _)); refine blk_put (cs := #[.string (⟨#[]⟩ : ByteArray), .string (⟨#[]⟩ : ByteArray), .bool false, .bool false]) ?_ 0 _ rfl; (with_reducible repeat (first | refine blk_drewN ?_ _ | refine blk_drew ?_ | refine blk_alloc ?_ _)); refine blk_far ?_ NB345_348.out _; (with_reducible repeat (first | refine blk_drewN ?_ _ | refine blk_drew ?_ | refine blk_alloc ?_ _)); refine blk_far ?_ NB345_348.out _; (with_reducible repeat (first | refine blk_drewN ?_ _ | refine blk_drew ?_ | refine blk_alloc ?_ _)); exact BK345.out) Tryd.underlying58 rfl (by kernel_rfl)) rfl ?_
   exact ⟨eA, bG⟩
  rw [if_pos c44] at H
  have c44b0 : ((bt a0 t347) == 93) = true := c44
  (try (have c44b1 : decide ((bt a0 t347) = 93) = true := by simpa using c44))
  (try (have c44b2 : ((bt a0 t347) == 93) = true := by simpa using c44))
  clear c44
  obtain ⟨ji45, hji45⟩ : ∃ j_ : Int, (wrap64 (t347 + 1)) = j_ := ⟨_, rfl⟩
  rw [hji45] at H
  (try rw [hji45] at A27)
  (try rw [hji45] at A28)
  have hji45w : (IntKind.i64.wrap (t347 + 1)) = ji45 := (i64_w _).trans hji45
  by_cases c46 : 0 ≤ (ji45)
  rotate_left
  ·rw [if_neg c46] at H
   exact absurd H (by simp)
  rw [if_pos c46] at H
  have c46b0 := eq_true c46
  have c46b1 := dT c46
  clear c46
  by_cases c47 : (ji45) ≤ (a0.size : Int)
  rotate_left
  ·rw [if_neg c47] at H
   exact absurd H (by simp)
  rw [if_pos c47] at H
  have c47b0 := eq_true c47
  have c47b1 := dT c47
  clear c47
  replace H := bi H
  obtain ⟨t355, A480, H⟩ := H
  try dsimp only at H
  have A48 := Aside0.mk A480
  clear A480
  simp only [Option.some.injEq, Prod.mk.injEq] at H
  obtain ⟨rfl, rfl, rfl, rfl, rfl, rfl⟩ := H
  try go_wp2_with (first | ((with_reducible refine gate_callee (f := 125) rfl ?_); refine goesL_ (some 39) rfl rfl Tryd.func125 (by kernel_rfl) rfl #[.string t349, .string (⟨#[32]⟩ : ByteArray)] rfl (by (try simp only [List.map_toArray, List.map_cons, List.map_nil]); first | done | rfl | (simp only [List.length_drop, List.length_take]; rfl) | (rw [show ((bt a0 t347) == 93) = true by assumption]; rfl) | (rw [show ((bt a0 t347) == 93) = true by assumption, show ((bt a0 0) == 91) = true by assumption]; rfl)) ?_; (with_reducible refine (strings_Trim.calls t349 (⟨#[32]⟩ : ByteArray) t352 _ (gS HG) A27.out).mono ?_); rintro e w' ⟨rfl, ⟨nd, rfl⟩⟩; refine ⟨_, rfl, ?_⟩; (try (rw [drewN_self wc]; generalize hq_ : World.drewN wc _ = wc; have n0_ : Aside0 (wc.heap[gb345]? = some (.cells #[.string (⟨#[]⟩ : ByteArray), .string (⟨#[]⟩ : ByteArray), .bool false, .bool false] 58 (0, 0))) := ⟨by rw [← hq_]; exact (bK BK345)⟩; have n1_ : Aside0 (wc.heap[gb348]? = some (.cells #[.string (⟨#[]⟩ : ByteArray), .string (⟨#[]⟩ : ByteArray), .bool ((bt a0 0) == 91), .bool ((bt a0 t347) == 93)] 58 (0, 0))) := ⟨by rw [← hq_]; exact (bK BK348)⟩; have n2_ : Aside0 (Below w.heap.size w wc) := ⟨by rw [← hq_]; exact bG⟩; clear BK345 BK348 HB hq_; have BK345 := n0_; have BK348 := n1_; have HB := n2_; clear n0_ n1_ n2_))) | ((with_reducible refine gate_callee (f := 125) rfl ?_); refine goesL_ (some 41) rfl rfl Tryd.func125 (by kernel_rfl) rfl #[.string x8_16, .string (⟨#[32]⟩ : ByteArray)] rfl (by (try simp only [List.map_toArray, List.map_cons, List.map_nil]); first | done | rfl | (simp only [List.length_drop, List.length_take]; rfl) | (rw [show ((bt a0 t347) == 93) = true by assumption]; rfl) | (rw [show ((bt a0 t347) == 93) = true by assumption, show ((bt a0 0) == 91) = true by assumption]; rfl)) ?_; (with_reducible refine (strings_Trim.calls x8_16 (⟨#[32]⟩ : ByteArray) t353 _ (gS HG) A28.out).mono ?_); rintro e w' ⟨rfl, ⟨nd, rfl⟩⟩; refine ⟨_, rfl, ?_⟩; (try (rw [drewN_self wc]; generalize hq_ : World.drewN wc _ = wc; have n0_ : Aside0 (wc.heap[gb345]? = some (.cells #[.string (⟨#[]⟩ : ByteArray), .string (⟨#[]⟩ : ByteArray), .bool false, .bool false] 58 (0, 0))) := ⟨by rw [← hq_]; exact (bK BK345)⟩; have n1_ : Aside0 (wc.heap[gb348]? = some (.cells #[.string (⟨#[]⟩ : ByteArray), .string (⟨#[]⟩ : ByteArray), .bool ((bt a0 0) == 91), .bool ((bt a0 t347) == 93)] 58 (0, 0))) := ⟨by rw [← hq_]; exact (bK BK348)⟩; have n2_ : Aside0 (Below w.heap.size w wc) := ⟨by rw [← hq_]; exact bG⟩; clear BK345 BK348 HB hq_; have BK345 := n0_; have BK348 := n1_; have HB := n2_; clear n0_ n1_ n2_)); have hnb49 := NB348_345.out; have hnc49 := NB345_348.out; have hcz50_0 : wc.cell? ⟨gb348, 0, none⟩ = some (.string (⟨#[]⟩ : ByteArray)) := (blk_cell BK348.out 0).trans rfl; have hcz50_1 : wc.cell? ⟨gb348, 1, none⟩ = some (.string (⟨#[]⟩ : ByteArray)) := (blk_cell BK348.out 1).trans rfl; have hcz50_2 : wc.cell? ⟨gb348, 2, none⟩ = some (.bool ((bt a0 0) == 91)) := (blk_cell BK348.out 2).trans rfl; have hcz50_3 : wc.cell? ⟨gb348, 3, none⟩ = some (.bool ((bt a0 t347) == 93)) := (blk_cell BK348.out 3).trans rfl; have hfz50_0 := blk_frozen BK348.out 0; have hfz50_1 := blk_frozen BK348.out 1; have hfz50_2 := blk_frozen BK348.out 2; have hfz50_3 := blk_frozen BK348.out 3))
  have n0_ : Aside0 (((wc.setCell ⟨gb348, 0, none⟩ (.string t352)).setCell ⟨gb348, 1, none⟩ (.string t353)).heap[gb345]? = some (.cells #[.string (⟨#[]⟩ : ByteArray), .string (⟨#[]⟩ : ByteArray), .bool false, .bool false] 58 (0, 0))) := ⟨by (with_reducible repeat (first | refine blk_drewN ?_ _ | refine blk_drew ?_ | refine blk_alloc ?_ _)); refine blk_far ?_ NB345_348.out _; (with_reducible repeat (first | refine blk_drewN ?_ _ | refine blk_drew ?_ | refine blk_alloc ?_ _)); refine blk_far ?_ NB345_348.out _; (with_reducible repeat (first | refine blk_drewN ?_ _ | refine blk_drew ?_ | refine blk_alloc ?_ _)); exact BK345.out⟩
  have n1_ : Aside0 (((wc.setCell ⟨gb348, 0, none⟩ (.string t352)).setCell ⟨gb348, 1, none⟩ (.string t353)).heap[gb348]? = some (.cells #[.string t352, .string t353, .bool ((bt a0 0) == 91), .bool ((bt a0 t347) == 93)] 58 (0, 0))) := ⟨bP BK348⟩
  have n2_ : Aside0 (Below w.heap.size w ((wc.setCell ⟨gb348, 0, none⟩ (.string t352)).setCell ⟨gb348, 1, none⟩ (.string t353))) := ⟨bG⟩
  (try clear BK345)
  (try clear BK348)
  (try clear HB)
  generalize ((wc.setCell ⟨gb348, 0, none⟩ (.string t352)).setCell ⟨gb348, 1, none⟩ (.string t353)) = w51 at n0_ n1_ n2_ ⊢
  have BK345 := n0_
  have BK348 := n1_
  have HB := n2_
  clear n0_ n1_ n2_
  replace BK345 := Aside0.mk (blk_drew BK345.out)
  replace BK348 := Aside0.mk (blk_drew BK348.out)
  replace HB := Aside0.mk (below_drew1 HB.out)
  refine start_ (n := 10) (S := fun w' => w'.cell? ⟨gb348, 0, none⟩ = some (.string t352) ∧ w'.cell? ⟨gb348, 1, none⟩ = some (.string t353) ∧ w'.cell? ⟨gb348, 2, none⟩ = some (.bool ((bt a0 0) == 91)) ∧ w'.cell? ⟨gb348, 3, none⟩ = some (.bool ((bt a0 t347) == 93))) (ds := []) #[false, false, false, false, false, false, false, false, false, false] (by kernel_rfl) rfl rfl ⟨(blk_cell BK348.out 0).trans rfl, (blk_cell BK348.out 1).trans rfl, (blk_cell BK348.out 2).trans rfl, (blk_cell BK348.out 3).trans rfl⟩ (fun hHeld => ?_); refine with_tabW span_one.tab13 span_one.bits13 (fun HT_ HW_ => ?_)
  generalize w51.drew = w52 at BK345 BK348 HB hHeld ⊢
  refine pz 1 (some 58) HT_ ?_
  refine pz 2 (some 59) HT_ ?_
  refine pz 3 (some 60) HT_ ?_
  refine pz 4 (some 61) HT_ ?_
  refine tm 0 (some 57) HT_ HW_ hHeld ?_
  refine tm 5 (some 62) HT_ HW_ hHeld ?_
  refine on 6 (some 63) HT_ (fun K hK => ?_)
  refine goes_ Tryd.func126 (by kernel_rfl) rfl #[.agg #[.string t352, .string t353, .bool ((bt a0 0) == 91), .bool ((bt a0 t347) == 93)]] (by rfl) rfl rfl (by (try simp only [List.map_toArray, List.map_cons, List.map_nil]); first | done | rfl | (simp only [List.length_drop, List.length_take]; rfl) | (rw [show ((bt a0 t347) == 93) = true by assumption]; rfl) | (rw [show ((bt a0 t347) == 93) = true by assumption, show ((bt a0 0) == 91) = true by assumption]; rfl)) ?_
  with_reducible refine (span_may.calls kj16 t352 t353 ((bt a0 0) == 91) ((bt a0 t347) == 93) t355 _ (gS HG) A48.out).mono ?_
  rintro e w53 ⟨rfl, hb⟩
  refine ⟨_, rfl, ?_⟩
  replace BK345 := kB BK345 hb
  replace BK348 := kB BK348 hb
  replace HB := sB hb
  (try clear hb)
  refine hK.out _ _ ⟨(blk_cell BK348.out 0).trans rfl, (blk_cell BK348.out 1).trans rfl, (blk_cell BK348.out 2).trans rfl, (blk_cell BK348.out 3).trans rfl⟩ (fun hHeld => ?_)
  clear hK K
  refine nz (some 63) ?_
  refine on 7 (none) HT_ (fun K hK => ?_)
  have hs54 : w53.cell? ⟨gb345, 0, none⟩ = some (.string (⟨#[]⟩ : ByteArray)) := (blk_cell BK345.out 0).trans rfl
  have hfs54 := blk_frozen BK345.out 0
  have hns54_1 := NB348_345.out
  have hms54_1 := NB345_348.out
  have hs55 : w53.cell? ⟨gb345, 1, none⟩ = some (.string (⟨#[]⟩ : ByteArray)) := (blk_cell BK345.out 1).trans rfl
  have hfs55 := blk_frozen BK345.out 1
  have hns55_1 := NB348_345.out
  have hms55_1 := NB345_348.out
  have hs56 : w53.cell? ⟨gb345, 2, none⟩ = some (.bool false) := (blk_cell BK345.out 2).trans rfl
  have hfs56 := blk_frozen BK345.out 2
  have hns56_1 := NB348_345.out
  have hms56_1 := NB345_348.out
  have hs57 : w53.cell? ⟨gb345, 3, none⟩ = some (.bool false) := (blk_cell BK345.out 3).trans rfl
  have hfs57 := blk_frozen BK345.out 3
  have hns57_1 := NB348_345.out
  have hms57_1 := NB345_348.out
  refine skip_ (w1 := ?_) (by rfl) rfl ?_ ?_
  rotate_left
  ·go_simp
   rfl
  refine hK.out _ _ ⟨((cell_far (p := ⟨gb345, _, none⟩) NB348_345.out _).trans (((cell_far (p := ⟨gb345, _, none⟩) NB348_345.out _).trans (((cell_far (p := ⟨gb345, _, none⟩) NB348_345.out _).trans (((cell_far (p := ⟨gb345, _, none⟩) NB348_345.out _).trans (hHeld.1)))))))), ((cell_far (p := ⟨gb345, _, none⟩) NB348_345.out _).trans (((cell_far (p := ⟨gb345, _, none⟩) NB348_345.out _).trans (((cell_far (p := ⟨gb345, _, none⟩) NB348_345.out _).trans (((cell_far (p := ⟨gb345, _, none⟩) NB348_345.out _).trans (hHeld.2.1)))))))), ((cell_far (p := ⟨gb345, _, none⟩) NB348_345.out _).trans (((cell_far (p := ⟨gb345, _, none⟩) NB348_345.out _).trans (((cell_far (p := ⟨gb345, _, none⟩) NB348_345.out _).trans (((cell_far (p := ⟨gb345, _, none⟩) NB348_345.out _).trans (hHeld.2.2.1)))))))), ((cell_far (p := ⟨gb345, _, none⟩) NB348_345.out _).trans (((cell_far (p := ⟨gb345, _, none⟩) NB348_345.out _).trans (((cell_far (p := ⟨gb345, _, none⟩) NB348_345.out _).trans (((cell_far (p := ⟨gb345, _, none⟩) NB348_345.out _).trans (hHeld.2.2.2))))))))⟩ (fun hHeld => ?_)
  clear hK K
  refine pz 8 (some 3) HT_ ?_
  refine pz 9 (some 4) HT_ ?_
  refine done_ (done_of HT_.out (by kernel_rfl)) ?_
  try go_wp2
  first | (refine bodyPost_ret (results_ctt rfl _ _ gb345 58 #[.string t352, .string t353, .bool ((bt a0 0) == 91), .bool ((bt a0 t347) == 93)] (0, 0) _ rfl (bP BK345) Tryd.underlying58 rfl (by kernel_rfl)) rfl ?_) | (refine bodyPost_ret (results_ctt rfl _ _ gb345 58 #[.string t352, .string t353, .bool true, .bool true] (0, 0) _ rfl (bP BK345) Tryd.underlying58 rfl (by kernel_rfl)) rfl ?_) | (refine bodyPost_ret (results_ctt rfl _ _ gb345 58 #[.string t352, .string t353, .bool true, .bool ((bt a0 t347) == 93)] (0, 0) _ rfl (bP BK345) Tryd.underlying58 rfl (by kernel_rfl)) rfl ?_) | (refine bodyPost_ret (results_ctt rfl _ _ gb345 58 #[.string t352, .string t353, .bool ((bt a0 0) == 91), .bool true] (0, 0) _ rfl (bP BK345) Tryd.underlying58 rfl (by kernel_rfl)) rfl ?_)
  exact ⟨by first | rfl | (simp [errW_none, errW_some] <;> rfl) | (simp only [← hji45]; first | rfl | (simp [errW_none, errW_some] <;> rfl)) | (simp [*, errW_none, errW_some] <;> rfl), bG⟩
def span_behind.f (k : Nat) (a0_0 : ByteArray) (a0_1 : ByteArray) (a0_2 : Bool) (a0_3 : Bool) (a1_0 : ByteArray) (a1_1 : ByteArray) (a1_2 : Bool) (a1_3 : Bool) : Option (Bool) := if a0_1.toList = ([] : List UInt8) then (some false) else (if a1_0.toList = ([] : List UInt8) then (some false) else ((order_Compare.f k a0_1 a1_0).bind fun t358 => (if t358 < 0 then (some true) else (if t358 = 0 then (if a0_3 = true then (some (!a1_2)) else (some (!false))) else (some false)))))
theorem span_behind.mono : ∀ a0 a1 a2 a3 a4 a5 a6 a7 k, LeO (span_behind.f k a0 a1 a2 a3 a4 a5 a6 a7) (span_behind.f (k + 1) a0 a1 a2 a3 a4 a5 a6 a7) := by
 intro a0 a1 a2 a3 a4 a5 a6 a7 k
 unfold span_behind.f
 have m0 := @order_Compare.mono
 exact mo
theorem span_behind.calls (k : Nat) (a0_0 : ByteArray) (a0_1 : ByteArray) (a0_2 : Bool) (a0_3 : Bool) (a1_0 : ByteArray) (a1_1 : ByteArray) (a1_2 : Bool) (a1_3 : Bool) (r : Bool) (w : World) (hG : Glob w) (h : span_behind.f k a0_0 a0_1 a0_2 a0_3 a1_0 a1_1 a1_2 a1_3 = some r) :
 Calls Tryd.prog 93 #[.agg #[.string a0_0, .string a0_1, .bool a0_2, .bool a0_3], .agg #[.string a1_0, .string a1_1, .bool a1_2, .bool a1_3]] w fun e w' => e = .returned (.bool r) ∧ Below w.heap.size w w' := by
 have hu58 := Tryd.underlying58
 have HG := Aside0.mk hG
 clear hG
 have HB := Aside0.mk (Below.refl w.heap.size w)
 have H : (if a0_1.toList = ([] : List UInt8) then (some false) else (if a1_0.toList = ([] : List UInt8) then (some false) else ((order_Compare.f k a0_1 a1_0).bind fun t358 => (if t358 < 0 then (some true) else (if t358 = 0 then (if a0_3 = true then (some (!a1_2)) else (some (!false))) else (some false)))))) = some r := h
 clear h
 by_cases c3 : a0_1.toList = ([] : List UInt8)
 ·rw [if_pos c3] at H
  obtain ⟨c3b0, c3b1⟩ := eqT c3
  (try (have c3b2 : a0_1.toList.isEmpty = true := by simpa using c3))
  clear c3
  obtain rfl := Option.some.inj H
  go_enter Tryd.func93, Tryd.ntmps93
  go_wp2_with (first | (refine be 2 #[.string a0_0, .string a0_1, .bool a0_2, .bool a0_3] 58 ?_; intro gb356 hg w4 hbox hb; have BK356 := Aside0.mk (hbox); have GW356 := gW hg; have GE356 := gW hg; replace HB := sB hb; clear hb hbox hg) | (refine be 3 #[.string a1_0, .string a1_1, .bool a1_2, .bool a1_3] 58 ?_; intro gb357 hg w5 hbox hb; have BK357 := Aside0.mk (hbox); have GW357 := gW hg; have GE357 := gW hg; replace HB := sB hb; have NB356_357 := nL BK356 hg; have NB357_356 := nG BK356 hg; replace BK356 := kB BK356 hb; clear hb hbox hg; have hnb6 := NB356_357.out; have hnc6 := NB357_356.out; have hcz7_0 : w5.cell? ⟨gb356, 0, none⟩ = some (.string a0_0) := (blk_cell BK356.out 0).trans rfl; have hcz7_1 : w5.cell? ⟨gb356, 1, none⟩ = some (.string a0_1) := (blk_cell BK356.out 1).trans rfl; have hcz7_2 : w5.cell? ⟨gb356, 2, none⟩ = some (.bool a0_2) := (blk_cell BK356.out 2).trans rfl; have hcz7_3 : w5.cell? ⟨gb356, 3, none⟩ = some (.bool a0_3) := (blk_cell BK356.out 3).trans rfl; have hfz7_0 := blk_frozen BK356.out 0; have hfz7_1 := blk_frozen BK356.out 1; have hfz7_2 := blk_frozen BK356.out 2; have hfz7_3 := blk_frozen BK356.out 3))
  go_ret
  exact ⟨eA, bG⟩
 rw [if_neg c3] at H
 obtain ⟨c3b0, c3b1⟩ := eqF c3
 (try (have c3b2 : a0_1.toList.isEmpty = false := by simpa using c3))
 by_cases c8 : a1_0.toList = ([] : List UInt8)
 ·rw [if_pos c8] at H
  obtain ⟨c8b0, c8b1⟩ := eqT c8
  (try (have c8b2 : a1_0.toList.isEmpty = true := by simpa using c8))
  clear c8
  obtain rfl := Option.some.inj H
  go_enter Tryd.func93, Tryd.ntmps93
  go_wp2_with (first | (refine be 2 #[.string a0_0, .string a0_1, .bool a0_2, .bool a0_3] 58 ?_; intro gb356 hg w9 hbox hb; have BK356 := Aside0.mk (hbox); have GW356 := gW hg; have GE356 := gW hg; replace HB := sB hb; clear hb hbox hg) | (refine be 3 #[.string a1_0, .string a1_1, .bool a1_2, .bool a1_3] 58 ?_; intro gb357 hg w10 hbox hb; have BK357 := Aside0.mk (hbox); have GW357 := gW hg; have GE357 := gW hg; replace HB := sB hb; have NB356_357 := nL BK356 hg; have NB357_356 := nG BK356 hg; replace BK356 := kB BK356 hb; clear hb hbox hg; have hnb11 := NB356_357.out; have hnc11 := NB357_356.out; have hcz12_0 : w10.cell? ⟨gb356, 0, none⟩ = some (.string a0_0) := (blk_cell BK356.out 0).trans rfl; have hcz12_1 : w10.cell? ⟨gb356, 1, none⟩ = some (.string a0_1) := (blk_cell BK356.out 1).trans rfl; have hcz12_2 : w10.cell? ⟨gb356, 2, none⟩ = some (.bool a0_2) := (blk_cell BK356.out 2).trans rfl; have hcz12_3 : w10.cell? ⟨gb356, 3, none⟩ = some (.bool a0_3) := (blk_cell BK356.out 3).trans rfl; have hfz12_0 := blk_frozen BK356.out 0; have hfz12_1 := blk_frozen BK356.out 1; have hfz12_2 := blk_frozen BK356.out 2; have hfz12_3 := blk_frozen BK356.out 3; have hcz13_0 : w10.cell? ⟨gb357, 0, none⟩ = some (.string a1_0) := (blk_cell BK357.out 0).trans rfl; have hcz13_1 : w10.cell? ⟨gb357, 1, none⟩ = some (.string a1_1) := (blk_cell BK357.out 1).trans rfl; have hcz13_2 : w10.cell? ⟨gb357, 2, none⟩ = some (.bool a1_2) := (blk_cell BK357.out 2).trans rfl; have hcz13_3 : w10.cell? ⟨gb357, 3, none⟩ = some (.bool a1_3) := (blk_cell BK357.out 3).trans rfl; have hfz13_0 := blk_frozen BK357.out 0; have hfz13_1 := blk_frozen BK357.out 1; have hfz13_2 := blk_frozen BK357.out 2; have hfz13_3 := blk_frozen BK357.out 3))
  go_ret
  exact ⟨eA, bG⟩
 rw [if_neg c8] at H
 obtain ⟨c8b0, c8b1⟩ := eqF c8
 (try (have c8b2 : a1_0.toList.isEmpty = false := by simpa using c8))
 replace H := bi H
 obtain ⟨t358, A140, H⟩ := H
 try dsimp only at H
 have A14 := Aside0.mk A140
 clear A140
 by_cases c15 : t358 < 0
 ·rw [if_pos c15] at H
  have c15b0 := dT c15
  clear c15
  obtain rfl := Option.some.inj H
  go_enter Tryd.func93, Tryd.ntmps93
  go_wp2_with (first | (refine be 2 #[.string a0_0, .string a0_1, .bool a0_2, .bool a0_3] 58 ?_; intro gb356 hg w16 hbox hb; have BK356 := Aside0.mk (hbox); have GW356 := gW hg; have GE356 := gW hg; replace HB := sB hb; clear hb hbox hg) | (refine be 3 #[.string a1_0, .string a1_1, .bool a1_2, .bool a1_3] 58 ?_; intro gb357 hg w17 hbox hb; have BK357 := Aside0.mk (hbox); have GW357 := gW hg; have GE357 := gW hg; replace HB := sB hb; have NB356_357 := nL BK356 hg; have NB357_356 := nG BK356 hg; replace BK356 := kB BK356 hb; clear hb hbox hg; have hnb18 := NB356_357.out; have hnc18 := NB357_356.out; have hcz19_0 : w17.cell? ⟨gb356, 0, none⟩ = some (.string a0_0) := (blk_cell BK356.out 0).trans rfl; have hcz19_1 : w17.cell? ⟨gb356, 1, none⟩ = some (.string a0_1) := (blk_cell BK356.out 1).trans rfl; have hcz19_2 : w17.cell? ⟨gb356, 2, none⟩ = some (.bool a0_2) := (blk_cell BK356.out 2).trans rfl; have hcz19_3 : w17.cell? ⟨gb356, 3, none⟩ = some (.bool a0_3) := (blk_cell BK356.out 3).trans rfl; have hfz19_0 := blk_frozen BK356.out 0; have hfz19_1 := blk_frozen BK356.out 1; have hfz19_2 := blk_frozen BK356.out 2; have hfz19_3 := blk_frozen BK356.out 3; have hcz20_0 : w17.cell? ⟨gb357, 0, none⟩ = some (.string a1_0) := (blk_cell BK357.out 0).trans rfl; have hcz20_1 : w17.cell? ⟨gb357, 1, none⟩ = some (.string a1_1) := (blk_cell BK357.out 1).trans rfl; have hcz20_2 : w17.cell? ⟨gb357, 2, none⟩ = some (.bool a1_2) := (blk_cell BK357.out 2).trans rfl; have hcz20_3 : w17.cell? ⟨gb357, 3, none⟩ = some (.bool a1_3) := (blk_cell BK357.out 3).trans rfl; have hfz20_0 := blk_frozen BK357.out 0; have hfz20_1 := blk_frozen BK357.out 1; have hfz20_2 := blk_frozen BK357.out 2; have hfz20_3 := blk_frozen BK357.out 3) | (refine gl (some 18) Tryd.func114 #[.string a0_1, .string a1_0] ?_; (with_reducible refine (order_Compare.calls k a0_1 a1_0 t358 _ (gS HG) A14.out).mono ?_); rintro e w21 ⟨rfl, hb⟩; refine ⟨_, rfl, ?_⟩; replace BK356 := kB BK356 hb; replace BK357 := kB BK357 hb; replace HB := sB hb; (try clear hb)))
  go_ret
  exact ⟨eA, bG⟩
 rw [if_neg c15] at H
 have c15b0 := dF c15
 clear c15
 by_cases c22 : t358 = 0
 rotate_left
 ·rw [if_neg c22] at H
  obtain ⟨c22b0, c22b1⟩ := eqF c22
  obtain rfl := Option.some.inj H
  go_enter Tryd.func93, Tryd.ntmps93
  go_wp2_with (first | (refine be 2 #[.string a0_0, .string a0_1, .bool a0_2, .bool a0_3] 58 ?_; intro gb356 hg w39 hbox hb; have BK356 := Aside0.mk (hbox); have GW356 := gW hg; have GE356 := gW hg; replace HB := sB hb; clear hb hbox hg) | (refine be 3 #[.string a1_0, .string a1_1, .bool a1_2, .bool a1_3] 58 ?_; intro gb357 hg w40 hbox hb; have BK357 := Aside0.mk (hbox); have GW357 := gW hg; have GE357 := gW hg; replace HB := sB hb; have NB356_357 := nL BK356 hg; have NB357_356 := nG BK356 hg; replace BK356 := kB BK356 hb; clear hb hbox hg; have hnb41 := NB356_357.out; have hnc41 := NB357_356.out; have hcz42_0 : w40.cell? ⟨gb356, 0, none⟩ = some (.string a0_0) := (blk_cell BK356.out 0).trans rfl; have hcz42_1 : w40.cell? ⟨gb356, 1, none⟩ = some (.string a0_1) := (blk_cell BK356.out 1).trans rfl; have hcz42_2 : w40.cell? ⟨gb356, 2, none⟩ = some (.bool a0_2) := (blk_cell BK356.out 2).trans rfl; have hcz42_3 : w40.cell? ⟨gb356, 3, none⟩ = some (.bool a0_3) := (blk_cell BK356.out 3).trans rfl; have hfz42_0 := blk_frozen BK356.out 0; have hfz42_1 := blk_frozen BK356.out 1; have hfz42_2 := blk_frozen BK356.out 2; have hfz42_3 := blk_frozen BK356.out 3; have hcz43_0 : w40.cell? ⟨gb357, 0, none⟩ = some (.string a1_0) := (blk_cell BK357.out 0).trans rfl; have hcz43_1 : w40.cell? ⟨gb357, 1, none⟩ = some (.string a1_1) := (blk_cell BK357.out 1).trans rfl; have hcz43_2 : w40.cell? ⟨gb357, 2, none⟩ = some (.bool a1_2) := (blk_cell BK357.out 2).trans rfl; have hcz43_3 : w40.cell? ⟨gb357, 3, none⟩ = some (.bool a1_3) := (blk_cell BK357.out 3).trans rfl; have hfz43_0 := blk_frozen BK357.out 0; have hfz43_1 := blk_frozen BK357.out 1; have hfz43_2 := blk_frozen BK357.out 2; have hfz43_3 := blk_frozen BK357.out 3) | (refine gl (some 18) Tryd.func114 #[.string a0_1, .string a1_0] ?_; (with_reducible refine (order_Compare.calls k a0_1 a1_0 t358 _ (gS HG) A14.out).mono ?_); rintro e w44 ⟨rfl, hb⟩; refine ⟨_, rfl, ?_⟩; replace BK356 := kB BK356 hb; replace BK357 := kB BK357 hb; replace HB := sB hb; (try clear hb)))
  go_ret
  exact ⟨eA, bG⟩
 rw [if_pos c22] at H
 obtain ⟨c22b0, c22b1⟩ := eqT c22
 clear c22
 by_cases c23 : a0_3 = true
 ·subst c23
  have H1 : (some (!a1_2)) = some r := by rw [if_pos rfl] at H; exact H
  clear H
  have H := H1
  clear H1
  obtain rfl := Option.some.inj H
  go_enter Tryd.func93, Tryd.ntmps93
  go_wp2_with (first | (refine be 2 #[.string a0_0, .string a0_1, .bool a0_2, .bool true] 58 ?_; intro gb356 hg w24 hbox hb; have BK356 := Aside0.mk (hbox); have GW356 := gW hg; have GE356 := gW hg; replace HB := sB hb; clear hb hbox hg) | (refine be 3 #[.string a1_0, .string a1_1, .bool a1_2, .bool a1_3] 58 ?_; intro gb357 hg w25 hbox hb; have BK357 := Aside0.mk (hbox); have GW357 := gW hg; have GE357 := gW hg; replace HB := sB hb; have NB356_357 := nL BK356 hg; have NB357_356 := nG BK356 hg; replace BK356 := kB BK356 hb; clear hb hbox hg; have hnb26 := NB356_357.out; have hnc26 := NB357_356.out; have hcz27_0 : w25.cell? ⟨gb356, 0, none⟩ = some (.string a0_0) := (blk_cell BK356.out 0).trans rfl; have hcz27_1 : w25.cell? ⟨gb356, 1, none⟩ = some (.string a0_1) := (blk_cell BK356.out 1).trans rfl; have hcz27_2 : w25.cell? ⟨gb356, 2, none⟩ = some (.bool a0_2) := (blk_cell BK356.out 2).trans rfl; have hcz27_3 : w25.cell? ⟨gb356, 3, none⟩ = some (.bool true) := (blk_cell BK356.out 3).trans rfl; have hfz27_0 := blk_frozen BK356.out 0; have hfz27_1 := blk_frozen BK356.out 1; have hfz27_2 := blk_frozen BK356.out 2; have hfz27_3 := blk_frozen BK356.out 3; have hcz28_0 : w25.cell? ⟨gb357, 0, none⟩ = some (.string a1_0) := (blk_cell BK357.out 0).trans rfl; have hcz28_1 : w25.cell? ⟨gb357, 1, none⟩ = some (.string a1_1) := (blk_cell BK357.out 1).trans rfl; have hcz28_2 : w25.cell? ⟨gb357, 2, none⟩ = some (.bool a1_2) := (blk_cell BK357.out 2).trans rfl; have hcz28_3 : w25.cell? ⟨gb357, 3, none⟩ = some (.bool a1_3) := (blk_cell BK357.out 3).trans rfl; have hfz28_0 := blk_frozen BK357.out 0; have hfz28_1 := blk_frozen BK357.out 1; have hfz28_2 := blk_frozen BK357.out 2; have hfz28_3 := blk_frozen BK357.out 3) | (refine gl (some 18) Tryd.func114 #[.string a0_1, .string a1_0] ?_; (with_reducible refine (order_Compare.calls k a0_1 a1_0 t358 _ (gS HG) A14.out).mono ?_); rintro e w29 ⟨rfl, hb⟩; refine ⟨_, rfl, ?_⟩; replace BK356 := kB BK356 hb; replace BK357 := kB BK357 hb; replace HB := sB hb; (try clear hb); have hcz30_0 : w29.cell? ⟨gb356, 0, none⟩ = some (.string a0_0) := (blk_cell BK356.out 0).trans rfl; have hcz30_1 : w29.cell? ⟨gb356, 1, none⟩ = some (.string a0_1) := (blk_cell BK356.out 1).trans rfl; have hcz30_2 : w29.cell? ⟨gb356, 2, none⟩ = some (.bool a0_2) := (blk_cell BK356.out 2).trans rfl; have hcz30_3 : w29.cell? ⟨gb356, 3, none⟩ = some (.bool true) := (blk_cell BK356.out 3).trans rfl; have hfz30_0 := blk_frozen BK356.out 0; have hfz30_1 := blk_frozen BK356.out 1; have hfz30_2 := blk_frozen BK356.out 2; have hfz30_3 := blk_frozen BK356.out 3; have hcz31_0 : w29.cell? ⟨gb357, 0, none⟩ = some (.string a1_0) := (blk_cell BK357.out 0).trans rfl; have hcz31_1 : w29.cell? ⟨gb357, 1, none⟩ = some (.string a1_1) := (blk_cell BK357.out 1).trans rfl; have hcz31_2 : w29.cell? ⟨gb357, 2, none⟩ = some (.bool a1_2) := (blk_cell BK357.out 2).trans rfl; have hcz31_3 : w29.cell? ⟨gb357, 3, none⟩ = some (.bool a1_3) := (blk_cell BK357.out 3).trans rfl; have hfz31_0 := blk_frozen BK357.out 0; have hfz31_1 := blk_frozen BK357.out 1; have hfz31_2 := blk_frozen BK357.out 2; have hfz31_3 := blk_frozen BK357.out 3))
  go_ret
  exact ⟨eA, bG⟩
 replace c23 := Bool.eq_false_iff.mpr c23
 subst c23
 have H1 : (some (!false)) = some r := by rw [if_neg (show ¬ (false = true) by decide)] at H; exact H
 clear H
 have H := H1
 clear H1
 obtain rfl := Option.some.inj H
 go_enter Tryd.func93, Tryd.ntmps93
 go_wp2_with (first | (refine be 2 #[.string a0_0, .string a0_1, .bool a0_2, .bool false] 58 ?_; intro gb356 hg w32 hbox hb; have BK356 := Aside0.mk (hbox); have GW356 := gW hg; have GE356 := gW hg; replace HB := sB hb; clear hb hbox hg) | (refine be 3 #[.string a1_0, .string a1_1, .bool a1_2, .bool a1_3] 58 ?_; intro gb357 hg w33 hbox hb; have BK357 := Aside0.mk (hbox); have GW357 := gW hg; have GE357 := gW hg; replace HB := sB hb; have NB356_357 := nL BK356 hg; have NB357_356 := nG BK356 hg; replace BK356 := kB BK356 hb; clear hb hbox hg; have hnb34 := NB356_357.out; have hnc34 := NB357_356.out; have hcz35_0 : w33.cell? ⟨gb356, 0, none⟩ = some (.string a0_0) := (blk_cell BK356.out 0).trans rfl; have hcz35_1 : w33.cell? ⟨gb356, 1, none⟩ = some (.string a0_1) := (blk_cell BK356.out 1).trans rfl; have hcz35_2 : w33.cell? ⟨gb356, 2, none⟩ = some (.bool a0_2) := (blk_cell BK356.out 2).trans rfl; have hcz35_3 : w33.cell? ⟨gb356, 3, none⟩ = some (.bool false) := (blk_cell BK356.out 3).trans rfl; have hfz35_0 := blk_frozen BK356.out 0; have hfz35_1 := blk_frozen BK356.out 1; have hfz35_2 := blk_frozen BK356.out 2; have hfz35_3 := blk_frozen BK356.out 3; have hcz36_0 : w33.cell? ⟨gb357, 0, none⟩ = some (.string a1_0) := (blk_cell BK357.out 0).trans rfl; have hcz36_1 : w33.cell? ⟨gb357, 1, none⟩ = some (.string a1_1) := (blk_cell BK357.out 1).trans rfl; have hcz36_2 : w33.cell? ⟨gb357, 2, none⟩ = some (.bool a1_2) := (blk_cell BK357.out 2).trans rfl; have hcz36_3 : w33.cell? ⟨gb357, 3, none⟩ = some (.bool a1_3) := (blk_cell BK357.out 3).trans rfl; have hfz36_0 := blk_frozen BK357.out 0; have hfz36_1 := blk_frozen BK357.out 1; have hfz36_2 := blk_frozen BK357.out 2; have hfz36_3 := blk_frozen BK357.out 3) | (refine gl (some 18) Tryd.func114 #[.string a0_1, .string a1_0] ?_; (with_reducible refine (order_Compare.calls k a0_1 a1_0 t358 _ (gS HG) A14.out).mono ?_); rintro e w37 ⟨rfl, hb⟩; refine ⟨_, rfl, ?_⟩; replace BK356 := kB BK356 hb; replace BK357 := kB BK357 hb; replace HB := sB hb; (try clear hb); have hcz38_0 : w37.cell? ⟨gb356, 0, none⟩ = some (.string a0_0) := (blk_cell BK356.out 0).trans rfl; have hcz38_1 : w37.cell? ⟨gb356, 1, none⟩ = some (.string a0_1) := (blk_cell BK356.out 1).trans rfl; have hcz38_2 : w37.cell? ⟨gb356, 2, none⟩ = some (.bool a0_2) := (blk_cell BK356.out 2).trans rfl; have hcz38_3 : w37.cell? ⟨gb356, 3, none⟩ = some (.bool false) := (blk_cell BK356.out 3).trans rfl; have hfz38_0 := blk_frozen BK356.out 0; have hfz38_1 := blk_frozen BK356.out 1; have hfz38_2 := blk_frozen BK356.out 2; have hfz38_3 := blk_frozen BK356.out 3))
 go_ret
 exact ⟨eA, bG⟩
def stringslite_CutPrefix.f (a0 : ByteArray) (a1 : ByteArray) : Option (ByteArray × Bool) := (stringslite_HasPrefix.f a0 a1).bind fun t359 => (if t359 = true then (if 0 ≤ (a1.size : Int) then (if (a1.size : Int) ≤ (a0.size : Int) then (some (a0.extract ((a1.size : Int) : Int).toNat a0.size, true)) else (none)) else (none)) else (some (a0, false)))
theorem stringslite_CutPrefix.calls (a0 : ByteArray) (a1 : ByteArray) (r1 : ByteArray) (r2 : Bool) (w : World) (hG : Glob w) (h : stringslite_CutPrefix.f a0 a1 = some (r1, r2)) :
 Calls Tryd.prog 127 #[.string a0, .string a1] w fun e w' => e = .returned (.tuple #[.string r1, .bool r2]) ∧ Drawn0 w w' := by
 have HG := Aside0.mk hG
 clear hG
 have H : ((stringslite_HasPrefix.f a0 a1).bind fun t359 => (if t359 = true then (if 0 ≤ (a1.size : Int) then (if (a1.size : Int) ≤ (a0.size : Int) then (some (a0.extract ((a1.size : Int) : Int).toNat a0.size, true)) else (none)) else (none)) else (some (a0, false)))) = some (r1, r2) := h
 clear h
 replace H := bi H
 obtain ⟨t359, A30, H⟩ := H
 try dsimp only at H
 have A3 := Aside0.mk A30
 clear A30
 by_cases c4 : t359 = true
 rotate_left
 ·replace c4 := Bool.eq_false_iff.mpr c4
  subst c4
  have H1 : (some (a0, false)) = some (r1, r2) := by rw [if_neg (show ¬ (false = true) by decide)] at H; exact H
  clear H
  have H := H1
  clear H1
  simp only [Option.some.injEq, Prod.mk.injEq] at H
  obtain ⟨rfl, rfl⟩ := H
  go_enter Tryd.func127, Tryd.ntmps127
  go_wp2_with (first | (refine gl (some 8) Tryd.func142 #[.string a0, .string a1] ?_; (with_reducible refine (stringslite_HasPrefix.calls a0 a1 false _ ?side1 A3.out).mono ?_); (case side1 => exact Glob.drawn HG.out (by repeat (first | exact Drawn0.refl _ | apply Drawn0.step))); rintro e w' ⟨rfl, ⟨nd, rfl⟩⟩; refine ⟨_, rfl, ?_⟩))
  go_ret2
  exact ⟨by first | rfl | (simp; done) | (simp [*]; done), by repeat (first | exact Drawn0.refl _ | apply Drawn0.step)⟩
 subst c4
 have H1 : (if 0 ≤ (a1.size : Int) then (if (a1.size : Int) ≤ (a0.size : Int) then (some (a0.extract ((a1.size : Int) : Int).toNat a0.size, true)) else (none)) else (none)) = some (r1, r2) := by rw [if_pos rfl] at H; exact H
 clear H
 have H := H1
 clear H1
 by_cases c5 : 0 ≤ (a1.size : Int)
 rotate_left
 ·rw [if_neg c5] at H
  exact absurd H (by simp)
 rw [if_pos c5] at H
 have c5b0 := eq_true c5
 have c5b1 := dT c5
 clear c5
 by_cases c6 : (a1.size : Int) ≤ (a0.size : Int)
 rotate_left
 ·rw [if_neg c6] at H
  exact absurd H (by simp)
 rw [if_pos c6] at H
 have c6b0 := eq_true c6
 have c6b1 := dT c6
 clear c6
 simp only [Option.some.injEq, Prod.mk.injEq] at H
 obtain ⟨rfl, rfl⟩ := H
 go_enter Tryd.func127, Tryd.ntmps127
 go_wp2_with (first | (refine gl (some 8) Tryd.func142 #[.string a0, .string a1] ?_; (with_reducible refine (stringslite_HasPrefix.calls a0 a1 true _ ?side1 A3.out).mono ?_); (case side1 => exact Glob.drawn HG.out (by repeat (first | exact Drawn0.refl _ | apply Drawn0.step))); rintro e w' ⟨rfl, ⟨nd, rfl⟩⟩; refine ⟨_, rfl, ?_⟩))
 go_ret2
 exact ⟨by first | rfl | (simp; done) | (simp [*]; done), by repeat (first | exact Drawn0.refl _ | apply Drawn0.step)⟩
def strings_CutPrefix.f (a0 : ByteArray) (a1 : ByteArray) : Option (ByteArray × Bool) := (stringslite_CutPrefix.f a0 a1).bind fun bt360 => (some (bt360.1, bt360.2))
theorem strings_CutPrefix.calls (a0 : ByteArray) (a1 : ByteArray) (r1 : ByteArray) (r2 : Bool) (w : World) (hG : Glob w) (h : strings_CutPrefix.f a0 a1 = some (r1, r2)) :
 Calls Tryd.prog 94 #[.string a0, .string a1] w fun e w' => e = .returned (.tuple #[.string r1, .bool r2]) ∧ Drawn0 w w' := by
 have HG := Aside0.mk hG
 clear hG
 have H : ((stringslite_CutPrefix.f a0 a1).bind fun bt360 => (some (bt360.1, bt360.2))) = some (r1, r2) := h
 clear h
 replace H := bi H
 obtain ⟨⟨t360, t361⟩, A30, H⟩ := H
 try dsimp only at H
 have A3 := Aside0.mk A30
 clear A30
 simp only [Option.some.injEq, Prod.mk.injEq] at H
 obtain ⟨rfl, rfl⟩ := H
 go_enter Tryd.func94, Tryd.ntmps94
 go_wp2_with (first | (refine gl (some 8) Tryd.func127 #[.string a0, .string a1] ?_; (with_reducible refine (stringslite_CutPrefix.calls a0 a1 t360 t361 _ ?side1 A3.out).mono ?_); (case side1 => exact Glob.drawn HG.out (by repeat (first | exact Drawn0.refl _ | apply Drawn0.step))); rintro e w' ⟨rfl, ⟨nd, rfl⟩⟩; refine ⟨_, rfl, ?_⟩))
 go_ret2
 exact ⟨by first | rfl | (simp; done) | (simp [*]; done), by repeat (first | exact Drawn0.refl _ | apply Drawn0.step)⟩
end Go.Proofs.YtgdjfcmmpjcaaaaDoor.Q
