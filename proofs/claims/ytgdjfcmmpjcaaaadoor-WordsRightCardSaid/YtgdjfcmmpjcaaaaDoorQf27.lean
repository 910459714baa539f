-- Printed by this session's wip/np.py over the kit's print program. Not trusted: Lean checks it.
import Derived.Test.YtgdjfcmmpjcaaaaDoorQ0
import Derived.Test.YtgdjfcmmpjcaaaaDoorQf28
import Derived.Test.YtgdjfcmmpjcaaaaDoorQf30
import Derived.Test.YtgdjfcmmpjcaaaaDoorQf31
namespace Go.Proofs.YtgdjfcmmpjcaaaaDoor.Q
open Go.RowKit Go.Proofs.YtgdjfcmmpjcaaaaDoorW.PrintWords Go.Proofs.YtgdjfcmmpjcaaaaDoorW.PrintLast Go.Proofs.YtgdjfcmmpjcaaaaDoorW.Own Go.Proofs.YtgdjfcmmpjcaaaaDoorW.PrintMore
attribute [local go_sem] max2_int min2_int max_two min_two max_three min_three max_four min_four   -- for this text's walks alone
set_option linter.unusedVariables false
set_option linter.unusedSimpArgs false

/-! ### newellaw05_awake: function 27 -/
def newellaw05_awake.f (k : Nat)  : Option (Bool) := (words_Right.f k (⟨#[49]⟩ : ByteArray)).bind fun t178 => (if t178 = true then ((words_Right.f k (⟨#[]⟩ : ByteArray)).bind fun t179 => (if t179 = true then (some false) else ((words_Split.f k (⟨#[49, 46, 48, 45, 97, 108, 112, 104, 97, 49]⟩ : ByteArray)).bind fun t180 => ((api_Word_30.f k t180 (([(⟨10, (⟨#[49]⟩ : ByteArray)⟩ : S38), (⟨1, (⟨#[]⟩ : ByteArray)⟩ : S38), (⟨9, (⟨#[49]⟩ : ByteArray)⟩ : S38)] : List (S38)))).bind fun t186 => (some t186))))) else (some false))
theorem newellaw05_awake.mono : ∀ k, LeO (newellaw05_awake.f k ) (newellaw05_awake.f (k + 1) ) := by
  intro  k
  unfold newellaw05_awake.f
  repeat' first
      | (with_reducible exact api_Word_30.mono _ _ _)
      | (with_reducible exact words_Right.mono _ _)
      | (with_reducible exact words_Split.mono _ _)
      | (with_reducible exact LeO.refl _)
      | (with_reducible exact LeO.none _)
      | (with_reducible refine LeO.ite ?_ ?_)
      | (with_reducible refine LeO.bind ?_ (fun _ => ?_))
      | exact api_Word_30.mono _ _ _
      | exact words_Right.mono _ _
      | exact words_Split.mono _ _
      | exact LeO.none _
      | refine LeO.ite ?_ ?_
      | refine LeO.bind ?_ (fun _ => ?_)
set_option maxHeartbeats 8000000 in
set_option maxRecDepth 100000 in
theorem newellaw05_awake.calls (k : Nat)  (r : Bool) (w : World) (hG : Glob w) (h : newellaw05_awake.f k  = some r) :
    Calls Tryd.prog 27 #[] w fun e w' => e = .returned (.bool r) ∧ Below w.heap.size w w' := by
  have hu38 := Tryd.underlying38
  have HG := Aside0.mk hG
  clear hG
  have HB := Aside0.mk (Below.refl w.heap.size w)
  have H : ((words_Right.f k (⟨#[49]⟩ : ByteArray)).bind fun t178 => (if t178 = true then ((words_Right.f k (⟨#[]⟩ : ByteArray)).bind fun t179 => (if t179 = true then (some false) else ((words_Split.f k (⟨#[49, 46, 48, 45, 97, 108, 112, 104, 97, 49]⟩ : ByteArray)).bind fun t180 => ((api_Word_30.f k t180 (([(⟨10, (⟨#[49]⟩ : ByteArray)⟩ : S38), (⟨1, (⟨#[]⟩ : ByteArray)⟩ : S38), (⟨9, (⟨#[49]⟩ : ByteArray)⟩ : S38)] : List (S38)))).bind fun t186 => (some t186))))) else (some false))) = some r := h
  clear h
  replace H := Option.bind_eq_some_iff.mp H
  obtain ⟨t178, A10, H⟩ := H
  replace H : (if t178 = true then ((words_Right.f k (⟨#[]⟩ : ByteArray)).bind fun t179 => (if t179 = true then (some false) else ((words_Split.f k (⟨#[49, 46, 48, 45, 97, 108, 112, 104, 97, 49]⟩ : ByteArray)).bind fun t180 => ((api_Word_30.f k t180 (([(⟨10, (⟨#[49]⟩ : ByteArray)⟩ : S38), (⟨1, (⟨#[]⟩ : ByteArray)⟩ : S38), (⟨9, (⟨#[49]⟩ : ByteArray)⟩ : S38)] : List (S38)))).bind fun t186 => (some t186))))) else (some false)) = some r := H
  have A1 := Aside0.mk A10
  clear A10
  by_cases c2 : t178 = true
  · subst c2
    have H1 : ((words_Right.f k (⟨#[]⟩ : ByteArray)).bind fun t179 => (if t179 = true then (some false) else ((words_Split.f k (⟨#[49, 46, 48, 45, 97, 108, 112, 104, 97, 49]⟩ : ByteArray)).bind fun t180 => ((api_Word_30.f k t180 (([(⟨10, (⟨#[49]⟩ : ByteArray)⟩ : S38), (⟨1, (⟨#[]⟩ : ByteArray)⟩ : S38), (⟨9, (⟨#[49]⟩ : ByteArray)⟩ : S38)] : List (S38)))).bind fun t186 => (some t186))))) = some r := by rw [if_pos rfl] at H; exact H
    clear H
    have H := H1
    clear H1
    replace H := Option.bind_eq_some_iff.mp H
    obtain ⟨t179, A30, H⟩ := H
    replace H : (if t179 = true then (some false) else ((words_Split.f k (⟨#[49, 46, 48, 45, 97, 108, 112, 104, 97, 49]⟩ : ByteArray)).bind fun t180 => ((api_Word_30.f k t180 (([(⟨10, (⟨#[49]⟩ : ByteArray)⟩ : S38), (⟨1, (⟨#[]⟩ : ByteArray)⟩ : S38), (⟨9, (⟨#[49]⟩ : ByteArray)⟩ : S38)] : List (S38)))).bind fun t186 => (some t186)))) = some r := H
    have A3 := Aside0.mk A30
    clear A30
    by_cases c4 : t179 = true
    · subst c4
      have H1 : (some false) = some r := by rw [if_pos rfl] at H; exact H
      clear H
      have H := H1
      clear H1
      obtain rfl := Option.some.inj H
      go_enter Tryd.func27, Tryd.ntmps27
      go_wp2_with (first | ((with_reducible refine gate_callee (f := 28) rfl ?_); refine goesL_ (some 1) rfl rfl Tryd.func28 (by kernel_rfl) rfl #[.string (⟨#[49]⟩ : ByteArray)] rfl (by (try simp only [List.map_toArray, List.map_cons, List.map_nil]); first | done | rfl | (simp only [List.length_drop, List.length_take]; rfl)) ?_; (with_reducible refine (words_Right.calls k (⟨#[49]⟩ : ByteArray) true _ ?side1 A1.out).mono ?_); (case side1 => exact Glob.step HG.out (by repeat (first | (with_reducible first | exact HB.out | apply below_alloc | apply pw_below_drewN | apply below_drew1) | exact HB.out))); rintro e w5 ⟨rfl, hb⟩; refine ⟨_, rfl, ?_⟩; have n0_ := Aside0.mk (below_step (by repeat (first | (with_reducible first | exact HB.out | apply below_alloc | apply pw_below_drewN | apply below_drew1) | exact HB.out)) hb); clear HB; have HB := n0_; clear n0_; (try clear hb); (try clear hb2); (try clear hk); (try clear hi)) | (go_at_call 28; (with_reducible refine (words_Right.calls k (⟨#[]⟩ : ByteArray) true _ ?side1 A3.out).mono ?_); (case side1 => exact Glob.step HG.out (by repeat (first | (with_reducible first | exact HB.out | apply below_alloc | apply pw_below_drewN | apply below_drew1) | exact HB.out))); rintro e w6 ⟨rfl, hb⟩; have n0_ := Aside0.mk (below_step (by repeat (first | (with_reducible first | exact HB.out | apply below_alloc | apply pw_below_drewN | apply below_drew1) | exact HB.out)) hb); clear HB; have HB := n0_; clear n0_; (try clear hb); (try clear hb2); (try clear hk); (try clear hi)))
      go_ret
      exact ⟨by first | rfl | (simp [errW_none, errW_some] <;> rfl) | (simp [*, errW_none, errW_some] <;> rfl), by repeat (first | (with_reducible first | exact HB.out | apply below_alloc | apply pw_below_drewN | apply below_drew1) | exact HB.out)⟩
    · replace c4 := Bool.eq_false_iff.mpr c4
      subst c4
      have H1 : ((words_Split.f k (⟨#[49, 46, 48, 45, 97, 108, 112, 104, 97, 49]⟩ : ByteArray)).bind fun t180 => ((api_Word_30.f k t180 (([(⟨10, (⟨#[49]⟩ : ByteArray)⟩ : S38), (⟨1, (⟨#[]⟩ : ByteArray)⟩ : S38), (⟨9, (⟨#[49]⟩ : ByteArray)⟩ : S38)] : List (S38)))).bind fun t186 => (some t186))) = some r := by rw [if_neg (show ¬ (false = true) by decide)] at H; exact H
      clear H
      have H := H1
      clear H1
      replace H := Option.bind_eq_some_iff.mp H
      obtain ⟨t180, A70, H⟩ := H
      replace H : ((api_Word_30.f k t180 (([(⟨10, (⟨#[49]⟩ : ByteArray)⟩ : S38), (⟨1, (⟨#[]⟩ : ByteArray)⟩ : S38), (⟨9, (⟨#[49]⟩ : ByteArray)⟩ : S38)] : List (S38)))).bind fun t186 => (some t186)) = some r := H
      have A7 := Aside0.mk A70
      clear A70
      obtain ⟨y183, hy183⟩ : ∃ y_ : List (S38), y_ = (([(⟨10, (⟨#[49]⟩ : ByteArray)⟩ : S38), (⟨1, (⟨#[]⟩ : ByteArray)⟩ : S38), (⟨9, (⟨#[49]⟩ : ByteArray)⟩ : S38)] : List (S38))) := ⟨_, rfl⟩
      replace H : ((api_Word_30.f k t180 y183).bind fun t186 => (some t186)) = some r := by first | (rw [hy183]; with_reducible exact H) | (have H2_ := (Option.bind_some _ _).symm.trans H; rw [hy183]; with_reducible exact H2_) | (have H2_ := (Option.bind_some _ _).symm.trans H; with_reducible exact H2_) | with_reducible exact H | (rw [hy183]; exact H) | exact H
      have Ny183 := Aside0.mk hy183
      clear hy183
      replace H := Option.bind_eq_some_iff.mp H
      obtain ⟨t186, A80, H⟩ := H
      replace H : (some t186) = some r := H
      have A8 := Aside0.mk A80
      clear A80
      obtain rfl := Option.some.inj H
      go_enter Tryd.func27, Tryd.ntmps27
      go_wp2_with (first | ((with_reducible refine gate_callee (f := 28) rfl ?_); refine goesL_ (some 1) rfl rfl Tryd.func28 (by kernel_rfl) rfl #[.string (⟨#[49]⟩ : ByteArray)] rfl (by (try simp only [List.map_toArray, List.map_cons, List.map_nil]); first | done | rfl | (simp only [List.length_drop, List.length_take]; rfl)) ?_; (with_reducible refine (words_Right.calls k (⟨#[49]⟩ : ByteArray) true _ ?side1 A1.out).mono ?_); (case side1 => exact Glob.step HG.out (by repeat (first | (with_reducible first | exact HB.out | apply below_alloc | apply pw_below_drewN | apply below_drew1) | exact HB.out))); rintro e w9 ⟨rfl, hb⟩; refine ⟨_, rfl, ?_⟩; have n0_ := Aside0.mk (below_step (by repeat (first | (with_reducible first | exact HB.out | apply below_alloc | apply pw_below_drewN | apply below_drew1) | exact HB.out)) hb); clear HB; have HB := n0_; clear n0_; (try clear hb); (try clear hb2); (try clear hk); (try clear hi)) | (go_at_call 28; (with_reducible refine (words_Right.calls k (⟨#[]⟩ : ByteArray) false _ ?side1 A3.out).mono ?_); (case side1 => exact Glob.step HG.out (by repeat (first | (with_reducible first | exact HB.out | apply below_alloc | apply pw_below_drewN | apply below_drew1) | exact HB.out))); rintro e w10 ⟨rfl, hb⟩; have n0_ := Aside0.mk (below_step (by repeat (first | (with_reducible first | exact HB.out | apply below_alloc | apply pw_below_drewN | apply below_drew1) | exact HB.out)) hb); clear HB; have HB := n0_; clear n0_; (try clear hb); (try clear hb2); (try clear hk); (try clear hi)) | (go_at_call 31; (with_reducible refine (words_Split.calls k (⟨#[49, 46, 48, 45, 97, 108, 112, 104, 97, 49]⟩ : ByteArray) t180 _ ?side1 A7.out).mono ?_); (case side1 => exact Glob.step HG.out (by repeat (first | (with_reducible first | exact HB.out | apply below_alloc | apply pw_below_drewN | apply below_drew1) | exact HB.out))); rintro e w11 ⟨v181, rfl, ho0, hb⟩; have n0_ := Aside0.mk (Kd.R_lower ho0 (below_size (by repeat (first | (with_reducible first | exact HB.out | apply below_alloc | apply pw_below_drewN | apply below_drew1) | exact HB.out)))); have n1_ := Aside0.mk (below_step (by repeat (first | (with_reducible first | exact HB.out | apply below_alloc | apply pw_below_drewN | apply below_drew1) | exact HB.out)) hb); clear HB; have HO182 := n0_; have HB := n1_; clear n0_ n1_; (try clear hb); (try clear hb2); (try clear hk); (try clear hi); (try clear ho0)) | ((with_reducible refine gate_dst (N := 11) rfl ?_); (try (refine gate_guard (by rfl) ?_; dsimp only)); refine Kd.R_lit k38 _ 38 ?hg (N := 11) ?hd (xs := ([(⟨10, (⟨#[49]⟩ : ByteArray)⟩ : S38), (⟨1, (⟨#[]⟩ : ByteArray)⟩ : S38), (⟨9, (⟨#[49]⟩ : ByteArray)⟩ : S38)] : List (S38))) (inner := [.int .i64 10, .string (⟨#[49]⟩ : ByteArray), .int .i64 1, .string (⟨#[]⟩ : ByteArray), .int .i64 9, .string (⟨#[49]⟩ : ByteArray)]) (ok := fun _ => True) (okp := fun _ => True) ?hr ?hp (fun _ hk => hk) trivial (Below.refl _ _) (Nat.le_refl _) (by simp) ?_; (case hd => rfl); (case hg => rfl); (case hr => first | (go_simp; done) | (go_simp; rfl)); (case hp => exact (Reps.c2 (show Kd.M k38 _ _ _ (⟨10, (⟨#[49]⟩ : ByteArray)⟩ : S38) [.int .i64 10, .string (⟨#[49]⟩ : ByteArray)] from (k38_mkM _ _ _ (⟨10, (⟨#[49]⟩ : ByteArray)⟩ : S38) )) (Reps.c2 (show Kd.M k38 _ _ _ (⟨1, (⟨#[]⟩ : ByteArray)⟩ : S38) [.int .i64 1, .string (⟨#[]⟩ : ByteArray)] from (k38_mkM _ _ _ (⟨1, (⟨#[]⟩ : ByteArray)⟩ : S38) )) (Reps.c2 (show Kd.M k38 _ _ _ (⟨9, (⟨#[49]⟩ : ByteArray)⟩ : S38) [.int .i64 9, .string (⟨#[49]⟩ : ByteArray)] from (k38_mkM _ _ _ (⟨9, (⟨#[49]⟩ : ByteArray)⟩ : S38) )) (Reps.none _ _))))); intro v184 w12 ho13 hb hg_ hnew_; clear hg_ hnew_; (first | rw [← Ny183.out] at ho13 | (simp only [Int.reduceToNat] at ho13; rw [← Ny183.out] at ho13)); have n0_ := Aside0.mk (Kd.R_elder' (by (with_reducible repeat (first | apply Kd.R_alloc | apply Kd.R_drewN | apply Kd.R_drew)); exact HO182.out) (Kd.R_base ho13) hb); have n1_ := Aside0.mk (Kd.R_lower (Kd.R_new' ho13 (Kd.R_lt (by (with_reducible repeat (first | apply Kd.R_alloc | apply Kd.R_drewN | apply Kd.R_drew)); exact HO182.out))) (below_size (by repeat (first | (with_reducible first | exact HB.out | apply below_alloc | apply pw_below_drewN | apply below_drew1) | exact HB.out)))); have n2_ := Aside0.mk (below_step (by repeat (first | (with_reducible first | exact HB.out | apply below_alloc | apply pw_below_drewN | apply below_drew1) | exact HB.out)) hb); clear HO182; clear HB; have HO182 := n0_; have HO185 := n1_; have HB := n2_; clear n0_ n1_ n2_; clear hb ho13; obtain ⟨Ao14, co14, eo14⟩ := Kd.R_slice HO182.out; subst eo14; obtain ⟨Ao15, co15, eo15⟩ := Kd.R_slice HO185.out; subst eo15) | (go_at_call 30; (with_reducible refine (api_Word_30.calls k _ _ t180 _ _ y183 t186 _ ?side1 ?side2 ?side3 ?side4 ?side5 A8.out).mono ?_); (case side1 => repeat (first | exact (Kd.R_reads' HO182.out).2.2 | (with_reducible refine Kd.C_alloc ?_ _) | (with_reducible refine Kd.C_drewN ?_ _) | (with_reducible refine Kd.C_drew ?_))); (case side2 => exact (Kd.R_reads' HO182.out).2.1); (case side3 => repeat (first | exact (Kd.R_reads' HO185.out).2.2 | (with_reducible refine Kd.C_alloc ?_ _) | (with_reducible refine Kd.C_drewN ?_ _) | (with_reducible refine Kd.C_drew ?_))); (case side4 => exact (Kd.R_reads' HO185.out).2.1); (case side5 => exact Glob.step HG.out (by repeat (first | (with_reducible first | exact HB.out | apply below_alloc | apply pw_below_drewN | apply below_drew1) | exact HB.out))); rintro e w16 ⟨rfl, hb⟩; have n0_ := Aside0.mk (Kd.R_below (by (with_reducible repeat (first | apply Kd.R_alloc | apply Kd.R_drewN | apply Kd.R_drew)); exact HO182.out) hb); have n1_ := Aside0.mk (Kd.R_below (by (with_reducible repeat (first | apply Kd.R_alloc | apply Kd.R_drewN | apply Kd.R_drew)); exact HO185.out) hb); have n2_ := Aside0.mk (below_step (by repeat (first | (with_reducible first | exact HB.out | apply below_alloc | apply pw_below_drewN | apply below_drew1) | exact HB.out)) hb); clear HO182; clear HO185; clear HB; have HO182 := n0_; have HO185 := n1_; have HB := n2_; clear n0_ n1_ n2_; (try clear hb); (try clear hb2); (try clear hk); (try clear hi)))
      go_ret
      exact ⟨by first | rfl | (simp [errW_none, errW_some] <;> rfl) | (simp [*, errW_none, errW_some] <;> rfl), by repeat (first | (with_reducible first | exact HB.out | apply below_alloc | apply pw_below_drewN | apply below_drew1) | exact HB.out)⟩
  · replace c2 := Bool.eq_false_iff.mpr c2
    subst c2
    have H1 : (some false) = some r := by rw [if_neg (show ¬ (false = true) by decide)] at H; exact H
    clear H
    have H := H1
    clear H1
    obtain rfl := Option.some.inj H
    go_enter Tryd.func27, Tryd.ntmps27
    go_wp2_with (first | ((with_reducible refine gate_callee (f := 28) rfl ?_); refine goesL_ (some 1) rfl rfl Tryd.func28 (by kernel_rfl) rfl #[.string (⟨#[49]⟩ : ByteArray)] rfl (by (try simp only [List.map_toArray, List.map_cons, List.map_nil]); first | done | rfl | (simp only [List.length_drop, List.length_take]; rfl)) ?_; (with_reducible refine (words_Right.calls k (⟨#[49]⟩ : ByteArray) false _ ?side1 A1.out).mono ?_); (case side1 => exact Glob.step HG.out (by repeat (first | (with_reducible first | exact HB.out | apply below_alloc | apply pw_below_drewN | apply below_drew1) | exact HB.out))); rintro e w17 ⟨rfl, hb⟩; refine ⟨_, rfl, ?_⟩; have n0_ := Aside0.mk (below_step (by repeat (first | (with_reducible first | exact HB.out | apply below_alloc | apply pw_below_drewN | apply below_drew1) | exact HB.out)) hb); clear HB; have HB := n0_; clear n0_; (try clear hb); (try clear hb2); (try clear hk); (try clear hi)))
    go_ret
    exact ⟨by first | rfl | (simp [errW_none, errW_some] <;> rfl) | (simp [*, errW_none, errW_some] <;> rfl), by repeat (first | (with_reducible first | exact HB.out | apply below_alloc | apply pw_below_drewN | apply below_drew1) | exact HB.out)⟩

end Go.Proofs.YtgdjfcmmpjcaaaaDoor.Q
