/- CoordKeys: for every input the law answers true, and each argument reads as it did -/
import Derived.Test.YtgdjfcmmpjcaaaaDoorRows
import Derived.Test.YtgdjfcmmpjcaaaaDoorBCoordKeys
import Derived.Test.YtgdjfcmmpjcaaaaDoorPureCoordKeys
import Derived.Test.YtgdjfcmmpjcaaaaDoorCards
import Derived.Test.YtgdjfcmmpjcaaaaDoorTie
import Derived.WalkKit
import Derived.ProofKit
import Derived.OpenShut
import Derived.ShutString
import Derived.ChangeOld
import Derived.Below
import Derived.SizedLaws
import Derived.Deep.DeepHandedRow
import Derived.Shelf.Vars
import Derived.LaidLaws
namespace Go.Proofs.YtgdjfcmmpjcaaaaDoor.coordKeys
open Go.ChangeShapes Go.WideShapes Go.ChangeAt Go.RowKit Go.Proofs.YtgdjfcmmpjcaaaaDoor.Q Go.Proofs.YtgdjfcmmpjcaaaaDoorW.PrintWords Go.Proofs.YtgdjfcmmpjcaaaaDoorW.Own
open Go.ChangeMaps (open_string shut_string)
set_option linter.unusedVariables false
theorem own : ownKnob Tryd.prog.godebug = none := by kernel_rfl
theorem laidOut : laidOutB Tryd.prog = true := by kernel_rfl
set_option maxHeartbeats 1000000 in
set_option maxRecDepth 100000 in
theorem contract (H : Type) (enc : TypeId × Value → H) (W : World) (base : Nat) (args : Array Value) (ds gs : List (DataW H)) (before : List MemPlace)
    (hval0 : ∀ (j : Nat) t v, Tryd.f3.params[j]? = some t → args[j]? = some v → Value.okWide Tryd.prog W .any base t v)
    (hW : DataW.Whole enc Tryd.prog Tryd.f3.params.toList Rows.coordKeysSpec.vars false W args.toList ds gs before)
    (hsz0 : (DataW.weightsEach Tryd.prog (Tryd.f3.params.toList ++ Rows.coordKeysSpec.plain.varTypes Tryd.prog) (ds ++ gs)).all (· ≤ reachBytes) = true) (hG : Glob W) :
    Calls Tryd.prog 3 args W fun e W' => ∃ v, e = .returned v ∧ Rows.coordKeysSpec.post enc Tryd.prog Tryd.f3 false true false false W args v W' := by
  have hsz : (DataW.weightsEach Tryd.prog (Tryd.f3.params.toList ++ Rows.coordKeysSpec.plain.varTypes Tryd.prog) (ds ++ gs)).all (· ≤ reachBytes) = true := hsz0
  have hval : ∀ (j : Nat) t v, Tryd.f3.params[j]? = some t → args[j]? = some v → Value.okWide Tryd.prog W .any base t v := hval0
  have hW' := hW
  obtain ⟨p, q, hA0, hV, rfl, hfz, hnd⟩ := hW
  have hA : DataW.TrodAll enc Tryd.prog W 0 (fun _ => true) true Tryd.f3.params.toList args.toList ds p := hA0
  rw [Tryd.params3] at hA hval hsz
  obtain ⟨v0, vs0, d0, ds0, p0, q0, hargs, rfl, rfl, h0, r0⟩ := trodAll_cons hA
  obtain ⟨v1, vs1, d1, ds1, p1, q1, rfl, rfl, rfl, h1, r1⟩ := trodAll_cons r0
  obtain ⟨rfl, rfl, rfl⟩ := trodAll_nil r1
  obtain rfl : args = #[v0, v1] := by cases args; simp_all
  obtain ⟨rfl, rfl⟩ := trodVars_none hV
  have z0 := h0
  have lt0 : ∀ x ∈ p0, x.block < W.heap.size := by obtain ⟨m, hm⟩ := z0; exact DataW.trod_lt m _ _ _ hm
  obtain ⟨cs0, rfl, hcs0⟩ := okWide_struct Tryd.underlying24 (hval 0 24 v0 rfl rfl)
  obtain ⟨m0, rfl⟩ : ∃ m : List Value, cs0 = m.toArray := ⟨cs0.toList, by simp⟩
  obtain ⟨fu0, hf0⟩ := h0
  obtain ⟨x0, K0, wf0, b0⟩ := opensP24.2 H enc W fu0 _ _ _ hf0
  have K0' : _ := K0
  rw [show (Value.agg m0.toArray).cells.toList = m0 from rfl] at K0'
  obtain ⟨cj0_0, cr0_0, rfl, hj0_0, kr0_0⟩ := K0'
  obtain rfl : cj0_0 = [.string (x0.1)] := hj0_0
  obtain ⟨cj0_1, cr0_1, rfl, hj0_1, kr0_1⟩ := kr0_0
  obtain rfl : cj0_1 = [.string (x0.2.1)] := hj0_1
  obtain ⟨cj0_2, cr0_2, rfl, hj0_2, kr0_2⟩ := kr0_1
  obtain rfl : cj0_2 = [.string (x0.2.2.1)] := hj0_2
  obtain ⟨cj0_3, cr0_3, rfl, hj0_3, kr0_3⟩ := kr0_2
  obtain rfl : cj0_3 = [.string (x0.2.2.2.1)] := hj0_3
  obtain ⟨cj0_4, cr0_4, rfl, hj0_4, kr0_4⟩ := kr0_3
  obtain rfl : cj0_4 = [.string (x0.2.2.2.2.1)] := hj0_4
  obtain ⟨cj0_5, cr0_5, rfl, hj0_5, kr0_5⟩ := kr0_4
  obtain rfl : cj0_5 = [.string (x0.2.2.2.2.2.1)] := hj0_5
  obtain ⟨cj0_6, cr0_6, rfl, hj0_6, kr0_6⟩ := kr0_5
  obtain rfl : cj0_6 = [.bool (x0.2.2.2.2.2.2.1)] := hj0_6
  obtain ⟨A0_7, c0_7, rfl, hc0_7, hr0_7⟩ := kr0_6
  have z1 := h1
  have lt1 : ∀ x ∈ p1, x.block < W.heap.size := by obtain ⟨m, hm⟩ := z1; exact DataW.trod_lt m _ _ _ hm
  obtain ⟨cs1, rfl, hcs1⟩ := okWide_struct Tryd.underlying24 (hval 1 24 v1 rfl rfl)
  obtain ⟨m1, rfl⟩ : ∃ m : List Value, cs1 = m.toArray := ⟨cs1.toList, by simp⟩
  obtain ⟨fu1, hf1⟩ := h1
  obtain ⟨x1, K1, wf1, b1⟩ := opensP24.2 H enc W fu1 _ _ _ hf1
  have K1' : _ := K1
  rw [show (Value.agg m1.toArray).cells.toList = m1 from rfl] at K1'
  obtain ⟨cj1_0, cr1_0, rfl, hj1_0, kr1_0⟩ := K1'
  obtain rfl : cj1_0 = [.string (x1.1)] := hj1_0
  obtain ⟨cj1_1, cr1_1, rfl, hj1_1, kr1_1⟩ := kr1_0
  obtain rfl : cj1_1 = [.string (x1.2.1)] := hj1_1
  obtain ⟨cj1_2, cr1_2, rfl, hj1_2, kr1_2⟩ := kr1_1
  obtain rfl : cj1_2 = [.string (x1.2.2.1)] := hj1_2
  obtain ⟨cj1_3, cr1_3, rfl, hj1_3, kr1_3⟩ := kr1_2
  obtain rfl : cj1_3 = [.string (x1.2.2.2.1)] := hj1_3
  obtain ⟨cj1_4, cr1_4, rfl, hj1_4, kr1_4⟩ := kr1_3
  obtain rfl : cj1_4 = [.string (x1.2.2.2.2.1)] := hj1_4
  obtain ⟨cj1_5, cr1_5, rfl, hj1_5, kr1_5⟩ := kr1_4
  obtain rfl : cj1_5 = [.string (x1.2.2.2.2.2.1)] := hj1_5
  obtain ⟨cj1_6, cr1_6, rfl, hj1_6, kr1_6⟩ := kr1_5
  obtain rfl : cj1_6 = [.bool (x1.2.2.2.2.2.2.1)] := hj1_6
  obtain ⟨A1_7, c1_7, rfl, hc1_7, hr1_7⟩ := kr1_6
  obtain ⟨k, hp⟩ := Pure.CoordKeys (x0.1) (x0.2.1) (x0.2.2.1) (x0.2.2.2.1) (x0.2.2.2.2.1) (x0.2.2.2.2.2.1) (x0.2.2.2.2.2.2.1) (x0.2.2.2.2.2.2.2) (x1.1) (x1.2.1) (x1.2.2.1) (x1.2.2.2.1) (x1.2.2.2.2.1) (x1.2.2.2.2.2.1) (x1.2.2.2.2.2.2.1) (x1.2.2.2.2.2.2.2) wf0.1 wf0.2.1 wf0.2.2.1 wf0.2.2.2.1 wf0.2.2.2.2.1 wf0.2.2.2.2.2.1 wf0.2.2.2.2.2.2.2 wf1.1 wf1.2.1 wf1.2.2.1 wf1.2.2.2.1 wf1.2.2.2.2.1 wf1.2.2.2.2.2.1 wf1.2.2.2.2.2.2.2
  refine (newellaw09_CoordKeys.calls k (x0.1) (x0.2.1) (x0.2.2.1) (x0.2.2.2.1) (x0.2.2.2.2.1) (x0.2.2.2.2.2.1) (x0.2.2.2.2.2.2.1) A0_7 c0_7 (x0.2.2.2.2.2.2.2) (x1.1) (x1.2.1) (x1.2.2.1) (x1.2.2.2.1) (x1.2.2.2.2.1) (x1.2.2.2.2.2.1) (x1.2.2.2.2.2.2.1) A1_7 c1_7 (x1.2.2.2.2.2.2.2) true W hr0_7 hc0_7 hr1_7 hc1_7 hG hp).mono fun e W' ⟨he, bel0⟩ => ?_
  have bel : Below W.heap.size W W' := bel0
  subst he
  exact ⟨_, rfl, _, _, _, [], _, [], hW', trodAll_mk1 (shut_bool Tryd.underlying4 _), (trodAll_cons_mk (Below.trod laidOut (by kernel_rfl) (of_decide_eq_true (by kernel_rfl)) z0 bel lt0) (trodAll_cons_mk (Below.trod laidOut (by kernel_rfl) (of_decide_eq_true (by kernel_rfl)) z1 bel lt1) trodAll_mk0)), rfl, bel.frame _, fun h => by cases h⟩
noncomputable def laidWorld (os : Os) : World :=
  { World.holding Tryd.prog os ⟨#[], #[], []⟩ with heap := (((World.holding Tryd.prog os ⟨#[], #[], []⟩).heap.modify 1 fun
      | .cells _ t frozen => .cells (Go.Pinned.utf8FirstZ.map fun (n : Nat) => Value.int .u8 (n : Int)).toArray t frozen
      | o => o).modify 2 fun
      | .cells _ t frozen => .cells #[.int .u8 128, .int .u8 191, .int .u8 160, .int .u8 191, .int .u8 128, .int .u8 159, .int .u8 144, .int .u8 191, .int .u8 128, .int .u8 143, .int .u8 0, .int .u8 0, .int .u8 0, .int .u8 0, .int .u8 0, .int .u8 0, .int .u8 0, .int .u8 0, .int .u8 0, .int .u8 0, .int .u8 0, .int .u8 0, .int .u8 0, .int .u8 0, .int .u8 0, .int .u8 0, .int .u8 0, .int .u8 0, .int .u8 0, .int .u8 0, .int .u8 0, .int .u8 0] t frozen
      | o => o) }
theorem laid_met (os : Os) : laidMet Tryd.prog Rows.coordKeysRow.laid ((laidWorld os).forCall (fun _ _ => 0) ⟨#[], #[.agg #[.string ByteArray.empty, .string ByteArray.empty, .string ByteArray.empty, .string ByteArray.empty, .string ByteArray.empty, .string ByteArray.empty, .bool false, .slice none 0 0], .agg #[.string ByteArray.empty, .string ByteArray.empty, .string ByteArray.empty, .string ByteArray.empty, .string ByteArray.empty, .string ByteArray.empty, .bool false, .slice none 0 0]], []⟩).memory :=
  laidMet_of_run' 8 (by kernel_rfl) (by kernel_rfl)
theorem reads (os : Os) {H : Type} (enc : TypeId × Value → H) : ∃ places, DataW.whole enc Tryd.prog ((laidWorld os).forCall (fun _ _ => 0) ⟨#[], #[.agg #[.string ByteArray.empty, .string ByteArray.empty, .string ByteArray.empty, .string ByteArray.empty, .string ByteArray.empty, .string ByteArray.empty, .bool false, .slice none 0 0], .agg #[.string ByteArray.empty, .string ByteArray.empty, .string ByteArray.empty, .string ByteArray.empty, .string ByteArray.empty, .string ByteArray.empty, .bool false, .slice none 0 0]], []⟩).memory Tryd.f3.params.toList Rows.coordKeysSpec.vars false (#[.agg #[.string ByteArray.empty, .string ByteArray.empty, .string ByteArray.empty, .string ByteArray.empty, .string ByteArray.empty, .string ByteArray.empty, .bool false, .slice none 0 0], .agg #[.string ByteArray.empty, .string ByteArray.empty, .string ByteArray.empty, .string ByteArray.empty, .string ByteArray.empty, .string ByteArray.empty, .bool false, .slice none 0 0]] : Array Value).toList 8 = some ([.agg [.lit (.string []), .lit (.string []), .lit (.string []), .lit (.string []), .lit (.string []), .lit (.string []), .lit (.bool false), .nil], .agg [.lit (.string []), .lit (.string []), .lit (.string []), .lit (.string []), .lit (.string []), .lit (.string []), .lit (.bool false), .nil]], [], places) :=
  ⟨[], by kernel_rfl⟩
set_option maxRecDepth 100000 in
theorem lifted (os : Os) (started : os.Started) (H : Type) (enc : TypeId × Value → H) (F : Stop.Interp) :
    ReturnsInHanded {} Tryd.checked os 3 .any ((OpenSpec.ofChange Rows.coordKeysSpec).preRow enc Tryd.prog Tryd.f3 Rows.coordKeysRow.domain false Rows.coordKeysRow.laid) (((OpenSpec.ofChange Rows.coordKeysSpec).at F).post enc Tryd.prog Tryd.f3 false true false false) := by
  obtain ⟨places, hx⟩ := reads os enc
  refine returnsInHanded_of_row (C := Tryd.checked) (s := (OpenSpec.ofChange Rows.coordKeysSpec)) own started (by kernel_rfl) Tryd.func3
    (witness_row_at (enc := enc) (C := Tryd.checked) false (laidWorld os) #[.agg #[.string ByteArray.empty, .string ByteArray.empty, .string ByteArray.empty, .string ByteArray.empty, .string ByteArray.empty, .string ByteArray.empty, .bool false, .slice none 0 0], .agg #[.string ByteArray.empty, .string ByteArray.empty, .string ByteArray.empty, .string ByteArray.empty, .string ByteArray.empty, .string ByteArray.empty, .bool false, .slice none 0 0]] rfl (by kernel_rfl) (by kernel_rfl) (by kernel_rfl)
      (OpenSpec.preRow_of_cond 8 hx (by kernel_rfl) (fun k hk => by cases hk) (by kernel_rfl) (laid_met os))) ?_
  intro W base args ds gs before hval hW _ hk hsz _ hsh _
  exact contract H enc W base args ds gs before hval hW hsz (Rd.glob hsh)
theorem said : Rows.CoordKeysSaid :=
  OpenClaim.holds_of_cond 3 Tryd.f3 rfl rfl rfl rfl rfl rfl rfl ⟨rfl, rfl, rfl, rfl, rfl⟩ rfl rfl rfl rfl rfl (by kernel_rfl) Tryd.func3 (by kernel_rfl)
    (of_decide_eq_true (by kernel_rfl)) (by unfold Func.isWrapper; first | (rw [if_pos (by decide +kernel)]; kernel_rfl) | (rw [if_neg (by decide +kernel)]; exact ⟨rfl, rfl⟩))
    (fun os started H enc _ F => by rw [OpenClaim.pre_eq_preRow]; exact lifted os started H enc F)
theorem plain (f : FuncId) (fn : Func) (hf : Tryd.pinned.checked.prog.funcNamed "newel/newellaw09.CoordKeys" = some f) (hfn : Tryd.pinned.checked.prog.funcs[f]? = some fn) :
    false = Tryd.pinned.checked.prog.looks [] ∧ ∀ (j : Nat) t, fn.params[j]? = some t → Tryd.pinned.checked.prog.wantsStandIn t = false := by
  obtain rfl : f = 3 := Option.some.inj ((show Tryd.prog.funcNamed "newel/newellaw09.CoordKeys" = some 3 by kernel_rfl).symm.trans hf) |>.symm
  obtain rfl : fn = Tryd.f3 := (Option.some.inj (Tryd.func3.symm.trans hfn)).symm
  refine ⟨by kernel_rfl, fun j t ht => ?_⟩
  rw [Tryd.params3] at ht
  have hm : t ∈ [24, 24] := by have := Array.mem_of_getElem? ht; simpa using this
  have hall : ([24, 24] : List TypeId).all (fun t => Tryd.prog.wantsStandIn t == false) = true := by kernel_rfl
  exact beq_iff_eq.1 (List.all_eq_true.1 hall t hm)
theorem card : Rows.CoordKeysCardSaid :=
  Claim7.holds_tied_plain_at .later [] _ _ _ _ said (fun _ h => by cases h) (by kernel_rfl) (fun _ h => by cases h) coordKeys_row_tie rfl ⟨rfl, rfl⟩ (by kernel_rfl) rfl plain (by kernel_rfl)
end Go.Proofs.YtgdjfcmmpjcaaaaDoor.coordKeys
namespace Go.Proofs.YtgdjfcmmpjcaaaaDoor
theorem coordKeys_holds : Rows.CoordKeysCardSaid := coordKeys.card
#print axioms coordKeys_holds
end Go.Proofs.YtgdjfcmmpjcaaaaDoor
