/- CoordTells: for every input the law answers true, and each argument reads as it did -/
import Derived.Test.YtgdjfcmmpjcaaaaDoorRows
import Derived.Test.YtgdjfcmmpjcaaaaDoorLawCoordTellsM5
import Derived.Test.YtgdjfcmmpjcaaaaDoorCards
import Derived.Test.YtgdjfcmmpjcaaaaDoorTie
import Derived.WalkKit
import Derived.ProofKit
import Derived.OpenShut
import Derived.ShutString
import Derived.ChangeOld
import Derived.Below
import Derived.SizedLaws
import Derived.Deep.DeepHandedRow
import Derived.Shelf.Vars
import Derived.LaidLaws
namespace Go.Proofs.YtgdjfcmmpjcaaaaDoor.coordTells
open Go.ChangeShapes Go.WideShapes Go.ChangeAt Go.RowKit Go.Proofs.YtgdjfcmmpjcaaaaDoor.Q Go.Proofs.YtgdjfcmmpjcaaaaDoorW.PrintWords Go.Proofs.YtgdjfcmmpjcaaaaDoorW.Own
open Go.ChangeMaps (open_string shut_string)
set_option linter.unusedVariables false
theorem own : ownKnob Tryd.prog.godebug = none := by kernel_rfl
theorem field_small {H : Type} {enc : TypeId × Value → H} {W : World} {n : Nat} {t : TypeId} {fs : Array Field} {cs : List Value} {dd : DataW H} {ps : List MemPlace} (hu : Tryd.prog.underlying t = some (.struct fs)) (h : DataW.trod enc Tryd.prog W 0 (fun _ => true) true n t cs = some (dd, ps))
    (i : Nat) (f : Field) (hf : fs[i]? = some f) (hs : Tryd.prog.underlying f.type = some .string) (hc : Tryd.prog.cellsOf f.type = 1) (s : ByteArray) (hcell : (cs.drop f.offset).take 1 = [.string s]) (hw : ∀ k ∈ dd.weights Tryd.prog t, k ≤ reachBytes) : s.size ≤ 140737488351232 := by
  obtain ⟨xs, m, rfl, hx, _, hlen, ht⟩ := DataW.trod_struct hu h
  have hi := ht i f hf
  rw [hc, hcell] at hi
  have hlt : i < xs.length := by rw [hlen]; exact (Array.getElem?_eq_some_iff.1 hf).1
  have hxi : xs[i]? = some xs[i] := List.getElem?_eq_getElem hlt
  rw [hxi] at hi
  obtain ⟨s', e, hx', _⟩ := DataW.trod_string hs hi
  obtain rfl : s = s' := by simpa using e
  obtain ⟨rfl, rfl⟩ := Prod.mk.inj hx
  have z := hw s.data.toList.length (by
    simp only [DataW.weights, hu]
    exact DataW.weights_mem_each (j := i) (t := f.type) (d := .lit (.string s.data.toList)) (by simp [hf]) (by simp [hxi, hx']) _ (by simp [DataW.weights]))
  rw [Array.length_toList] at z
  exact z
theorem laidOut : laidOutB Tryd.prog = true := by kernel_rfl
set_option maxHeartbeats 1000000 in
set_option maxRecDepth 100000 in
theorem contract (H : Type) (enc : TypeId × Value → H) (W : World) (base : Nat) (args : Array Value) (ds gs : List (DataW H)) (before : List MemPlace)
    (hval0 : ∀ (j : Nat) t v, Tryd.f11.params[j]? = some t → args[j]? = some v → Value.okWide Tryd.prog W .any base t v)
    (hW : DataW.Whole enc Tryd.prog Tryd.f11.params.toList Rows.coordTellsSpec.vars false W args.toList ds gs before)
    (hsz0 : (DataW.weightsEach Tryd.prog (Tryd.f11.params.toList ++ Rows.coordTellsSpec.plain.varTypes Tryd.prog) (ds ++ gs)).all (· ≤ reachBytes) = true) (hG : Glob W) :
    Calls Tryd.prog 11 args W fun e W' => ∃ v, e = .returned v ∧ Rows.coordTellsSpec.post enc Tryd.prog Tryd.f11 false true false false W args v W' := by
  have hsz : (DataW.weightsEach Tryd.prog (Tryd.f11.params.toList ++ Rows.coordTellsSpec.plain.varTypes Tryd.prog) (ds ++ gs)).all (· ≤ reachBytes) = true := hsz0
  have hval : ∀ (j : Nat) t v, Tryd.f11.params[j]? = some t → args[j]? = some v → Value.okWide Tryd.prog W .any base t v := hval0
  have hW' := hW
  obtain ⟨p, q, hA0, hV, rfl, hfz, hnd⟩ := hW
  have hA : DataW.TrodAll enc Tryd.prog W 0 (fun _ => true) true Tryd.f11.params.toList args.toList ds p := hA0
  rw [Tryd.params11] at hA hval hsz
  obtain ⟨v0, vs0, d0, ds0, p0, q0, hargs, rfl, rfl, h0, r0⟩ := trodAll_cons hA
  obtain ⟨v1, vs1, d1, ds1, p1, q1, rfl, rfl, rfl, h1, r1⟩ := trodAll_cons r0
  obtain ⟨v2, vs2, d2, ds2, p2, q2, rfl, rfl, rfl, h2, r2⟩ := trodAll_cons r1
  obtain ⟨v3, vs3, d3, ds3, p3, q3, rfl, rfl, rfl, h3, r3⟩ := trodAll_cons r2
  obtain ⟨rfl, rfl, rfl⟩ := trodAll_nil r3
  obtain rfl : args = #[v0, v1, v2, v3] := by cases args; simp_all
  obtain ⟨rfl, rfl⟩ := trodVars_none hV
  have z0 := h0
  have lt0 : ∀ x ∈ p0, x.block < W.heap.size := by obtain ⟨m, hm⟩ := z0; exact DataW.trod_lt m _ _ _ hm
  obtain ⟨a0, rfl, rfl, rfl, y0⟩ := open_string Tryd.underlying9 (hval 0 9 v0 rfl rfl) h0
  have w0 : a0.size ≤ 140737488351232 := by
    have z := sized_string hsz (j := 0) (t := 9) rfl rfl
    rw [Array.length_toList] at z
    exact z
  have z1 := h1
  have lt1 : ∀ x ∈ p1, x.block < W.heap.size := by obtain ⟨m, hm⟩ := z1; exact DataW.trod_lt m _ _ _ hm
  obtain ⟨cs1, rfl, hcs1⟩ := okWide_struct Tryd.underlying32 (hval 1 32 v1 rfl rfl)
  obtain ⟨m1, rfl⟩ : ∃ m : List Value, cs1 = m.toArray := ⟨cs1.toList, by simp⟩
  obtain ⟨fu1, hf1⟩ := h1
  obtain ⟨x1, K1, wf1, b1⟩ := opensP32.2 H enc W fu1 _ _ _ hf1
  have K1' : _ := K1
  rw [show (Value.agg m1.toArray).cells.toList = m1 from rfl] at K1'
  obtain ⟨cj1_0, cr1_0, rfl, hj1_0, kr1_0⟩ := K1'
  obtain rfl : cj1_0 = [.string (x1.1)] := hj1_0
  obtain ⟨cj1_1, cr1_1, rfl, hj1_1, kr1_1⟩ := kr1_0
  obtain rfl : cj1_1 = [.string (x1.2.1)] := hj1_1
  obtain rfl : cr1_1 = [.string (x1.2.2)] := kr1_1
  have z2 := h2
  have lt2 : ∀ x ∈ p2, x.block < W.heap.size := by obtain ⟨m, hm⟩ := z2; exact DataW.trod_lt m _ _ _ hm
  obtain ⟨cs2, rfl, hcs2⟩ := okWide_struct Tryd.underlying32 (hval 2 32 v2 rfl rfl)
  obtain ⟨m2, rfl⟩ : ∃ m : List Value, cs2 = m.toArray := ⟨cs2.toList, by simp⟩
  obtain ⟨fu2, hf2⟩ := h2
  obtain ⟨x2, K2, wf2, b2⟩ := opensP32.2 H enc W fu2 _ _ _ hf2
  have K2' : _ := K2
  rw [show (Value.agg m2.toArray).cells.toList = m2 from rfl] at K2'
  obtain ⟨cj2_0, cr2_0, rfl, hj2_0, kr2_0⟩ := K2'
  obtain rfl : cj2_0 = [.string (x2.1)] := hj2_0
  obtain ⟨cj2_1, cr2_1, rfl, hj2_1, kr2_1⟩ := kr2_0
  obtain rfl : cj2_1 = [.string (x2.2.1)] := hj2_1
  obtain rfl : cr2_1 = [.string (x2.2.2)] := kr2_1
  have z3 := h3
  have lt3 : ∀ x ∈ p3, x.block < W.heap.size := by obtain ⟨m, hm⟩ := z3; exact DataW.trod_lt m _ _ _ hm
  obtain ⟨cs3, rfl, hcs3⟩ := okWide_struct Tryd.underlying24 (hval 3 24 v3 rfl rfl)
  obtain ⟨m3, rfl⟩ : ∃ m : List Value, cs3 = m.toArray := ⟨cs3.toList, by simp⟩
  obtain ⟨fu3, hf3⟩ := h3
  obtain ⟨x3, K3, wf3, b3⟩ := opensP24.2 H enc W fu3 _ _ _ hf3
  have K3' : _ := K3
  rw [show (Value.agg m3.toArray).cells.toList = m3 from rfl] at K3'
  obtain ⟨cj3_0, cr3_0, rfl, hj3_0, kr3_0⟩ := K3'
  obtain rfl : cj3_0 = [.string (x3.1)] := hj3_0
  obtain ⟨cj3_1, cr3_1, rfl, hj3_1, kr3_1⟩ := kr3_0
  obtain rfl : cj3_1 = [.string (x3.2.1)] := hj3_1
  obtain ⟨cj3_2, cr3_2, rfl, hj3_2, kr3_2⟩ := kr3_1
  obtain rfl : cj3_2 = [.string (x3.2.2.1)] := hj3_2
  obtain ⟨cj3_3, cr3_3, rfl, hj3_3, kr3_3⟩ := kr3_2
  obtain rfl : cj3_3 = [.string (x3.2.2.2.1)] := hj3_3
  obtain ⟨cj3_4, cr3_4, rfl, hj3_4, kr3_4⟩ := kr3_3
  obtain rfl : cj3_4 = [.string (x3.2.2.2.2.1)] := hj3_4
  obtain ⟨cj3_5, cr3_5, rfl, hj3_5, kr3_5⟩ := kr3_4
  obtain rfl : cj3_5 = [.string (x3.2.2.2.2.2.1)] := hj3_5
  obtain ⟨cj3_6, cr3_6, rfl, hj3_6, kr3_6⟩ := kr3_5
  obtain rfl : cj3_6 = [.bool (x3.2.2.2.2.2.2.1)] := hj3_6
  obtain ⟨A3_7, c3_7, rfl, hc3_7, hr3_7⟩ := kr3_6
  have hw1 : ∀ n ∈ DataW.weights Tryd.prog 32 d1, n ≤ reachBytes := fun n hn => by have z := List.all_eq_true.1 hsz n (DataW.weights_mem_each (j := 1) (t := 32) rfl rfl n hn); simpa using z
  have fs1_0 : ByteArray.size _ ≤ 140737488351232 := field_small Tryd.underlying32 hf1 0 _ rfl Tryd.underlying9 (by kernel_rfl) (x1.1) rfl hw1
  have fs1_1 : ByteArray.size _ ≤ 140737488351232 := field_small Tryd.underlying32 hf1 1 _ rfl Tryd.underlying9 (by kernel_rfl) (x1.2.1) rfl hw1
  have fs1_2 : ByteArray.size _ ≤ 140737488351232 := field_small Tryd.underlying32 hf1 2 _ rfl Tryd.underlying9 (by kernel_rfl) (x1.2.2) rfl hw1
  have hw2 : ∀ n ∈ DataW.weights Tryd.prog 32 d2, n ≤ reachBytes := fun n hn => by have z := List.all_eq_true.1 hsz n (DataW.weights_mem_each (j := 2) (t := 32) rfl rfl n hn); simpa using z
  have fs2_0 : ByteArray.size _ ≤ 140737488351232 := field_small Tryd.underlying32 hf2 0 _ rfl Tryd.underlying9 (by kernel_rfl) (x2.1) rfl hw2
  have fs2_1 : ByteArray.size _ ≤ 140737488351232 := field_small Tryd.underlying32 hf2 1 _ rfl Tryd.underlying9 (by kernel_rfl) (x2.2.1) rfl hw2
  have fs2_2 : ByteArray.size _ ≤ 140737488351232 := field_small Tryd.underlying32 hf2 2 _ rfl Tryd.underlying9 (by kernel_rfl) (x2.2.2) rfl hw2
  have hw3 : ∀ n ∈ DataW.weights Tryd.prog 24 d3, n ≤ reachBytes := fun n hn => by have z := List.all_eq_true.1 hsz n (DataW.weights_mem_each (j := 3) (t := 24) rfl rfl n hn); simpa using z
  have fs3_0 : ByteArray.size _ ≤ 140737488351232 := field_small Tryd.underlying24 hf3 0 _ rfl Tryd.underlying9 (by kernel_rfl) (x3.1) rfl hw3
  have fs3_1 : ByteArray.size _ ≤ 140737488351232 := field_small Tryd.underlying24 hf3 1 _ rfl Tryd.underlying9 (by kernel_rfl) (x3.2.1) rfl hw3
  have fs3_2 : ByteArray.size _ ≤ 140737488351232 := field_small Tryd.underlying24 hf3 2 _ rfl Tryd.underlying9 (by kernel_rfl) (x3.2.2.1) rfl hw3
  have fs3_3 : ByteArray.size _ ≤ 140737488351232 := field_small Tryd.underlying24 hf3 3 _ rfl Tryd.underlying9 (by kernel_rfl) (x3.2.2.2.1) rfl hw3
  have fs3_4 : ByteArray.size _ ≤ 140737488351232 := field_small Tryd.underlying24 hf3 4 _ rfl Tryd.underlying9 (by kernel_rfl) (x3.2.2.2.2.1) rfl hw3
  have fs3_5 : ByteArray.size _ ≤ 140737488351232 := field_small Tryd.underlying24 hf3 5 _ rfl Tryd.underlying9 (by kernel_rfl) (x3.2.2.2.2.2.1) rfl hw3
  obtain ⟨k, hp⟩ := Pure.CoordTells a0 (x1.1) (x1.2.1) (x1.2.2) (x2.1) (x2.2.1) (x2.2.2) (x3.1) (x3.2.1) (x3.2.2.1) (x3.2.2.2.1) (x3.2.2.2.2.1) (x3.2.2.2.2.2.1) (x3.2.2.2.2.2.2.1) (x3.2.2.2.2.2.2.2) w0 fs1_0 fs1_1 fs1_2 fs2_0 fs2_1 fs2_2 fs3_0 fs3_1 fs3_2 fs3_3 fs3_4 fs3_5 wf3.2.2.2.2.2.2.2
  refine (newellaw09_CoordTells.calls k a0 (x1.1) (x1.2.1) (x1.2.2) (x2.1) (x2.2.1) (x2.2.2) (x3.1) (x3.2.1) (x3.2.2.1) (x3.2.2.2.1) (x3.2.2.2.2.1) (x3.2.2.2.2.2.1) (x3.2.2.2.2.2.2.1) A3_7 c3_7 (x3.2.2.2.2.2.2.2) true W hr3_7 hc3_7 hG hp rfl).mono fun e W' ⟨he, bel0⟩ => ?_
  have bel : Below W.heap.size W W' := bel0
  subst he
  exact ⟨_, rfl, _, _, _, [], _, [], hW', trodAll_mk1 (shut_bool Tryd.underlying4 _), (trodAll_cons_mk (Below.trod laidOut (by kernel_rfl) (of_decide_eq_true (by kernel_rfl)) z0 bel lt0) (trodAll_cons_mk (Below.trod laidOut (by kernel_rfl) (of_decide_eq_true (by kernel_rfl)) z1 bel lt1) (trodAll_cons_mk (Below.trod laidOut (by kernel_rfl) (of_decide_eq_true (by kernel_rfl)) z2 bel lt2) (trodAll_cons_mk (Below.trod laidOut (by kernel_rfl) (of_decide_eq_true (by kernel_rfl)) z3 bel lt3) trodAll_mk0)))), rfl, bel.frame _, fun h => by cases h⟩
noncomputable def laidWorld (os : Os) : World :=
  { World.holding Tryd.prog os ⟨#[], #[], []⟩ with heap := (((World.holding Tryd.prog os ⟨#[], #[], []⟩).heap.modify 1 fun
      | .cells _ t frozen => .cells (Go.Pinned.utf8FirstZ.map fun (n : Nat) => Value.int .u8 (n : Int)).toArray t frozen
      | o => o).modify 2 fun
      | .cells _ t frozen => .cells #[.int .u8 128, .int .u8 191, .int .u8 160, .int .u8 191, .int .u8 128, .int .u8 159, .int .u8 144, .int .u8 191, .int .u8 128, .int .u8 143, .int .u8 0, .int .u8 0, .int .u8 0, .int .u8 0, .int .u8 0, .int .u8 0, .int .u8 0, .int .u8 0, .int .u8 0, .int .u8 0, .int .u8 0, .int .u8 0, .int .u8 0, .int .u8 0, .int .u8 0, .int .u8 0, .int .u8 0, .int .u8 0, .int .u8 0, .int .u8 0, .int .u8 0, .int .u8 0] t frozen
      | o => o) }
theorem laid_met (os : Os) : laidMet Tryd.prog Rows.coordTellsRow.laid ((laidWorld os).forCall (fun _ _ => 0) ⟨#[], #[.string ByteArray.empty, .agg #[.string ByteArray.empty, .string ByteArray.empty, .string ByteArray.empty], .agg #[.string ByteArray.empty, .string ByteArray.empty, .string ByteArray.empty], .agg #[.string ByteArray.empty, .string ByteArray.empty, .string ByteArray.empty, .string ByteArray.empty, .string ByteArray.empty, .string ByteArray.empty, .bool false, .slice none 0 0]], []⟩).memory :=
  laidMet_of_run' 8 (by kernel_rfl) (by kernel_rfl)
theorem reads (os : Os) {H : Type} (enc : TypeId × Value → H) : ∃ places, DataW.whole enc Tryd.prog ((laidWorld os).forCall (fun _ _ => 0) ⟨#[], #[.string ByteArray.empty, .agg #[.string ByteArray.empty, .string ByteArray.empty, .string ByteArray.empty], .agg #[.string ByteArray.empty, .string ByteArray.empty, .string ByteArray.empty], .agg #[.string ByteArray.empty, .string ByteArray.empty, .string ByteArray.empty, .string ByteArray.empty, .string ByteArray.empty, .string ByteArray.empty, .bool false, .slice none 0 0]], []⟩).memory Tryd.f11.params.toList Rows.coordTellsSpec.vars false (#[.string ByteArray.empty, .agg #[.string ByteArray.empty, .string ByteArray.empty, .string ByteArray.empty], .agg #[.string ByteArray.empty, .string ByteArray.empty, .string ByteArray.empty], .agg #[.string ByteArray.empty, .string ByteArray.empty, .string ByteArray.empty, .string ByteArray.empty, .string ByteArray.empty, .string ByteArray.empty, .bool false, .slice none 0 0]] : Array Value).toList 8 = some ([.lit (.string []), .agg [.lit (.string []), .lit (.string []), .lit (.string [])], .agg [.lit (.string []), .lit (.string []), .lit (.string [])], .agg [.lit (.string []), .lit (.string []), .lit (.string []), .lit (.string []), .lit (.string []), .lit (.string []), .lit (.bool false), .nil]], [], places) :=
  ⟨[], by kernel_rfl⟩
set_option maxRecDepth 100000 in
theorem lifted (os : Os) (started : os.Started) (H : Type) (enc : TypeId × Value → H) (F : Stop.Interp) :
    ReturnsInHanded {} Tryd.checked os 11 .any ((OpenSpec.ofChange Rows.coordTellsSpec).preRow enc Tryd.prog Tryd.f11 Rows.coordTellsRow.domain false Rows.coordTellsRow.laid) (((OpenSpec.ofChange Rows.coordTellsSpec).at F).post enc Tryd.prog Tryd.f11 false true false false) := by
  obtain ⟨places, hx⟩ := reads os enc
  refine returnsInHanded_of_row (C := Tryd.checked) (s := (OpenSpec.ofChange Rows.coordTellsSpec)) own started (by kernel_rfl) Tryd.func11
    (witness_row_at (enc := enc) (C := Tryd.checked) false (laidWorld os) #[.string ByteArray.empty, .agg #[.string ByteArray.empty, .string ByteArray.empty, .string ByteArray.empty], .agg #[.string ByteArray.empty, .string ByteArray.empty, .string ByteArray.empty], .agg #[.string ByteArray.empty, .string ByteArray.empty, .string ByteArray.empty, .string ByteArray.empty, .string ByteArray.empty, .string ByteArray.empty, .bool false, .slice none 0 0]] rfl (by kernel_rfl) (by kernel_rfl) (by kernel_rfl)
      (OpenSpec.preRow_of_cond 8 hx (by kernel_rfl) (fun k hk => by cases hk) (by kernel_rfl) (laid_met os))) ?_
  intro W base args ds gs before hval hW _ hk hsz _ hsh _
  exact contract H enc W base args ds gs before hval hW hsz (Rd.glob hsh)
theorem said : Rows.CoordTellsSaid :=
  OpenClaim.holds_of_cond 11 Tryd.f11 rfl rfl rfl rfl rfl rfl rfl ⟨rfl, rfl, rfl, rfl, rfl⟩ rfl rfl rfl rfl rfl (by kernel_rfl) Tryd.func11 (by kernel_rfl)
    (of_decide_eq_true (by kernel_rfl)) (by unfold Func.isWrapper; first | (rw [if_pos (by decide +kernel)]; kernel_rfl) | (rw [if_neg (by decide +kernel)]; exact ⟨rfl, rfl⟩))
    (fun os started H enc _ F => by rw [OpenClaim.pre_eq_preRow]; exact lifted os started H enc F)
theorem plain (f : FuncId) (fn : Func) (hf : Tryd.pinned.checked.prog.funcNamed "newel/newellaw09.CoordTells" = some f) (hfn : Tryd.pinned.checked.prog.funcs[f]? = some fn) :
    false = Tryd.pinned.checked.prog.looks [] ∧ ∀ (j : Nat) t, fn.params[j]? = some t → Tryd.pinned.checked.prog.wantsStandIn t = false := by
  obtain rfl : f = 11 := Option.some.inj ((show Tryd.prog.funcNamed "newel/newellaw09.CoordTells" = some 11 by kernel_rfl).symm.trans hf) |>.symm
  obtain rfl : fn = Tryd.f11 := (Option.some.inj (Tryd.func11.symm.trans hfn)).symm
  refine ⟨by kernel_rfl, fun j t ht => ?_⟩
  rw [Tryd.params11] at ht
  have hm : t ∈ [9, 32, 32, 24] := by have := Array.mem_of_getElem? ht; simpa using this
  have hall : ([9, 32, 32, 24] : List TypeId).all (fun t => Tryd.prog.wantsStandIn t == false) = true := by kernel_rfl
  exact beq_iff_eq.1 (List.all_eq_true.1 hall t hm)
theorem card : Rows.CoordTellsCardSaid :=
  Claim7.holds_tied_plain_at .later [] _ _ _ _ said (fun _ h => by cases h) (by kernel_rfl) (fun _ h => by cases h) coordTells_row_tie rfl ⟨rfl, rfl⟩ (by kernel_rfl) rfl plain (by kernel_rfl)
end Go.Proofs.YtgdjfcmmpjcaaaaDoor.coordTells
namespace Go.Proofs.YtgdjfcmmpjcaaaaDoor
theorem coordTells_holds : Rows.CoordTellsCardSaid := coordTells.card
#print axioms coordTells_holds
end Go.Proofs.YtgdjfcmmpjcaaaaDoor
