/- Texts put together: what functions of the program compute, and plain words about them. -/
import Derived.Test.YtgdjfcmmpjcaaaaDoorLawCoordBackUptoM1
import Derived.Test.YtgdjfcmmpjcaaaaDoorLawCoordBackUptoM2
import Derived.Test.YtgdjfcmmpjcaaaaDoorProg
import Derived.Test.YtgdjfcmmpjcaaaaDoorRows
import Derived.ChangeArms
import Derived.Deep.DeepHandedRow
import Derived.Shelf.Vars
import Derived.Below
import Derived.Deep.Draws
import Derived.Deep.AppendLies
import Derived.Maps.AppendAt
import Derived.OwnWalk
import Derived.Laws.BytesArg
import Derived.Laws.MakeOwn
import Derived.Laws.OwnMore
import Derived.Deep.OwnRows
import Derived.Tactics
import Derived.Lib.ConvBytes
import Derived.Laws.Slices
import Derived.WalkKit
import Derived.KernelRfl
import Derived.RowKit3
import Derived.Deep.LoopGhost
import Derived.Deep.QuietTactic
import Derived.BigQuiet
import Derived.WideLaws
import Derived.Deep.DeepCutAuto
import Derived.Deep.CutBlock
import Derived.Deep.RegionHeld3
import Derived.Laws.Rows
import Derived.Lib.AppendStr
import Derived.ArgAppend
import Derived.Laws.IdiomCopy
import Derived.OrdersHeld
import Derived.Laws.BitsLemmas
import Derived.RowKit
import Derived.Lib.OthersKept
import Derived.Lib.Hide
import Derived.LoopN
import Derived.Lib.IndexAny
import Derived.Lib.IndexBytes
import Derived.Laws.RangeString
import Derived.Laws.Strings3
import Derived.Laws.Runes
import Derived.Lib.DecodeN
import Derived.Shelf.Strings.IndexAny
import Derived.Lib.IndexMore
namespace Go.Proofs.YtgdjfcmmpjcaaaaDoor.Q
open Go.RowKit Go.Proofs.YtgdjfcmmpjcaaaaDoorW.PrintWords Go.Proofs.YtgdjfcmmpjcaaaaDoorW.PrintLast Go.Proofs.YtgdjfcmmpjcaaaaDoorW.Own Go.Proofs.YtgdjfcmmpjcaaaaDoorW.PrintMore
attribute [local go_sem] max2_int min2_int max_two min_two max_three min_three max_four min_four   -- for this text's walks alone
set_option linter.unusedVariables false
set_option linter.unusedSimpArgs false
def chars_Lower.low (n : Int) : Int := if 65 ≤ n ∧ n ≤ 90 then n + 32 else n
def chars_Lower.f (a0 : ByteArray) : Option ByteArray := if a0.size ≤ 281474976710656 then some (strOfNums ((bytesOf a0).map chars_Lower.low)) else none
def chars_Lower.val (a0 : ByteArray) (i j : Nat) : Int := if j < i then chars_Lower.low (bt a0 (j : Int)) else bt a0 (j : Int)
structure chars_Lower.Row (w : World) (a0 : ByteArray) (i : Nat) (w' : World) : Prop where
  below : Below w.heap.size w w'
  cell : ∀ j, j < a0.size → w'.cell? ⟨w.heap.size, j, none⟩ = some (.int .u8 (chars_Lower.val a0 i j))
  soft : ∀ j, j < a0.size → w'.frozen? ⟨w.heap.size, j, none⟩ = false
set_option maxHeartbeats 4000000 in
set_option maxRecDepth 100000 in
theorem chars_Lower.calls (a0 : ByteArray) (r : ByteArray) (w : World) (hG : Glob w) (h : chars_Lower.f a0 = some r) :
    Calls Tryd.prog 72 #[.string a0] w fun e w' => e = .returned (.string r) ∧ Below w.heap.size w w' := by
  unfold chars_Lower.f at h
  split at h
  · rename_i hs
    obtain rfl := Option.some.inj h
    clear h
    have kb := fun W => print_bytes (P := Tryd.prog) 9 30 5 Tryd.underlying9 Tryd.underlying30 Tryd.underlying5 a0 W
    go_enter Tryd.func72, Tryd.ntmps72
    go_wp2
    have hR : chars_Lower.Row w a0 0 (Lib.bytesWorld w 5 a0) := by
      refine ⟨bytes_below (Below.refl _ _) (Nat.le_refl _) _ _, ?_, ?_⟩
      · intro j hj
        rw [Lib.bytesWorld_cell w 5 a0 j hj]
        unfold chars_Lower.val bt
        rw [if_neg (Nat.not_lt_zero _)]
        have h' : j < a0.data.toList.length := by rw [data_length]; exact hj
        simp [List.getD_eq_getElem?_getD, hj]
        rfl
      · intro j hj
        have hz : a0.size ≤ (Lib.bytesCells w 5 a0).size := by simp [Lib.bytesCells]
        simp [World.frozen?, Lib.bytesWorld_at_new]
        omega
    generalize hWx : Lib.bytesWorld w 5 a0 = W2 at hR ⊢
    go_loopg [10] a0.size (fun g v10 w' => ∃ i : Nat, i ≤ a0.size ∧ v10 = .int .i64 (i : Int) ∧ g + i = a0.size ∧ chars_Lower.Row w a0 i w')
    case atStart => exact ⟨0, Nat.zero_le _, rfl, rfl, hR⟩
    case round =>
      obtain ⟨i, hi, rfl, hgi, hr⟩ := hrel
      by_cases c : i < a0.size
      · have d : decide ((i : Int) < (a0.size : Int)) = true := decide_eq_true (by omega)
        have hx := hr.cell i c
        have hf := hr.soft i c
        have hv : chars_Lower.val a0 i i = bt a0 (i : Int) := by unfold chars_Lower.val; rw [if_neg (Nat.lt_irrefl _)]
        rw [hv] at hx
        have hb := bt_range a0 (i : Int)
        have hw1 : wrap64 ((i : Int) + 1) = ((i + 1 : Nat) : Int) := by unfold wrap64; omega
        by_cases c1 : 65 ≤ bt a0 (i : Int) ∧ bt a0 (i : Int) ≤ 90
        · have d1 : decide (65 ≤ bt a0 (i : Int)) = true := decide_eq_true c1.1
          have d2 : decide (bt a0 (i : Int) ≤ 90) = true := decide_eq_true c1.2
          go_wp2
          go_roundg (a0.size - (i + 1))
          case measure => omega
          case rel =>
            refine ⟨i + 1, by omega, by simp, by omega, ⟨hr.below.setCell (Nat.le_refl _) _, fun j hj => ?_, fun j hj => (World.frozen?_setCell _ _ _ _).trans (hr.soft j hj)⟩⟩
            by_cases e : j = i
            · subst e
              rw [World.cell?_setCell_same _ _ _ (hr.cell j hj)]
              unfold chars_Lower.val chars_Lower.low
              rw [if_pos (Nat.lt_succ_self _), if_pos c1]
              have : bt a0 (j : Int) - 65 + 97 = bt a0 (j : Int) + 32 := by omega
              rw [this]
            · rw [World.cell?_setCell_other _ _ _ _ (show (⟨w.heap.size, i, none⟩ : Addr) ≠ ⟨w.heap.size, j, none⟩ from by intro h; injection h with _ h2 _; exact e h2.symm), hr.cell j hj]
              unfold chars_Lower.val
              by_cases l : j < i
              · rw [if_pos l, if_pos (by omega)]
              · rw [if_neg l, if_neg (by omega)]
        · have d12 : decide (65 ≤ bt a0 (i : Int)) = true → decide (bt a0 (i : Int) ≤ 90) = false := fun h => decide_eq_false (fun h2 => c1 ⟨of_decide_eq_true h, h2⟩)
          have same : ∀ W, chars_Lower.Row w a0 i W → chars_Lower.Row w a0 (i + 1) W := fun W hr => by
            refine ⟨hr.below, fun j hj => ?_, hr.soft⟩
            rw [hr.cell j hj]
            by_cases e : j = i
            · subst e
              rw [hv]
              unfold chars_Lower.val chars_Lower.low
              rw [if_pos (Nat.lt_succ_self _), if_neg c1]
            · unfold chars_Lower.val
              by_cases l : j < i
              · rw [if_pos l, if_pos (by omega)]
              · rw [if_neg l, if_neg (by omega)]
          by_cases c2 : 65 ≤ bt a0 (i : Int)
          · have d1 : decide (65 ≤ bt a0 (i : Int)) = true := decide_eq_true c2
            have d2 := d12 d1
            go_wp2
            go_roundg (a0.size - (i + 1))
            case measure => omega
            case rel => exact ⟨i + 1, by omega, by simp, by omega, same _ hr⟩
          · have d1 : decide (65 ≤ bt a0 (i : Int)) = false := decide_eq_false c2
            go_wp2
            go_roundg (a0.size - (i + 1))
            case measure => omega
            case rel => exact ⟨i + 1, by omega, by simp, by omega, same _ hr⟩
      · have d : decide ((i : Int) < (a0.size : Int)) = false := decide_eq_false (by omega)
        have hi' : i = a0.size := by omega
        have hc : ∀ W, chars_Lower.Row w a0 i W → Kd.C (Kd.int .u8) W (some ⟨w.heap.size, 0, none⟩) a0.size ((bytesOf a0).map chars_Lower.low) := fun W hr => by
          refine Kd.C_of_reads (enc := Value.int .u8) (d := (0 : Int)) (h1 := fun _ => rfl) ⟨by rw [List.length_map, bytesOf_length], by omega, fun _ => ⟨_, rfl, fun j hj => ?_⟩⟩
          rw [add_plain, hr.cell j hj]
          unfold chars_Lower.val
          rw [if_pos (by omega)]
          have h' : j < (bytesOf a0).length := by rw [bytesOf_length]; exact hj
          have e : (bytesOf a0)[j]'h' = bt a0 (j : Int) := by
            rw [← rd_bytesOf]
            unfold rd
            simp [List.getD_eq_getElem?_getD, List.getElem?_eq_getElem h']
          simp [List.getD_eq_getElem?_getD, List.getElem?_eq_getElem h', e]
        have hcv := Kd.C_string (P := Tryd.prog) (A := some ⟨w.heap.size, 0, none⟩) (c := grownCap w a0.size 0 5) Tryd.underlying30 Tryd.underlying5 Tryd.underlying9 (hc _ hr)
        go_wp2
        go_ret
        exact ⟨rfl, hr.below⟩
  · exact absurd h (by simp)
end Go.Proofs.YtgdjfcmmpjcaaaaDoor.Q
namespace Go.Proofs.YtgdjfcmmpjcaaaaDoor.Q
open Go.RowKit Go.Proofs.YtgdjfcmmpjcaaaaDoorW.PrintWords Go.Proofs.YtgdjfcmmpjcaaaaDoorW.PrintLast Go.Proofs.YtgdjfcmmpjcaaaaDoorW.Own Go.Proofs.YtgdjfcmmpjcaaaaDoorW.PrintMore
attribute [local go_sem] max2_int min2_int max_two min_two max_three min_three max_four min_four   -- for this text's walks alone
set_option linter.unusedVariables false
set_option linter.unusedSimpArgs false
set_option maxHeartbeats 8000000
set_option maxRecDepth 100000
def api_Word_73.l0 : Nat → List (S38) → Int → Int → Option ((List (S38)))
 | 0, _, _, _ => none
 | k + 1, x0, x2, x3 => if x2 < x3 then (if 0 ≤ x3 then (if x3 < (x0.length : Int) then (if 0 ≤ x2 then (if x2 < (x0.length : Int) then (api_Word_73.l0 k ((x0.set (x2 : Int).toNat (⟨(rd_T38 x0 x3).f0, (rd_T38 x0 x3).f1⟩ : S38)).set (x3 : Int).toNat (⟨(rd_T38 x0 x2).f0, (rd_T38 x0 x2).f1⟩ : S38)) (wrap64 (x2 + 1)) (wrap64 (x3 - 1))) else (none)) else (none)) else (none)) else (none)) else (some x0)
def api_Word_73.f (k : Nat) (l0 : List (S38)) : Option ((List (S38))) := api_Word_73.l0 k l0 0 (wrap64 ((l0.length : Int) - 1))
theorem api_Word_73.mono_l : ∀ k, (∀ y0 y1 y2, LeO (api_Word_73.l0 k y0 y1 y2) (api_Word_73.l0 (k + 1) y0 y1 y2))
 | 0 => fun _ _ _ r h => by simp [api_Word_73.l0] at h
 | k + 1 => by
  have ih0 := api_Word_73.mono_l k
  ·intro y0 y1 y2
   unfold api_Word_73.l0
   exact mo
theorem api_Word_73.mono : ∀ a0 k, LeO (api_Word_73.f k a0) (api_Word_73.f (k + 1) a0) := by
 intro a0 k
 have ih0 := api_Word_73.mono_l k
 unfold api_Word_73.f
 exact mo
def api_Word_73.T3 : Bool × List (List Nat × List Nat) := (true, [([], []), ([], []), ([], []), ([], []), ([], []), ([], []), ([4, 5], [4, 5]), ([6], [6]), ([], []), ([], []), ([8, 9], [8, 9]), ([10], [10]), ([0, 1, 0, 1, 4, 5, 6, 7, 11], [0, 1]), ([12, 7, 0, 1, 4, 5, 6, 7, 11], [7, 12]), ([2, 3, 0, 1, 2, 3, 4, 5, 6, 7, 8, 9, 10, 11, 12, 13], [2, 3]), ([14, 11, 13, 0, 1, 2, 3, 4, 5, 6, 7, 8, 9, 10, 11, 12, 13], [11, 14])])
def api_Word_73.B3 : List Nat := [0, 0, 0, 0, 0, 0, 48, 112, 0, 0, 768, 1792, 4083, 8179, 16383, 32767]
theorem api_Word_73.tab3 : rtab .any (opsOf Tryd.f73 3) = api_Word_73.T3 := by kernel_rfl
theorem api_Word_73.bits3 : waitsOk api_Word_73.T3.2 api_Word_73.B3 = true := by kernel_rfl
theorem api_Word_73.calls (k : Nat) (P0_ : Nat → Prop) (u9000_ : Value) (l0 : List (S38)) (r : List (S38)) (w0 w : World) (hB : Below w0.heap.size w0 w) (ho0 : Kd.R k38 38 w w0.heap.size P0_ u9000_ l0) (hG : Glob w0) (h : api_Word_73.f k l0 = some r) :
 Calls Tryd.prog 73 #[u9000_] w fun e w' => e = .returned (.tuple #[]) ∧ Kd.R k38 38 w' w0.heap.size (fun k_ => (P0_ k_ ∨ w.heap.size ≤ k_)) u9000_ r ∧ Below w0.heap.size w0 w' ∧ Kept w w' (fun k_ => P0_ k_) := by
 have hu38 := Tryd.underlying38
 have HG := Aside0.mk hG
 clear hG
 have HO0 := Aside0.mk (show Kd.R k38 38 w w0.heap.size (fun k_ => (P0_ k_ ∨ w.heap.size ≤ k_)) u9000_ l0 from Kd.R_mono ho0 (fun k_ hk => (.inl hk)))
 have HK := Aside0.mk (Kept.refl w (fun k_ => P0_ k_))
 have HW0 := Aside0.mk hB.size
 have HB := Aside0.mk hB
 clear hB
 have H : (api_Word_73.l0 k l0 0 (wrap64 ((l0.length : Int) - 1))) = some r := h
 clear h
 have H' := Aside0.mk H
 clear H
 obtain ⟨Ao2, co2, eo2⟩ := Kd.R_slice HO0.out
 subst eo2
 go_enter Tryd.func73, Tryd.ntmps73
 go_wp2
 go_loopg [2, 3] k (fun kq v2 v3 w' => ∃ (x0_1 : List (S38)) (x2_1 : Int) (x3_1 : Int), v2 = .int .i64 x2_1 ∧ v3 = .int .i64 x3_1 ∧ Aside0 (api_Word_73.l0 kq x0_1 x2_1 x3_1 = some r) ∧ Aside0 (kq ≤ k) ∧ Aside0 (Kd.R k38 38 w' w0.heap.size (fun k_ => (P0_ k_ ∨ w.heap.size ≤ k_)) (.slice Ao2 l0.length co2) x0_1) ∧ Aside0 (Kept w w' (fun k_ => P0_ k_)) ∧ Aside0 (Below w0.heap.size w0 w'))
 case atStart => exact ⟨(l0), (0), (wrap64 ((l0.length : Int) - 1)), cA, cA, H', ⟨Nat.le_refl _⟩, ⟨kR HO0⟩, ⟨by repeat (first | (with_reducible first | exact HK.out | apply Kept.alloc | apply Kept.drewN | apply Kept.drew) | exact HK.out)⟩, ⟨bE⟩⟩
 clear H'
 try clear p2
 obtain ⟨x0_1, x2_1, x3_1, rfl, rfl, HA, HK1, HO_0, HK, HB⟩ := hrel
 have hl0_1 := (Kd.R_reads' HO_0.out).1
 rw [hl0_1] at HO_0
 (try simp only [hl0_1])
 cases gk with
 | zero => exact absurd HA.out (by simp [api_Word_73.l0])
 | succ k1 =>
  have H := HA.out
  clear HA
  simp only [api_Word_73.l0] at H
  by_cases c3 : x2_1 < x3_1
  rotate_left
  ·rw [if_neg c3] at H
   have c3b0 := decide_eq_false c3
   clear c3
   obtain rfl := Option.some.inj H
   go_wp2
   first | go_end0 | ((try simp only [Exit.inBlock, Exit.then]); refine bodyPost_ret (results_none rfl _ _ _) rfl ?_)
   exact ⟨eA, (by first | exact (kR HO_0) | (simp only [hl0_1]; exact (kR HO_0))), bE, by repeat (first | (with_reducible first | exact HK.out | apply Kept.alloc | apply Kept.drewN | apply Kept.drew) | exact HK.out)⟩
  rw [if_pos c3] at H
  have c3b0 := decide_eq_true c3
  clear c3
  by_cases c4 : 0 ≤ x3_1
  rotate_left
  ·rw [if_neg c4] at H
   exact absurd H (by simp)
  rw [if_pos c4] at H
  have c4b0 := decide_eq_true c4
  clear c4
  by_cases c5 : x3_1 < (x0_1.length : Int)
  rotate_left
  ·rw [if_neg c5] at H
   exact absurd H (by simp)
  rw [if_pos c5] at H
  have c5b0 := decide_eq_true c5
  clear c5
  by_cases c6 : 0 ≤ x2_1
  rotate_left
  ·rw [if_neg c6] at H
   exact absurd H (by simp)
  rw [if_pos c6] at H
  have c6b0 := decide_eq_true c6
  clear c6
  by_cases c7 : x2_1 < (x0_1.length : Int)
  rotate_left
  ·rw [if_neg c7] at H
   exact absurd H (by simp)
  rw [if_pos c7] at H
  have c7b0 := decide_eq_true c7
  clear c7
  obtain ⟨y146, hy146⟩ : ∃ y_ : List (S38), y_ = (x0_1.set (x2_1 : Int).toNat (⟨(rd_T38 x0_1 x3_1).f0, (rd_T38 x0_1 x3_1).f1⟩ : S38)) := ⟨_, rfl⟩
  replace H : (api_Word_73.l0 k1 (y146.set (x3_1 : Int).toNat (⟨(rd_T38 x0_1 x2_1).f0, (rd_T38 x0_1 x2_1).f1⟩ : S38)) (wrap64 (x2_1 + 1)) (wrap64 (x3_1 - 1))) = some r := by first | (rw [hy146]; with_reducible exact H) | (have H2_ := (Option.bind_some _ _).symm.trans H; rw [hy146]; with_reducible exact H2_) | (have H2_ := (Option.bind_some _ _).symm.trans H; with_reducible exact H2_) | with_reducible exact H | (rw [hy146]; exact H) | exact H
  have Ny146 := Aside0.mk hy146
  clear hy146
  obtain ⟨y147, hy147⟩ : ∃ y_ : List (S38), y_ = (y146.set (x3_1 : Int).toNat (⟨(rd_T38 x0_1 x2_1).f0, (rd_T38 x0_1 x2_1).f1⟩ : S38)) := ⟨_, rfl⟩
  replace H : (api_Word_73.l0 k1 y147 (wrap64 (x2_1 + 1)) (wrap64 (x3_1 - 1))) = some r := by first | (rw [hy147]; with_reducible exact H) | (have H2_ := (Option.bind_some _ _).symm.trans H; rw [hy147]; with_reducible exact H2_) | (have H2_ := (Option.bind_some _ _).symm.trans H; with_reducible exact H2_) | with_reducible exact H | (rw [hy147]; exact H) | exact H
  have Ny147 := Aside0.mk hy147
  clear hy147
  have H' := Aside0.mk H
  clear H
  try go_wp2
  replace HO_0 := Aside0.mk (Kd.R_drew HO_0.out)
  replace HK := Aside0.mk (Kept.drew HK.out)
  replace HB := Aside0.mk (below_drew1 HB.out)
  have p144 : 0 ≤ (x3_1 : Int) := dA
  have q144 : x3_1 < (x0_1.length : Int) := dA
  obtain ⟨ad144, e144, hx144_0, hx144_1⟩ := at_T38 (Kd.R_reads' HO_0.out).2.2 x3_1 p144 q144
  cases e144
  replace p144 := eq_true p144
  replace q144 := eq_true q144
  have p145 : 0 ≤ (x2_1 : Int) := dA
  have q145 : x2_1 < (x0_1.length : Int) := dA
  obtain ⟨ad145, e145, hx145_0, hx145_1⟩ := at_T38 (Kd.R_reads' HO_0.out).2.2 x2_1 p145 q145
  obtain rfl : ad144 = ad145 := (by injection e145)
  replace p145 := eq_true p145
  replace q145 := eq_true q145
  have p8 : 0 ≤ (x2_1 : Int) := dA
  have q8 : (x2_1 : Int) < ((x0_1.length : Int) : Int) := dA
  obtain ⟨go8, co8, eo8, gb8, gl8, cl8, HG8⟩ := Kd.R_form HO_0.out (by omega)
  (first | cases eo8 | (injection eo8 with ea_ en_ ec_; (first | subst ea_ | (injection ea_ with ea_; subst ea_)); subst ec_; clear en_))
  have GB8 := Aside0.mk gb8
  have hlt_sw_ : x2_1 < x3_1 := of_decide_eq_true c3b0
  have h0_sw_ : 0 ≤ x2_1 := of_decide_eq_true c6b0
  have far_sw_0 : ∀ (W : World) (v : Value), (W.setCell ⟨go8, (x2_1 : Int).toNat * 2, none⟩ v).cell? ⟨go8, (x3_1 : Int).toNat * 2, none⟩ = W.cell? ⟨go8, (x3_1 : Int).toNat * 2, none⟩ := fun W v => World.cell?_setCell_other _ _ _ _ (show (⟨go8, (x2_1 : Int).toNat * 2, none⟩ : Addr) ≠ ⟨go8, (x3_1 : Int).toNat * 2, none⟩ from by intro h; injection h with _ h2 _; omega)
  have far_sw_1 : ∀ (W : World) (v : Value), (W.setCell ⟨go8, (x2_1 : Int).toNat * 2, none⟩ v).cell? ⟨go8, (x3_1 : Int).toNat * 2 + 1, none⟩ = W.cell? ⟨go8, (x3_1 : Int).toNat * 2 + 1, none⟩ := fun W v => World.cell?_setCell_other _ _ _ _ (show (⟨go8, (x2_1 : Int).toNat * 2, none⟩ : Addr) ≠ ⟨go8, (x3_1 : Int).toNat * 2 + 1, none⟩ from by intro h; injection h with _ h2 _; omega)
  have far_sw_2 : ∀ (W : World) (v : Value), (W.setCell ⟨go8, (x2_1 : Int).toNat * 2 + 1, none⟩ v).cell? ⟨go8, (x3_1 : Int).toNat * 2, none⟩ = W.cell? ⟨go8, (x3_1 : Int).toNat * 2, none⟩ := fun W v => World.cell?_setCell_other _ _ _ _ (show (⟨go8, (x2_1 : Int).toNat * 2 + 1, none⟩ : Addr) ≠ ⟨go8, (x3_1 : Int).toNat * 2, none⟩ from by intro h; injection h with _ h2 _; omega)
  have far_sw_3 : ∀ (W : World) (v : Value), (W.setCell ⟨go8, (x2_1 : Int).toNat * 2 + 1, none⟩ v).cell? ⟨go8, (x3_1 : Int).toNat * 2 + 1, none⟩ = W.cell? ⟨go8, (x3_1 : Int).toNat * 2 + 1, none⟩ := fun W v => World.cell?_setCell_other _ _ _ _ (show (⟨go8, (x2_1 : Int).toNat * 2 + 1, none⟩ : Addr) ≠ ⟨go8, (x3_1 : Int).toNat * 2 + 1, none⟩ from by intro h; injection h with _ h2 _; omega)
  have far_sw_4 : ∀ (W : World) (v : Value), (W.setCell ⟨go8, (x3_1 : Int).toNat * 2, none⟩ v).cell? ⟨go8, (x2_1 : Int).toNat * 2, none⟩ = W.cell? ⟨go8, (x2_1 : Int).toNat * 2, none⟩ := fun W v => World.cell?_setCell_other _ _ _ _ (show (⟨go8, (x3_1 : Int).toNat * 2, none⟩ : Addr) ≠ ⟨go8, (x2_1 : Int).toNat * 2, none⟩ from by intro h; injection h with _ h2 _; omega)
  have far_sw_5 : ∀ (W : World) (v : Value), (W.setCell ⟨go8, (x3_1 : Int).toNat * 2, none⟩ v).cell? ⟨go8, (x2_1 : Int).toNat * 2 + 1, none⟩ = W.cell? ⟨go8, (x2_1 : Int).toNat * 2 + 1, none⟩ := fun W v => World.cell?_setCell_other _ _ _ _ (show (⟨go8, (x3_1 : Int).toNat * 2, none⟩ : Addr) ≠ ⟨go8, (x2_1 : Int).toNat * 2 + 1, none⟩ from by intro h; injection h with _ h2 _; omega)
  have far_sw_6 : ∀ (W : World) (v : Value), (W.setCell ⟨go8, (x3_1 : Int).toNat * 2 + 1, none⟩ v).cell? ⟨go8, (x2_1 : Int).toNat * 2, none⟩ = W.cell? ⟨go8, (x2_1 : Int).toNat * 2, none⟩ := fun W v => World.cell?_setCell_other _ _ _ _ (show (⟨go8, (x3_1 : Int).toNat * 2 + 1, none⟩ : Addr) ≠ ⟨go8, (x2_1 : Int).toNat * 2, none⟩ from by intro h; injection h with _ h2 _; omega)
  have far_sw_7 : ∀ (W : World) (v : Value), (W.setCell ⟨go8, (x3_1 : Int).toNat * 2 + 1, none⟩ v).cell? ⟨go8, (x2_1 : Int).toNat * 2 + 1, none⟩ = W.cell? ⟨go8, (x2_1 : Int).toNat * 2 + 1, none⟩ := fun W v => World.cell?_setCell_other _ _ _ _ (show (⟨go8, (x3_1 : Int).toNat * 2 + 1, none⟩ : Addr) ≠ ⟨go8, (x2_1 : Int).toNat * 2 + 1, none⟩ from by intro h; injection h with _ h2 _; omega)
  have far_sw_8 : ∀ (W : World) (v : Value), (W.setCell ⟨go8, (x2_1 : Int).toNat * 2, none⟩ v).cell? ⟨go8, (x2_1 : Int).toNat * 2 + 1, none⟩ = W.cell? ⟨go8, (x2_1 : Int).toNat * 2 + 1, none⟩ := fun W v => World.cell?_setCell_other _ _ _ _ (show (⟨go8, (x2_1 : Int).toNat * 2, none⟩ : Addr) ≠ ⟨go8, (x2_1 : Int).toNat * 2 + 1, none⟩ from by intro h; injection h with _ h2 _; omega)
  have far_sw_9 : ∀ (W : World) (v : Value), (W.setCell ⟨go8, (x2_1 : Int).toNat * 2 + 1, none⟩ v).cell? ⟨go8, (x2_1 : Int).toNat * 2, none⟩ = W.cell? ⟨go8, (x2_1 : Int).toNat * 2, none⟩ := fun W v => World.cell?_setCell_other _ _ _ _ (show (⟨go8, (x2_1 : Int).toNat * 2 + 1, none⟩ : Addr) ≠ ⟨go8, (x2_1 : Int).toNat * 2, none⟩ from by intro h; injection h with _ h2 _; omega)
  have far_sw_10 : ∀ (W : World) (v : Value), (W.setCell ⟨go8, (x3_1 : Int).toNat * 2, none⟩ v).cell? ⟨go8, (x3_1 : Int).toNat * 2 + 1, none⟩ = W.cell? ⟨go8, (x3_1 : Int).toNat * 2 + 1, none⟩ := fun W v => World.cell?_setCell_other _ _ _ _ (show (⟨go8, (x3_1 : Int).toNat * 2, none⟩ : Addr) ≠ ⟨go8, (x3_1 : Int).toNat * 2 + 1, none⟩ from by intro h; injection h with _ h2 _; omega)
  have far_sw_11 : ∀ (W : World) (v : Value), (W.setCell ⟨go8, (x3_1 : Int).toNat * 2 + 1, none⟩ v).cell? ⟨go8, (x3_1 : Int).toNat * 2, none⟩ = W.cell? ⟨go8, (x3_1 : Int).toNat * 2, none⟩ := fun W v => World.cell?_setCell_other _ _ _ _ (show (⟨go8, (x3_1 : Int).toNat * 2 + 1, none⟩ : Addr) ≠ ⟨go8, (x3_1 : Int).toNat * 2, none⟩ from by intro h; injection h with _ h2 _; omega)
  have GG8 := Aside0.mk HG8
  clear gb8 gl8 HG8
  have HMgo8 := Aside0.mk (show (P0_ go8 ∨ w.heap.size ≤ go8) from (HO_0.out.1 _ rfl))
  (first | simp only [add_plain] at hx144_0 | skip)
  (first | simp only [add_plain] at hx144_1 | skip)
  (first | simp only [add_plain] at hx145_0 | skip)
  (first | simp only [add_plain] at hx145_1 | skip)
  obtain ⟨ce8, hcl8, hM8, hcc8, hfr8⟩ := Kd.R_elem HO_0.out z38 (x2_1 : Int) p8 q8
  obtain rfl := k38_openM hM8
  have hx8_0 : World.cell? _ ⟨go8, (x2_1 : Int).toNat * 2, none⟩ = some (.int .i64 ((rd_T38 x0_1 x2_1).f0)) := hcc8 0 _ rfl
  have hx8_1 : World.cell? _ ⟨go8, (x2_1 : Int).toNat * 2 + 1, none⟩ = some (.string ((rd_T38 x0_1 x2_1).f1)) := hcc8 1 _ rfl
  have hf8_0 : World.frozen? _ ⟨go8, (x2_1 : Int).toNat * 2, none⟩ = false := hfr8 0
  have hf8_1 : World.frozen? _ ⟨go8, (x2_1 : Int).toNat * 2 + 1, none⟩ = false := hfr8 1
  clear hcl8 hcc8 hfr8 hM8
  replace p8 := eq_true p8
  replace q8 := eq_true q8
  obtain ⟨ce11, hcl11, hM11, hcc11, hfr11⟩ := Kd.R_elem HO_0.out z38 (x2_1 : Int) (dA) (by have h_ : (x2_1 : Int) < ((x0_1.length : Int) : Int) := dA; first | exact h_ | (have e_ := (Kd.R_reads' HO_0.out).1; omega) | simpa using h_)
  obtain rfl := k38_openM hM11
  have HP11 := (Kd.R_seg HO_0.out (x2_1 : Int) (dA) (by have h_ : (x2_1 : Int) < ((x0_1.length : Int) : Int) := dA; first | exact h_ | (have e_ := (Kd.R_reads' HO_0.out).1; omega) | simpa using h_) (seg := [.int .i64 ((rd_T38 x0_1 x3_1).f0), .string ((rd_T38 x0_1 x3_1).f1)]) (j := 0) hcl11 hcc11 (show 2 ≤ 2 from by decide) (x' := (⟨(rd_T38 x0_1 x3_1).f0, (rd_T38 x0_1 x3_1).f1⟩ : S38)) (k38_mkM _ _ _ (⟨(rd_T38 x0_1 x3_1).f0, (rd_T38 x0_1 x3_1).f1⟩ : S38) ) (fun _ hk => hk)).1
  rw [← Ny146.out] at HP11
  have HQ11 := Aside0.mk HP11
  clear hcl11 hcc11 hfr11 hM11 HP11
  have p9 : 0 ≤ (x3_1 : Int) := dA
  have q9 : (x3_1 : Int) < ((x0_1.length : Int) : Int) := dA
  obtain ⟨ce9, hcl9, hM9, hcc9, hfr9⟩ := Kd.R_elem HQ11.out z38 (x3_1 : Int) p9 q9
  obtain rfl := k38_openM hM9
  have hx9_0 : World.cell? _ ⟨go8, (x3_1 : Int).toNat * 2, none⟩ = some (.int .i64 ((rd_T38 y146 x3_1).f0)) := hcc9 0 _ rfl
  have hx9_1 : World.cell? _ ⟨go8, (x3_1 : Int).toNat * 2 + 1, none⟩ = some (.string ((rd_T38 y146 x3_1).f1)) := hcc9 1 _ rfl
  have hf9_0 : World.frozen? _ ⟨go8, (x3_1 : Int).toNat * 2, none⟩ = false := hfr9 0
  have hf9_1 : World.frozen? _ ⟨go8, (x3_1 : Int).toNat * 2 + 1, none⟩ = false := hfr9 1
  (try simp only [World.frozen?_setCells] at hf9_0 hf9_1)
  clear hcl9 hcc9 hfr9 hM9
  replace p9 := eq_true p9
  replace q9 := eq_true q9
  obtain ⟨ce12, hcl12, hM12, hcc12, hfr12⟩ := Kd.R_elem HQ11.out z38 (x3_1 : Int) (dA) (by have h_ : (x3_1 : Int) < ((x0_1.length : Int) : Int) := dA; first | exact h_ | (have e_ := (Kd.R_reads' HO_0.out).1; omega) | simpa using h_)
  obtain rfl := k38_openM hM12
  have HP12 := (Kd.R_seg HQ11.out (x3_1 : Int) (dA) (by have h_ : (x3_1 : Int) < ((x0_1.length : Int) : Int) := dA; first | exact h_ | (have e_ := (Kd.R_reads' HO_0.out).1; omega) | simpa using h_) (seg := [.int .i64 ((rd_T38 x0_1 x2_1).f0), .string ((rd_T38 x0_1 x2_1).f1)]) (j := 0) hcl12 hcc12 (show 2 ≤ 2 from by decide) (x' := (⟨(rd_T38 x0_1 x2_1).f0, (rd_T38 x0_1 x2_1).f1⟩ : S38)) (k38_mkM _ _ _ (⟨(rd_T38 x0_1 x2_1).f0, (rd_T38 x0_1 x2_1).f1⟩ : S38) ) (fun _ hk => hk)).1
  rw [← Ny147.out] at HP12
  have HQ12 := Aside0.mk HP12
  clear hcl12 hcc12 hfr12 hM12 HP12
  refine start_ (n := 16) (S := fun w' => w'.cell? ⟨go8, ((x3_1).toNat * 2), none⟩ = some (.int .i64 ((rd_T38 x0_1 x3_1).f0)) ∧ w'.cell? ⟨go8, ((x3_1).toNat * 2) + 1, none⟩ = some (.string ((rd_T38 x0_1 x3_1).f1)) ∧ w'.cell? ⟨go8, ((x2_1).toNat * 2), none⟩ = some (.int .i64 ((rd_T38 x0_1 x2_1).f0)) ∧ w'.cell? ⟨go8, ((x2_1).toNat * 2) + 1, none⟩ = some (.string ((rd_T38 x0_1 x2_1).f1))) (ds := [13, 15]) #[false, false, false, false, false, false, false, false, false, false, false, false, false, false, false, false] (by kernel_rfl) rfl rfl ⟨hx144_0, hx144_1, hx145_0, hx145_1⟩ (fun hHeld => ?_); refine with_tabW api_Word_73.tab3 api_Word_73.bits3 (fun HT_ HW_ => ?_)
  generalize wr.drew = w10 at HO_0 HK HB GG8 HQ11 HQ12 hf8_0 hf8_1 hf9_0 hf9_1 hx144_0 hx144_1 hx145_0 hx145_1 hx8_0 hx8_1 hx9_0 hx9_1 hHeld ⊢
  refine pz 0 (some 14) HT_ ?_
  refine pz 1 (some 15) HT_ ?_
  refine pz 2 (some 16) HT_ ?_
  refine pz 3 (some 17) HT_ ?_
  refine pz 4 (some 18) HT_ ?_
  refine pz 5 (some 19) HT_ ?_
  refine pz 6 (some 20) HT_ ?_
  refine pz 8 (some 22) HT_ ?_
  refine pz 9 (some 23) HT_ ?_
  refine pz 10 (some 24) HT_ ?_
  refine tm 7 (some 21) HT_ HW_ hHeld ?_
  refine tm 11 (some 25) HT_ HW_ hHeld ?_
  refine pz 12 (some 26) HT_ ?_
  refine last_ (i := 13) (N := none) #[true, true, true, true, true, true, true, true, true, true, true, true, true, true, false, false] rfl rfl (one_of HT_.out (by kernel_rfl)) (by decide) (fun K hK => ?_)
  refine skip_ (w1 := ?_) (by rfl) rfl ?_ ?_
  rotate_left
  ·go_simp
   rfl
  refine hK.out _ _ ?_
  clear hK K
  refine pz 14 (some 27) HT_ ?_
  refine last_ (i := 15) (N := none) #[true, true, true, true, true, true, true, true, true, true, true, true, true, true, true, true] rfl rfl (one_of HT_.out (by kernel_rfl)) (by decide) (fun K hK => ?_)
  refine skip_ (w1 := ?_) (by rfl) rfl ?_ ?_
  rotate_left
  ·go_simp
   rfl
  refine hK.out _ _ ?_
  clear hK K
  refine done_ (done_of HT_.out (by kernel_rfl)) ?_
  try go_wp2
  (try simp only [← hl0_1])
  go_roundg k1
  case measure => have := HK1.out; omega
  case rel => exact ⟨(y147), (wrap64 (x2_1 + 1)), (wrap64 (x3_1 - 1)), cA, cA, H', ⟨by have := HK1.out; omega⟩, ⟨by (try simp only [hl0_1]); (with_reducible repeat (first | apply Kd.R_alloc | apply Kd.R_drewN | apply Kd.R_drew)); exact HQ12.out⟩, ⟨by repeat (first | (with_reducible first | exact HK.out | apply Kept.alloc | apply Kept.drewN | apply Kept.drew | refine Kept.setCell ?_ HMgo8.out _ | refine Kept.setCell ?_ HMgo8.out _ | refine Kept.setCell ?_ HMgo8.out _ | refine Kept.setCell ?_ HMgo8.out _) | exact HK.out)⟩, ⟨by repeat (first | (with_reducible first | exact HB.out | apply below_alloc | apply pw_below_drewN | apply below_drew1 | refine below_set ?_ GB8.out | refine below_set ?_ GB8.out | refine below_set ?_ GB8.out | refine below_set ?_ GB8.out) | exact HB.out)⟩⟩
mutual
def words_letters.j0 : Nat → ByteArray → ByteArray → Bool → Bool → Option (Int × ByteArray)
 | 0, _, _, _, _ => none
 | k + 1, x3, x149000, x149001, x149002 => if x3.toList = ([97, 108, 112, 104, 97] : List UInt8) then (some (1, (⟨#[]⟩ : ByteArray))) else (if x3.toList = ([98, 101, 116, 97] : List UInt8) then (some (2, (⟨#[]⟩ : ByteArray))) else (if x3.toList = ([109, 105, 108, 101, 115, 116, 111, 110, 101] : List UInt8) then (some (3, (⟨#[]⟩ : ByteArray))) else (if x3.toList = ([114, 99] : List UInt8) then (words_letters.j1 k x3 (x3.toList == ([114, 99] : List UInt8)) x149000 x149001 x149002) else (words_letters.j1 k x3 (x3.toList == ([99, 114] : List UInt8)) x149000 x149001 x149002))))
def words_letters.j1 : Nat → ByteArray → Bool → ByteArray → Bool → Bool → Option (Int × ByteArray)
 | 0, _, _, _, _, _ => none
 | k + 1, x16, x26, x149000, x149001, x149002 => if x26 = true then (some (4, (⟨#[]⟩ : ByteArray))) else (if x16.toList = ([115, 110, 97, 112, 115, 104, 111, 116] : List UInt8) then (some (5, (⟨#[]⟩ : ByteArray))) else (if x16.toList = ([103, 97] : List UInt8) then (words_letters.j2 k x16 (x16.toList == ([103, 97] : List UInt8)) x149000 x149001 x149002) else (if x16.toList = ([102, 105, 110, 97, 108] : List UInt8) then (words_letters.j2 k x16 (x16.toList == ([102, 105, 110, 97, 108] : List UInt8)) x149000 x149001 x149002) else (words_letters.j2 k x16 (x16.toList == ([114, 101, 108, 101, 97, 115, 101] : List UInt8)) x149000 x149001 x149002))))
def words_letters.j2 : Nat → ByteArray → Bool → ByteArray → Bool → Bool → Option (Int × ByteArray)
 | 0, _, _, _, _, _ => none
 | k + 1, x16, x31, x149000, x149001, x149002 => if x31 = true then (some (6, (⟨#[]⟩ : ByteArray))) else (if x16.toList = ([115, 112] : List UInt8) then (some (7, (⟨#[]⟩ : ByteArray))) else (some (8, x149000)))
end
def words_letters.f (k : Nat) (a0_0 : ByteArray) (a0_1 : Bool) (a0_2 : Bool) : Option (Int × ByteArray) := if a0_2 = true then (if a0_0.toList = ([97] : List UInt8) then (words_letters.j0 k (⟨#[97, 108, 112, 104, 97]⟩ : ByteArray) a0_0 a0_1 a0_2) else (if a0_0.toList = ([98] : List UInt8) then (words_letters.j0 k (⟨#[98, 101, 116, 97]⟩ : ByteArray) a0_0 a0_1 a0_2) else (if a0_0.toList = ([109] : List UInt8) then (words_letters.j0 k (⟨#[109, 105, 108, 101, 115, 116, 111, 110, 101]⟩ : ByteArray) a0_0 a0_1 a0_2) else (words_letters.j0 k a0_0 a0_0 a0_1 a0_2)))) else (words_letters.j0 k a0_0 a0_0 a0_1 a0_2)
theorem words_letters.mono_l : ∀ k, (∀ y0 y1 y2 y3, LeO (words_letters.j0 k y0 y1 y2 y3) (words_letters.j0 (k + 1) y0 y1 y2 y3)) ∧ (∀ y0 y1 y2 y3 y4, LeO (words_letters.j1 k y0 y1 y2 y3 y4) (words_letters.j1 (k + 1) y0 y1 y2 y3 y4)) ∧ (∀ y0 y1 y2 y3 y4, LeO (words_letters.j2 k y0 y1 y2 y3 y4) (words_letters.j2 (k + 1) y0 y1 y2 y3 y4))
 | 0 => ⟨fun _ _ _ _ r h => by simp [words_letters.j0] at h, fun _ _ _ _ _ r h => by simp [words_letters.j1] at h, fun _ _ _ _ _ r h => by simp [words_letters.j2] at h⟩
 | k + 1 => by
  obtain ⟨ih0, ih1, ih2⟩ := words_letters.mono_l k
  refine ⟨?_, ?_, ?_⟩
  ·intro y0 y1 y2 y3
   unfold words_letters.j0
   exact mo
  ·intro y0 y1 y2 y3 y4
   unfold words_letters.j1
   exact mo
  ·intro y0 y1 y2 y3 y4
   unfold words_letters.j2
   exact mo
theorem words_letters.mono : ∀ a0 a1 a2 k, LeO (words_letters.f k a0 a1 a2) (words_letters.f (k + 1) a0 a1 a2) := by
 intro a0 a1 a2 k
 obtain ⟨ih0, ih1, ih2⟩ := words_letters.mono_l k
 unfold words_letters.f
 exact mo
theorem words_letters.calls (k : Nat) (a0_0 : ByteArray) (a0_1 : Bool) (a0_2 : Bool) (r1 : Int) (r2 : ByteArray) (w : World) (hG : Glob w) (h : words_letters.f k a0_0 a0_1 a0_2 = some (r1, r2)) :
 Calls Tryd.prog 107 #[.agg #[.string a0_0, .bool a0_1, .bool a0_2]] w fun e w' => e = .returned (.agg #[.int .i64 r1, .string r2]) ∧ Below w.heap.size w w' := by
 have hu93 := Tryd.underlying93
 have hu38 := Tryd.underlying38
 have HG := Aside0.mk hG
 clear hG
 have HB := Aside0.mk (Below.refl w.heap.size w)
 have H : (if a0_2 = true then (if a0_0.toList = ([97] : List UInt8) then (words_letters.j0 k (⟨#[97, 108, 112, 104, 97]⟩ : ByteArray) a0_0 a0_1 a0_2) else (if a0_0.toList = ([98] : List UInt8) then (words_letters.j0 k (⟨#[98, 101, 116, 97]⟩ : ByteArray) a0_0 a0_1 a0_2) else (if a0_0.toList = ([109] : List UInt8) then (words_letters.j0 k (⟨#[109, 105, 108, 101, 115, 116, 111, 110, 101]⟩ : ByteArray) a0_0 a0_1 a0_2) else (words_letters.j0 k a0_0 a0_0 a0_1 a0_2)))) else (words_letters.j0 k a0_0 a0_0 a0_1 a0_2)) = some (r1, r2) := h
 clear h
 have HC2 := Aside0.mk H
 clear H
 go_enter Tryd.func107, Tryd.ntmps107
 go_upto_if 8 with (first | (refine be 1 #[.string a0_0, .bool a0_1, .bool a0_2] 93 ?_; intro gb148 hg w3 hbox hb; have BK148 := Aside0.mk (hbox); have GW148 := gW hg; have GE148 := gW hg; replace HB := sB hb; clear hb hbox hg) | (refine be 2 #[.int .i64 0, .string (⟨#[]⟩ : ByteArray)] 38 ?_; intro gb149 hg w4 hbox hb; have BK149 := Aside0.mk (hbox); have GW149 := gW hg; have GE149 := gW hg; replace HB := sB hb; have NB148_149 := nL BK148 hg; have NB149_148 := nG BK148 hg; replace BK148 := kB BK148 hb; clear hb hbox hg; have hnb5 := NB148_149.out; have hnc5 := NB149_148.out; have hcz6_0 : w4.cell? ⟨gb148, 0, none⟩ = some (.string a0_0) := (blk_cell BK148.out 0).trans rfl; have hcz6_1 : w4.cell? ⟨gb148, 1, none⟩ = some (.bool a0_1) := (blk_cell BK148.out 1).trans rfl; have hcz6_2 : w4.cell? ⟨gb148, 2, none⟩ = some (.bool a0_2) := (blk_cell BK148.out 2).trans rfl; have hfz6_0 := blk_frozen BK148.out 0; have hfz6_1 := blk_frozen BK148.out 1; have hfz6_2 := blk_frozen BK148.out 2))
 (try simp only [Act.put, List.setIfInBounds_toArray, List.set_cons_zero, List.set_cons_succ])
 go_cut [3] (fun v3 wc => ∃ (kq : Nat) (x3_1 : ByteArray), v3 = .string x3_1 ∧ Aside0 (words_letters.j0 kq x3_1 a0_0 a0_1 a0_2 = some (r1, r2)) ∧ Aside0 (kq ≤ k) ∧ Aside0 (wc.heap[gb148]? = some (.cells #[.string a0_0, .bool a0_1, .bool a0_2] 93 (0, 0))) ∧ Aside0 (wc.heap[gb149]? = some (.cells #[.int .i64 0, .string (⟨#[]⟩ : ByteArray)] 38 (0, 0))) ∧ Aside0 (Below w.heap.size w wc))
 case first =>
  have H := HC2.out
  clear HC2
  by_cases c7 : a0_2 = true
  rotate_left
  ·replace c7 := Bool.eq_false_iff.mpr c7
   subst c7
   have H1 : (words_letters.j0 k a0_0 a0_0 a0_1 false) = some (r1, r2) := by rw [if_neg (show ¬ (false = true) by decide)] at H; exact H
   clear H
   have H := H1
   clear H1
   have H' := Aside0.mk H
   clear H
   go_wp2
   go_meet
   case rel => exact ⟨_, (a0_0), cA, H', ⟨by first | omega | exact Nat.le_refl _⟩, ⟨bK BK148⟩, ⟨bK BK149⟩, ⟨bG⟩⟩
  subst c7
  have H1 : (if a0_0.toList = ([97] : List UInt8) then (words_letters.j0 k (⟨#[97, 108, 112, 104, 97]⟩ : ByteArray) a0_0 a0_1 true) else (if a0_0.toList = ([98] : List UInt8) then (words_letters.j0 k (⟨#[98, 101, 116, 97]⟩ : ByteArray) a0_0 a0_1 true) else (if a0_0.toList = ([109] : List UInt8) then (words_letters.j0 k (⟨#[109, 105, 108, 101, 115, 116, 111, 110, 101]⟩ : ByteArray) a0_0 a0_1 true) else (words_letters.j0 k a0_0 a0_0 a0_1 true)))) = some (r1, r2) := by rw [if_pos rfl] at H; exact H
  clear H
  have H := H1
  clear H1
  by_cases c8 : a0_0.toList = ([97] : List UInt8)
  ·rw [if_pos c8] at H
   obtain ⟨c8b0, c8b1⟩ := eqT c8
   clear c8
   (first | rw [c8b0] | (simp only [i64_w, i32_w]; rw [c8b0]) | skip)
   have H' := Aside0.mk H
   clear H
   go_wp2
   go_meet
   case rel => exact ⟨_, ((⟨#[97, 108, 112, 104, 97]⟩ : ByteArray)), cA, H', ⟨by first | omega | exact Nat.le_refl _⟩, ⟨bK BK148⟩, ⟨bK BK149⟩, ⟨bG⟩⟩
  rw [if_neg c8] at H
  obtain ⟨c8b0, c8b1⟩ := eqF c8
  (first | rw [c8b0] | (simp only [i64_w, i32_w]; rw [c8b0]) | skip)
  by_cases c9 : a0_0.toList = ([98] : List UInt8)
  ·rw [if_pos c9] at H
   obtain ⟨c9b0, c9b1⟩ := eqT c9
   clear c9
   have H' := Aside0.mk H
   clear H
   go_wp2
   go_meet
   case rel => exact ⟨_, ((⟨#[98, 101, 116, 97]⟩ : ByteArray)), cA, H', ⟨by first | omega | exact Nat.le_refl _⟩, ⟨bK BK148⟩, ⟨bK BK149⟩, ⟨bG⟩⟩
  rw [if_neg c9] at H
  obtain ⟨c9b0, c9b1⟩ := eqF c9
  by_cases c10 : a0_0.toList = ([109] : List UInt8)
  rotate_left
  ·rw [if_neg c10] at H
   obtain ⟨c10b0, c10b1⟩ := eqF c10
   have H' := Aside0.mk H
   clear H
   go_wp2
   go_meet
   case rel => exact ⟨_, (a0_0), cA, H', ⟨by first | omega | exact Nat.le_refl _⟩, ⟨bK BK148⟩, ⟨bK BK149⟩, ⟨bG⟩⟩
  rw [if_pos c10] at H
  obtain ⟨c10b0, c10b1⟩ := eqT c10
  clear c10
  have H' := Aside0.mk H
  clear H
  go_wp2
  go_meet
  case rel => exact ⟨_, ((⟨#[109, 105, 108, 101, 115, 116, 111, 110, 101]⟩ : ByteArray)), cA, H', ⟨by first | omega | exact Nat.le_refl _⟩, ⟨bK BK148⟩, ⟨bK BK149⟩, ⟨bG⟩⟩
 clear HC2
 try clear c1
 try clear p2
 try clear c5
 try clear c7
 try clear c8
 try clear c8b0
 try clear c8b1
 try clear c9
 try clear c9b0
 try clear c9b1
 try clear c10
 try clear c10b0
 try clear c10b1
 try clear hcz6_0
 try clear hcz6_1
 try clear hcz6_2
 try clear hfz6_0
 try clear hfz6_1
 try clear hfz6_2
 obtain ⟨kq, x3_1, rfl, HA, HJ1, BK148, BK149, HB⟩ := hcut
 cases kq with
 | zero => exact absurd HA.out (by simp [words_letters.j0])
 | succ kj1 =>
  have H := HA.out
  clear HA
  simp only [words_letters.j0] at H
  (try simp only [toList_lit] at H)
  by_cases c11 : x3_1.toList = ([97, 108, 112, 104, 97] : List UInt8)
  ·rw [if_pos c11] at H
   obtain ⟨c11b0, c11b1⟩ := eqT c11
   clear c11
   simp only [Option.some.injEq, Prod.mk.injEq] at H
   obtain ⟨rfl, rfl⟩ := H
   have hnb12 := NB149_148.out
   have hnc12 := NB148_149.out
   obtain ⟨hcz13_0, hcz13_1, hfz13_0, hfz13_1⟩ := cells2 BK149
   go_wp2
   refine bodyPost_ret (results_cell_row rfl _ _ gb149 38 #[.int .i64 1, .string (⟨#[]⟩ : ByteArray)] (0, 0) _ rfl (bP BK149) Tryd.underlying38 rfl (by kernel_rfl)) rfl ?_
   exact ⟨eA, bG⟩
  rw [if_neg c11] at H
  obtain ⟨c11b0, c11b1⟩ := eqF c11
  by_cases c14 : x3_1.toList = ([98, 101, 116, 97] : List UInt8)
  ·rw [if_pos c14] at H
   obtain ⟨c14b0, c14b1⟩ := eqT c14
   clear c14
   simp only [Option.some.injEq, Prod.mk.injEq] at H
   obtain ⟨rfl, rfl⟩ := H
   have hnb15 := NB149_148.out
   have hnc15 := NB148_149.out
   obtain ⟨hcz16_0, hcz16_1, hfz16_0, hfz16_1⟩ := cells2 BK149
   go_wp2
   refine bodyPost_ret (results_cell_row rfl _ _ gb149 38 #[.int .i64 2, .string (⟨#[]⟩ : ByteArray)] (0, 0) _ rfl (bP BK149) Tryd.underlying38 rfl (by kernel_rfl)) rfl ?_
   exact ⟨eA, bG⟩
  rw [if_neg c14] at H
  obtain ⟨c14b0, c14b1⟩ := eqF c14
  by_cases c17 : x3_1.toList = ([109, 105, 108, 101, 115, 116, 111, 110, 101] : List UInt8)
  ·rw [if_pos c17] at H
   obtain ⟨c17b0, c17b1⟩ := eqT c17
   clear c17
   simp only [Option.some.injEq, Prod.mk.injEq] at H
   obtain ⟨rfl, rfl⟩ := H
   have hnb18 := NB149_148.out
   have hnc18 := NB148_149.out
   obtain ⟨hcz19_0, hcz19_1, hfz19_0, hfz19_1⟩ := cells2 BK149
   go_wp2
   refine bodyPost_ret (results_cell_row rfl _ _ gb149 38 #[.int .i64 3, .string (⟨#[]⟩ : ByteArray)] (0, 0) _ rfl (bP BK149) Tryd.underlying38 rfl (by kernel_rfl)) rfl ?_
   exact ⟨eA, bG⟩
  rw [if_neg c17] at H
  obtain ⟨c17b0, c17b1⟩ := eqF c17
  have HC20 := Aside0.mk H
  clear H
  go_upto_if 26 with (fail)
  go_cut [26] (fun v26 wc => ∃ (kq : Nat) (x26_19 : Bool), v26 = .bool x26_19 ∧ Aside0 (words_letters.j1 kq x3_1 x26_19 a0_0 a0_1 a0_2 = some (r1, r2)) ∧ Aside0 (kq ≤ kj1) ∧ Aside0 (wc.heap[gb148]? = some (.cells #[.string a0_0, .bool a0_1, .bool a0_2] 93 (0, 0))) ∧ Aside0 (wc.heap[gb149]? = some (.cells #[.int .i64 0, .string (⟨#[]⟩ : ByteArray)] 38 (0, 0))) ∧ Aside0 (Below w.heap.size w wc))
  case first =>
   have H := HC20.out
   clear HC20
   by_cases c21 : x3_1.toList = ([114, 99] : List UInt8)
   rotate_left
   ·rw [if_neg c21] at H
    obtain ⟨c21b0, c21b1⟩ := eqF c21
    (first | rw [c21b0] | (simp only [i64_w, i32_w]; rw [c21b0]) | skip)
    have H' := Aside0.mk H
    clear H
    go_wp2
    go_meet
    case rel => exact ⟨_, ((x3_1.toList == ([99, 114] : List UInt8))), cA, H', ⟨by have := HJ1.out; first | omega | exact Nat.le_refl _⟩, ⟨bK BK148⟩, ⟨bK BK149⟩, ⟨bG⟩⟩
   rw [if_pos c21] at H
   obtain ⟨c21b0, c21b1⟩ := eqT c21
   clear c21
   (first | rw [c21b0] | (simp only [i64_w, i32_w]; rw [c21b0]) | skip)
   have H' := Aside0.mk H
   clear H
   go_wp2
   go_meet
   case rel => exact ⟨_, ((x3_1.toList == ([114, 99] : List UInt8))), cA, H', ⟨by have := HJ1.out; first | omega | exact Nat.le_refl _⟩, ⟨bK BK148⟩, ⟨bK BK149⟩, ⟨bG⟩⟩
  clear HC20
  try clear c1
  try clear c2
  try clear p2
  try clear c5
  try clear c7
  try clear c8
  try clear c8b0
  try clear c8b1
  try clear c9
  try clear c9b0
  try clear c9b1
  try clear c10
  try clear c10b0
  try clear c10b1
  try clear c11
  try clear c11b0
  try clear c11b1
  try clear c12
  try clear c14
  try clear c14b0
  try clear c14b1
  try clear c15
  try clear c17
  try clear c17b0
  try clear c17b1
  try clear c18
  try clear c21
  try clear c21b0
  try clear c21b1
  try clear hcz13_0
  try clear hcz13_1
  try clear hcz16_0
  try clear hcz16_1
  try clear hcz19_0
  try clear hcz19_1
  try clear hcz6_0
  try clear hcz6_1
  try clear hcz6_2
  try clear hfz13_0
  try clear hfz13_1
  try clear hfz16_0
  try clear hfz16_1
  try clear hfz19_0
  try clear hfz19_1
  try clear hfz6_0
  try clear hfz6_1
  try clear hfz6_2
  try clear p2
  obtain ⟨kq, x26_19, rfl, HA, HJ19, BK148, BK149, HB⟩ := hcut
  cases kq with
  | zero => exact absurd HA.out (by simp [words_letters.j1])
  | succ kj19 =>
   have H := HA.out
   clear HA
   simp only [words_letters.j1] at H
   (try simp only [toList_lit] at H)
   by_cases c22 : x26_19 = true
   ·subst c22
    have H1 : (some (4, (⟨#[]⟩ : ByteArray))) = some (r1, r2) := by rw [if_pos rfl] at H; exact H
    clear H
    have H := H1
    clear H1
    simp only [Option.some.injEq, Prod.mk.injEq] at H
    obtain ⟨rfl, rfl⟩ := H
    have hnb23 := NB149_148.out
    have hnc23 := NB148_149.out
    obtain ⟨hcz24_0, hcz24_1, hfz24_0, hfz24_1⟩ := cells2 BK149
    go_wp2
    refine bodyPost_ret (results_cell_row rfl _ _ gb149 38 #[.int .i64 4, .string (⟨#[]⟩ : ByteArray)] (0, 0) _ rfl (bP BK149) Tryd.underlying38 rfl (by kernel_rfl)) rfl ?_
    exact ⟨eA, bG⟩
   replace c22 := Bool.eq_false_iff.mpr c22
   subst c22
   have H1 : (if x3_1.toList = ([115, 110, 97, 112, 115, 104, 111, 116] : List UInt8) then (some (5, (⟨#[]⟩ : ByteArray))) else (if x3_1.toList = ([103, 97] : List UInt8) then (words_letters.j2 kj19 x3_1 (x3_1.toList == ([103, 97] : List UInt8)) a0_0 a0_1 a0_2) else (if x3_1.toList = ([102, 105, 110, 97, 108] : List UInt8) then (words_letters.j2 kj19 x3_1 (x3_1.toList == ([102, 105, 110, 97, 108] : List UInt8)) a0_0 a0_1 a0_2) else (words_letters.j2 kj19 x3_1 (x3_1.toList == ([114, 101, 108, 101, 97, 115, 101] : List UInt8)) a0_0 a0_1 a0_2)))) = some (r1, r2) := by rw [if_neg (show ¬ (false = true) by decide)] at H; exact H
   clear H
   have H := H1
   clear H1
   by_cases c25 : x3_1.toList = ([115, 110, 97, 112, 115, 104, 111, 116] : List UInt8)
   ·rw [if_pos c25] at H
    obtain ⟨c25b0, c25b1⟩ := eqT c25
    clear c25
    simp only [Option.some.injEq, Prod.mk.injEq] at H
    obtain ⟨rfl, rfl⟩ := H
    have hnb26 := NB149_148.out
    have hnc26 := NB148_149.out
    obtain ⟨hcz27_0, hcz27_1, hfz27_0, hfz27_1⟩ := cells2 BK149
    go_wp2
    refine bodyPost_ret (results_cell_row rfl _ _ gb149 38 #[.int .i64 5, .string (⟨#[]⟩ : ByteArray)] (0, 0) _ rfl (bP BK149) Tryd.underlying38 rfl (by kernel_rfl)) rfl ?_
    exact ⟨eA, bG⟩
   rw [if_neg c25] at H
   obtain ⟨c25b0, c25b1⟩ := eqF c25
   have HC28 := Aside0.mk H
   clear H
   go_upto_if 31 with (fail)
   go_cut [31] (fun v31 wc => ∃ (kq : Nat) (x31_27 : Bool), v31 = .bool x31_27 ∧ Aside0 (words_letters.j2 kq x3_1 x31_27 a0_0 a0_1 a0_2 = some (r1, r2)) ∧ Aside0 (kq ≤ kj19) ∧ Aside0 (wc.heap[gb148]? = some (.cells #[.string a0_0, .bool a0_1, .bool a0_2] 93 (0, 0))) ∧ Aside0 (wc.heap[gb149]? = some (.cells #[.int .i64 0, .string (⟨#[]⟩ : ByteArray)] 38 (0, 0))) ∧ Aside0 (Below w.heap.size w wc))
   case first =>
    have H := HC28.out
    clear HC28
    by_cases c29 : x3_1.toList = ([103, 97] : List UInt8)
    ·rw [if_pos c29] at H
     obtain ⟨c29b0, c29b1⟩ := eqT c29
     clear c29
     (first | rw [c29b0] | (simp only [i64_w, i32_w]; rw [c29b0]) | skip)
     have H' := Aside0.mk H
     clear H
     go_wp2
     go_meet
     case rel => exact ⟨_, ((x3_1.toList == ([103, 97] : List UInt8))), cA, H', ⟨by have := HJ1.out; have := HJ19.out; first | omega | exact Nat.le_refl _⟩, ⟨bK BK148⟩, ⟨bK BK149⟩, ⟨bG⟩⟩
    rw [if_neg c29] at H
    obtain ⟨c29b0, c29b1⟩ := eqF c29
    (first | rw [c29b0] | (simp only [i64_w, i32_w]; rw [c29b0]) | skip)
    by_cases c30 : x3_1.toList = ([102, 105, 110, 97, 108] : List UInt8)
    rotate_left
    ·rw [if_neg c30] at H
     obtain ⟨c30b0, c30b1⟩ := eqF c30
     have H' := Aside0.mk H
     clear H
     go_wp2
     go_meet
     case rel => exact ⟨_, ((x3_1.toList == ([114, 101, 108, 101, 97, 115, 101] : List UInt8))), cA, H', ⟨by have := HJ1.out; have := HJ19.out; first | omega | exact Nat.le_refl _⟩, ⟨bK BK148⟩, ⟨bK BK149⟩, ⟨bG⟩⟩
    rw [if_pos c30] at H
    obtain ⟨c30b0, c30b1⟩ := eqT c30
    clear c30
    have H' := Aside0.mk H
    clear H
    go_wp2
    go_meet
    case rel => exact ⟨_, ((x3_1.toList == ([102, 105, 110, 97, 108] : List UInt8))), cA, H', ⟨by have := HJ1.out; have := HJ19.out; first | omega | exact Nat.le_refl _⟩, ⟨bK BK148⟩, ⟨bK BK149⟩, ⟨bG⟩⟩
   clear HC28
   try clear c1
   try clear c2
   try clear p2
   try clear c3
   try clear c5
   try clear c7
   try clear c8
   try clear c8b0
   try clear c8b1
   try clear c9
   try clear c9b0
   try clear c9b1
   try clear c10
   try clear c10b0
   try clear c10b1
   try clear c11
   try clear c11b0
   try clear c11b1
   try clear c12
   try clear c14
   try clear c14b0
   try clear c14b1
   try clear c15
   try clear c17
   try clear c17b0
   try clear c17b1
   try clear c18
   try clear c21
   try clear c21b0
   try clear c21b1
   try clear c22
   try clear c23
   try clear c25
   try clear c25b0
   try clear c25b1
   try clear c26
   try clear c29
   try clear c29b0
   try clear c29b1
   try clear c30
   try clear c30b0
   try clear c30b1
   try clear hcz13_0
   try clear hcz13_1
   try clear hcz16_0
   try clear hcz16_1
   try clear hcz19_0
   try clear hcz19_1
   try clear hcz24_0
   try clear hcz24_1
   try clear hcz27_0
   try clear hcz27_1
   try clear hcz6_0
   try clear hcz6_1
   try clear hcz6_2
   try clear hfz13_0
   try clear hfz13_1
   try clear hfz16_0
   try clear hfz16_1
   try clear hfz19_0
   try clear hfz19_1
   try clear hfz24_0
   try clear hfz24_1
   try clear hfz27_0
   try clear hfz27_1
   try clear hfz6_0
   try clear hfz6_1
   try clear hfz6_2
   try clear p2
   obtain ⟨kq, x31_27, rfl, HA, HJ27, BK148, BK149, HB⟩ := hcut
   cases kq with
   | zero => exact absurd HA.out (by simp [words_letters.j2])
   | succ kj27 =>
    have H := HA.out
    clear HA
    simp only [words_letters.j2] at H
    (try simp only [toList_lit] at H)
    by_cases c31 : x31_27 = true
    ·subst c31
     have H1 : (some (6, (⟨#[]⟩ : ByteArray))) = some (r1, r2) := by rw [if_pos rfl] at H; exact H
     clear H
     have H := H1
     clear H1
     simp only [Option.some.injEq, Prod.mk.injEq] at H
     obtain ⟨rfl, rfl⟩ := H
     have hnb32 := NB149_148.out
     have hnc32 := NB148_149.out
     obtain ⟨hcz33_0, hcz33_1, hfz33_0, hfz33_1⟩ := cells2 BK149
     go_wp2
     refine bodyPost_ret (results_cell_row rfl _ _ gb149 38 #[.int .i64 6, .string (⟨#[]⟩ : ByteArray)] (0, 0) _ rfl (bP BK149) Tryd.underlying38 rfl (by kernel_rfl)) rfl ?_
     exact ⟨eA, bG⟩
    replace c31 := Bool.eq_false_iff.mpr c31
    subst c31
    have H1 : (if x3_1.toList = ([115, 112] : List UInt8) then (some (7, (⟨#[]⟩ : ByteArray))) else (some (8, a0_0))) = some (r1, r2) := by rw [if_neg (show ¬ (false = true) by decide)] at H; exact H
    clear H
    have H := H1
    clear H1
    by_cases c34 : x3_1.toList = ([115, 112] : List UInt8)
    rotate_left
    ·rw [if_neg c34] at H
     obtain ⟨c34b0, c34b1⟩ := eqF c34
     simp only [Option.some.injEq, Prod.mk.injEq] at H
     obtain ⟨rfl, rfl⟩ := H
     have hnb37 := NB148_149.out
     have hnc37 := NB149_148.out
     obtain ⟨hcz38_0, hcz38_1, hcz38_2, hfz38_0, hfz38_1, hfz38_2⟩ := cells3 BK148
     obtain ⟨hcz39_0, hcz39_1, hfz39_0, hfz39_1⟩ := cells2 BK149
     go_wp2
     refine bodyPost_ret (results_cell_row rfl _ _ gb149 38 #[.int .i64 8, .string a0_0] (0, 0) _ rfl (bP BK149) Tryd.underlying38 rfl (by kernel_rfl)) rfl ?_
     exact ⟨eA, bG⟩
    rw [if_pos c34] at H
    obtain ⟨c34b0, c34b1⟩ := eqT c34
    clear c34
    simp only [Option.some.injEq, Prod.mk.injEq] at H
    obtain ⟨rfl, rfl⟩ := H
    have hnb35 := NB149_148.out
    have hnc35 := NB148_149.out
    obtain ⟨hcz36_0, hcz36_1, hfz36_0, hfz36_1⟩ := cells2 BK149
    go_wp2
    refine bodyPost_ret (results_cell_row rfl _ _ gb149 38 #[.int .i64 7, .string (⟨#[]⟩ : ByteArray)] (0, 0) _ rfl (bP BK149) Tryd.underlying38 rfl (by kernel_rfl)) rfl ?_
    exact ⟨eA, bG⟩
def strings_TrimLeft.f (a0 a1 : ByteArray) : Option ByteArray := if a1.size = 1 ∧ (a1.data.toList.getD 0 0).toNat < 128 then some ⟨(Lib.trimLeftB a0.data.toList (a1.data.toList.getD 0 0)).toArray⟩ else none
theorem strings_TrimLeft.calls (a0 a1 : ByteArray) (r : ByteArray) (w : World) (hG : Glob w) (h : strings_TrimLeft.f a0 a1 = some r) :
 Calls Tryd.prog 108 #[.string a0, .string a1] w fun e w' => e = .returned (.string r) ∧ Drawn0 w w' := by
 unfold strings_TrimLeft.f at h
 split at h
 ·rename_i hs
  obtain rfl := Option.some.inj h
  obtain ⟨c, rfl⟩ : ∃ c : UInt8, a1 = ⟨#[c]⟩ := by
   rcases a1 with ⟨⟨l⟩⟩
   match l, hs.1 with
   | [c], _ => exact ⟨c, rfl⟩
  exact (Tryd.strings_TrimLeft_one a0 c hs.2 w).mono fun e w' hh => ⟨hh.1, ⟨⟨0, hh.2⟩⟩⟩
 ·exact absurd h (by simp)
def words_word.j0 : Nat → Bool → ByteArray → Bool → Bool → Option (Int × ByteArray)
 | 0, _, _, _, _ => none
 | k + 1, x13, x151000, x151001, x151002 => if x13 = true then ((words_letters.f k x151000 x151001 x151002).bind fun bt153 => (some (bt153.1, bt153.2))) else ((strings_TrimLeft.f x151000 (⟨#[48]⟩ : ByteArray)).bind fun t155 => (if t155.toList = ([] : List UInt8) then (some (6, (⟨#[]⟩ : ByteArray))) else (if x151001 = true then (some (9, t155)) else (some (10, t155)))))
def words_word.f (k : Nat) (a0_0 : ByteArray) (a0_1 : Bool) (a0_2 : Bool) : Option (Int × ByteArray) := if a0_0.toList = ([] : List UInt8) then (words_word.j0 k false a0_0 a0_1 a0_2) else (if 0 < (a0_0.size : Int) then ((chars_Digit.f (bt a0_0 0)).bind fun t152 => (words_word.j0 k (!t152) a0_0 a0_1 a0_2)) else (none))
theorem words_word.mono_l : ∀ k, (∀ y0 y1 y2 y3, LeO (words_word.j0 k y0 y1 y2 y3) (words_word.j0 (k + 1) y0 y1 y2 y3))
 | 0 => fun _ _ _ _ r h => by simp [words_word.j0] at h
 | k + 1 => by
  have ih0 := words_word.mono_l k
  ·intro y0 y1 y2 y3
   unfold words_word.j0
   have m0 := @words_letters.mono
   exact mo
theorem words_word.mono : ∀ a0 a1 a2 k, LeO (words_word.f k a0 a1 a2) (words_word.f (k + 1) a0 a1 a2) := by
 intro a0 a1 a2 k
 have ih0 := words_word.mono_l k
 unfold words_word.f
 have m0 := @words_letters.mono
 exact mo
theorem words_word.calls (k : Nat) (a0_0 : ByteArray) (a0_1 : Bool) (a0_2 : Bool) (r1 : Int) (r2 : ByteArray) (w : World) (hG : Glob w) (h : words_word.f k a0_0 a0_1 a0_2 = some (r1, r2)) :
 Calls Tryd.prog 74 #[.agg #[.string a0_0, .bool a0_1, .bool a0_2]] w fun e w' => e = .returned (.agg #[.int .i64 r1, .string r2]) ∧ Below w.heap.size w w' := by
 have hu93 := Tryd.underlying93
 have hu38 := Tryd.underlying38
 have HG := Aside0.mk hG
 clear hG
 have HB := Aside0.mk (Below.refl w.heap.size w)
 have H : (if a0_0.toList = ([] : List UInt8) then (words_word.j0 k false a0_0 a0_1 a0_2) else (if 0 < (a0_0.size : Int) then ((chars_Digit.f (bt a0_0 0)).bind fun t152 => (words_word.j0 k (!t152) a0_0 a0_1 a0_2)) else (none))) = some (r1, r2) := h
 clear h
 have HC2 := Aside0.mk H
 clear H
 go_enter Tryd.func74, Tryd.ntmps74
 go_upto_region 1 with (first | (refine be 1 #[.string a0_0, .bool a0_1, .bool a0_2] 93 ?_; intro gb150 hg w3 hbox hb; have BK150 := Aside0.mk (hbox); have GW150 := gW hg; have GE150 := gW hg; replace HB := sB hb; clear hb hbox hg) | (refine be 2 #[.int .i64 0, .string (⟨#[]⟩ : ByteArray)] 38 ?_; intro gb151 hg w4 hbox hb; have BK151 := Aside0.mk (hbox); have GW151 := gW hg; have GE151 := gW hg; replace HB := sB hb; have NB150_151 := nL BK150 hg; have NB151_150 := nG BK150 hg; replace BK150 := kB BK150 hb; clear hb hbox hg))
 (try simp only [Act.put, List.setIfInBounds_toArray, List.set_cons_zero, List.set_cons_succ])
 go_cut [13] (fun v13 wc => ∃ (kq : Nat) (x13_1 : Bool), v13 = .bool x13_1 ∧ Aside0 (words_word.j0 kq x13_1 a0_0 a0_1 a0_2 = some (r1, r2)) ∧ Aside0 (kq ≤ k) ∧ Aside0 (wc.heap[gb150]? = some (.cells #[.string a0_0, .bool a0_1, .bool a0_2] 93 (0, 0))) ∧ Aside0 (wc.heap[gb151]? = some (.cells #[.int .i64 0, .string (⟨#[]⟩ : ByteArray)] 38 (0, 0))) ∧ Aside0 (Below w.heap.size w wc))
 case first =>
  have H := HC2.out
  clear HC2
  by_cases c5 : a0_0.toList = ([] : List UInt8)
  ·rw [if_pos c5] at H
   obtain ⟨c5b0, c5b1⟩ := eqT c5
   (try (have c5b2 : a0_0.toList.isEmpty = true := by simpa using c5))
   clear c5
   (first | rw [c5b0] | rw [c5b2] | (simp only [i64_w, i32_w]; rw [c5b0]) | skip)
   have H' := Aside0.mk H
   clear H
   have hnb6 := NB150_151.out
   have hnc6 := NB151_150.out
   obtain ⟨hcz7_0, hcz7_1, hcz7_2, hfz7_0, hfz7_1, hfz7_2⟩ := cells3 BK150
   go_wp2
   go_meet
   case rel => exact ⟨_, (false), cA, H', ⟨by first | omega | exact Nat.le_refl _⟩, ⟨bK BK150⟩, ⟨bK BK151⟩, ⟨bG⟩⟩
  rw [if_neg c5] at H
  obtain ⟨c5b0, c5b1⟩ := eqF c5
  (try (have c5b2 : a0_0.toList.isEmpty = false := by simpa using c5))
  (first | rw [c5b0] | rw [c5b2] | (simp only [i64_w, i32_w]; rw [c5b0]) | skip)
  by_cases c8 : 0 < (a0_0.size : Int)
  rotate_left
  ·rw [if_neg c8] at H
   exact absurd H (by simp)
  rw [if_pos c8] at H
  have c8b0 := decide_eq_true c8
  have c8b1 : decide (0 < a0_0.size) = true := decide_eq_true (by omega)
  clear c8
  replace H := Option.bind_eq_some_iff.mp H
  obtain ⟨t152, A100, H⟩ := H
  try dsimp only at H
  have A10 := Aside0.mk A100
  clear A100
  have H' := Aside0.mk H
  clear H
  have hnb11 := NB150_151.out
  have hnc11 := NB151_150.out
  obtain ⟨hcz12_0, hcz12_1, hcz12_2, hfz12_0, hfz12_1, hfz12_2⟩ := cells3 BK150
  have p9 : 0 ≤ (0 : Int) := (by omega)
  have q9 : 0 < a0_0.size := (by have : (0 : Int) < (a0_0.size : Int) := dA; omega)
  have hx9 : ∀ h : 0 < a0_0.size, ((a0_0[0]'h).toNat : Int) = bt a0_0 0 := bt_at a0_0 0
  clear p9
  have qi9 : (0 < (a0_0.size : Int)) = True := eq_true (dA)
  replace q9 := eq_true q9
  go_wp2_with (first | (go_at_call 106; (with_reducible refine (chars_Digit.calls (bt a0_0 0) t152 _ (gS HG) A10.out).mono ?_); rintro e w' ⟨rfl, ⟨nd, rfl⟩⟩))
  go_meet
  case rel => exact ⟨_, (!t152), cA, H', ⟨by first | omega | exact Nat.le_refl _⟩, ⟨bK BK150⟩, ⟨bK BK151⟩, ⟨bG⟩⟩
 clear HC2
 try clear c1
 try clear p2
 try clear c5
 try clear c5b0
 try clear c5b1
 try clear c5b2
 try clear c6
 try clear c7
 try clear c8
 try clear c8b0
 try clear c8b1
 try clear p9
 try clear q9
 try clear hx9
 try clear qi9
 try clear c11
 try clear hcz12_0
 try clear hcz12_1
 try clear hcz12_2
 try clear hcz7_0
 try clear hcz7_1
 try clear hcz7_2
 try clear hfz12_0
 try clear hfz12_1
 try clear hfz12_2
 try clear hfz7_0
 try clear hfz7_1
 try clear hfz7_2
 try clear p9
 try clear q9
 obtain ⟨kq, x13_1, rfl, HA, HJ1, BK150, BK151, HB⟩ := hcut
 cases kq with
 | zero => exact absurd HA.out (by simp [words_word.j0])
 | succ kj1 =>
  have H := HA.out
  clear HA
  simp only [words_word.j0] at H
  (try simp only [toList_lit] at H)
  by_cases c13 : x13_1 = true
  ·subst c13
   have H1 : ((words_letters.f kj1 a0_0 a0_1 a0_2).bind fun bt153 => (some (bt153.1, bt153.2))) = some (r1, r2) := by rw [if_pos rfl] at H; exact H
   clear H
   have H := H1
   clear H1
   replace H := Option.bind_eq_some_iff.mp H
   obtain ⟨⟨t153, t154⟩, A140, H⟩ := H
   try dsimp only at H
   have A14 := Aside0.mk A140
   clear A140
   simp only [Option.some.injEq, Prod.mk.injEq] at H
   obtain ⟨rfl, rfl⟩ := H
   have hnb15 := NB150_151.out
   have hnc15 := NB151_150.out
   obtain ⟨hcz16_0, hcz16_1, hcz16_2, hfz16_0, hfz16_1, hfz16_2⟩ := cells3 BK150
   go_wp2_with (first | (refine gl (some 15) Tryd.func107 #[.agg #[.string a0_0, .bool a0_1, .bool a0_2]] ?_; (with_reducible refine (words_letters.calls kj1 a0_0 a0_1 a0_2 t153 t154 _ (gS HG) A14.out).mono ?_); rintro e w17 ⟨rfl, hb⟩; refine ⟨_, rfl, ?_⟩; replace BK150 := kB BK150 hb; replace BK151 := kB BK151 hb; replace HB := sB hb; (try clear hb); have hcz18_0 : w17.cell? ⟨gb151, 0, none⟩ = some (.int .i64 0) := (blk_cell BK151.out 0).trans rfl; have hcz18_1 : w17.cell? ⟨gb151, 1, none⟩ = some (.string (⟨#[]⟩ : ByteArray)) := (blk_cell BK151.out 1).trans rfl; have hfz18_0 := blk_frozen BK151.out 0; have hfz18_1 := blk_frozen BK151.out 1))
   refine bodyPost_ret (results_cell_row rfl _ _ gb151 38 #[.int .i64 t153, .string t154] (0, 0) _ rfl (bP BK151) Tryd.underlying38 rfl (by kernel_rfl)) rfl ?_
   exact ⟨eA, bG⟩
  replace c13 := Bool.eq_false_iff.mpr c13
  subst c13
  have H1 : ((strings_TrimLeft.f a0_0 (⟨#[48]⟩ : ByteArray)).bind fun t155 => (if t155.toList = ([] : List UInt8) then (some (6, (⟨#[]⟩ : ByteArray))) else (if a0_1 = true then (some (9, t155)) else (some (10, t155))))) = some (r1, r2) := by rw [if_neg (show ¬ (false = true) by decide)] at H; exact H
  clear H
  have H := H1
  clear H1
  replace H := Option.bind_eq_some_iff.mp H
  obtain ⟨t155, A190, H⟩ := H
  try dsimp only at H
  have A19 := Aside0.mk A190
  clear A190
  by_cases c20 : t155.toList = ([] : List UInt8)
  ·rw [if_pos c20] at H
   obtain ⟨c20b0, c20b1⟩ := eqT c20
   (try (have c20b2 : t155.toList.isEmpty = true := by simpa using c20))
   clear c20
   simp only [Option.some.injEq, Prod.mk.injEq] at H
   obtain ⟨rfl, rfl⟩ := H
   have hnb21 := NB150_151.out
   have hnc21 := NB151_150.out
   obtain ⟨hcz22_0, hcz22_1, hcz22_2, hfz22_0, hfz22_1, hfz22_2⟩ := cells3 BK150
   go_wp2_with (first | (refine gl (some 18) Tryd.func108 #[.string a0_0, .string (⟨#[48]⟩ : ByteArray)] ?_; (with_reducible refine (strings_TrimLeft.calls a0_0 (⟨#[48]⟩ : ByteArray) t155 _ (gS HG) A19.out).mono ?_); rintro e w' ⟨rfl, ⟨nd, rfl⟩⟩; refine ⟨_, rfl, ?_⟩; (try (rw [drewN_self wc]; generalize hq_ : World.drewN wc _ = wc; have n0_ : Aside0 (wc.heap[gb150]? = some (.cells #[.string a0_0, .bool a0_1, .bool a0_2] 93 (0, 0))) := ⟨by rw [← hq_]; exact (bK BK150)⟩; have n1_ : Aside0 (wc.heap[gb151]? = some (.cells #[.int .i64 0, .string (⟨#[]⟩ : ByteArray)] 38 (0, 0))) := ⟨by rw [← hq_]; exact (bK BK151)⟩; have n2_ : Aside0 (Below w.heap.size w wc) := ⟨by rw [← hq_]; exact bG⟩; clear BK150 BK151 HB hq_; have BK150 := n0_; have BK151 := n1_; have HB := n2_; clear n0_ n1_ n2_; have hcz22_0 : wc.cell? ⟨gb150, 0, none⟩ = some (.string a0_0) := (blk_cell BK150.out 0).trans rfl; have hcz22_1 : wc.cell? ⟨gb150, 1, none⟩ = some (.bool a0_1) := (blk_cell BK150.out 1).trans rfl; have hcz22_2 : wc.cell? ⟨gb150, 2, none⟩ = some (.bool a0_2) := (blk_cell BK150.out 2).trans rfl; have hfz22_0 := blk_frozen BK150.out 0; have hfz22_1 := blk_frozen BK150.out 1; have hfz22_2 := blk_frozen BK150.out 2)); have hcz23_0 : wc.cell? ⟨gb151, 0, none⟩ = some (.int .i64 0) := (blk_cell BK151.out 0).trans rfl; have hcz23_1 : wc.cell? ⟨gb151, 1, none⟩ = some (.string (⟨#[]⟩ : ByteArray)) := (blk_cell BK151.out 1).trans rfl; have hfz23_0 := blk_frozen BK151.out 0; have hfz23_1 := blk_frozen BK151.out 1))
   refine bodyPost_ret (results_cell_row rfl _ _ gb151 38 #[.int .i64 6, .string (⟨#[]⟩ : ByteArray)] (0, 0) _ rfl (bP BK151) Tryd.underlying38 rfl (by kernel_rfl)) rfl ?_
   exact ⟨eA, bG⟩
  rw [if_neg c20] at H
  obtain ⟨c20b0, c20b1⟩ := eqF c20
  (try (have c20b2 : t155.toList.isEmpty = false := by simpa using c20))
  by_cases c24 : a0_1 = true
  ·subst c24
   have H1 : (some (9, t155)) = some (r1, r2) := by rw [if_pos rfl] at H; exact H
   clear H
   have H := H1
   clear H1
   simp only [Option.some.injEq, Prod.mk.injEq] at H
   obtain ⟨rfl, rfl⟩ := H
   have hnb25 := NB150_151.out
   have hnc25 := NB151_150.out
   obtain ⟨hcz26_0, hcz26_1, hcz26_2, hfz26_0, hfz26_1, hfz26_2⟩ := cells3 BK150
   go_wp2_with (first | (refine gl (some 18) Tryd.func108 #[.string a0_0, .string (⟨#[48]⟩ : ByteArray)] ?_; (with_reducible refine (strings_TrimLeft.calls a0_0 (⟨#[48]⟩ : ByteArray) t155 _ (gS HG) A19.out).mono ?_); rintro e w' ⟨rfl, ⟨nd, rfl⟩⟩; refine ⟨_, rfl, ?_⟩; (try (rw [drewN_self wc]; generalize hq_ : World.drewN wc _ = wc; have n0_ : Aside0 (wc.heap[gb150]? = some (.cells #[.string a0_0, .bool true, .bool a0_2] 93 (0, 0))) := ⟨by rw [← hq_]; exact (bK BK150)⟩; have n1_ : Aside0 (wc.heap[gb151]? = some (.cells #[.int .i64 0, .string (⟨#[]⟩ : ByteArray)] 38 (0, 0))) := ⟨by rw [← hq_]; exact (bK BK151)⟩; have n2_ : Aside0 (Below w.heap.size w wc) := ⟨by rw [← hq_]; exact bG⟩; clear BK150 BK151 HB hq_; have BK150 := n0_; have BK151 := n1_; have HB := n2_; clear n0_ n1_ n2_; have hcz26_0 : wc.cell? ⟨gb150, 0, none⟩ = some (.string a0_0) := (blk_cell BK150.out 0).trans rfl; have hcz26_1 : wc.cell? ⟨gb150, 1, none⟩ = some (.bool true) := (blk_cell BK150.out 1).trans rfl; have hcz26_2 : wc.cell? ⟨gb150, 2, none⟩ = some (.bool a0_2) := (blk_cell BK150.out 2).trans rfl; have hfz26_0 := blk_frozen BK150.out 0; have hfz26_1 := blk_frozen BK150.out 1; have hfz26_2 := blk_frozen BK150.out 2)); have hcz27_0 : wc.cell? ⟨gb151, 0, none⟩ = some (.int .i64 0) := (blk_cell BK151.out 0).trans rfl; have hcz27_1 : wc.cell? ⟨gb151, 1, none⟩ = some (.string (⟨#[]⟩ : ByteArray)) := (blk_cell BK151.out 1).trans rfl; have hfz27_0 := blk_frozen BK151.out 0; have hfz27_1 := blk_frozen BK151.out 1))
   refine bodyPost_ret (results_cell_row rfl _ _ gb151 38 #[.int .i64 9, .string t155] (0, 0) _ rfl (bP BK151) Tryd.underlying38 rfl (by kernel_rfl)) rfl ?_
   exact ⟨eA, bG⟩
  replace c24 := Bool.eq_false_iff.mpr c24
  subst c24
  have H1 : (some (10, t155)) = some (r1, r2) := by rw [if_neg (show ¬ (false = true) by decide)] at H; exact H
  clear H
  have H := H1
  clear H1
  simp only [Option.some.injEq, Prod.mk.injEq] at H
  obtain ⟨rfl, rfl⟩ := H
  have hnb28 := NB150_151.out
  have hnc28 := NB151_150.out
  obtain ⟨hcz29_0, hcz29_1, hcz29_2, hfz29_0, hfz29_1, hfz29_2⟩ := cells3 BK150
  go_wp2_with (first | (refine gl (some 18) Tryd.func108 #[.string a0_0, .string (⟨#[48]⟩ : ByteArray)] ?_; (with_reducible refine (strings_TrimLeft.calls a0_0 (⟨#[48]⟩ : ByteArray) t155 _ (gS HG) A19.out).mono ?_); rintro e w' ⟨rfl, ⟨nd, rfl⟩⟩; refine ⟨_, rfl, ?_⟩; (try (rw [drewN_self wc]; generalize hq_ : World.drewN wc _ = wc; have n0_ : Aside0 (wc.heap[gb150]? = some (.cells #[.string a0_0, .bool false, .bool a0_2] 93 (0, 0))) := ⟨by rw [← hq_]; exact (bK BK150)⟩; have n1_ : Aside0 (wc.heap[gb151]? = some (.cells #[.int .i64 0, .string (⟨#[]⟩ : ByteArray)] 38 (0, 0))) := ⟨by rw [← hq_]; exact (bK BK151)⟩; have n2_ : Aside0 (Below w.heap.size w wc) := ⟨by rw [← hq_]; exact bG⟩; clear BK150 BK151 HB hq_; have BK150 := n0_; have BK151 := n1_; have HB := n2_; clear n0_ n1_ n2_; have hcz29_0 : wc.cell? ⟨gb150, 0, none⟩ = some (.string a0_0) := (blk_cell BK150.out 0).trans rfl; have hcz29_1 : wc.cell? ⟨gb150, 1, none⟩ = some (.bool false) := (blk_cell BK150.out 1).trans rfl; have hcz29_2 : wc.cell? ⟨gb150, 2, none⟩ = some (.bool a0_2) := (blk_cell BK150.out 2).trans rfl; have hfz29_0 := blk_frozen BK150.out 0; have hfz29_1 := blk_frozen BK150.out 1; have hfz29_2 := blk_frozen BK150.out 2)); have hcz30_0 : wc.cell? ⟨gb151, 0, none⟩ = some (.int .i64 0) := (blk_cell BK151.out 0).trans rfl; have hcz30_1 : wc.cell? ⟨gb151, 1, none⟩ = some (.string (⟨#[]⟩ : ByteArray)) := (blk_cell BK151.out 1).trans rfl; have hfz30_0 := blk_frozen BK151.out 0; have hfz30_1 := blk_frozen BK151.out 1))
  refine bodyPost_ret (results_cell_row rfl _ _ gb151 38 #[.int .i64 10, .string t155] (0, 0) _ rfl (bP BK151) Tryd.underlying38 rfl (by kernel_rfl)) rfl ?_
  exact ⟨eA, bG⟩
def words_Split.l0 : Nat → List (S38) → List (S93) → Option ((List (S38)))
 | 0, _, _ => none
 | k + 1, x3, x4 => if (x4.length : Int) = 0 then ((api_Word_73.f k x3).bind fun t160 => (some t160)) else (if 0 ≤ (wrap64 ((x4.length : Int) - 1)) then (if (wrap64 ((x4.length : Int) - 1)) < (x4.length : Int) then ((words_word.f k ((rd_T93 x4 (wrap64 ((x4.length : Int) - 1))).f0) ((rd_T93 x4 (wrap64 ((x4.length : Int) - 1))).f1) ((rd_T93 x4 (wrap64 ((x4.length : Int) - 1))).f2)).bind fun bt162 => (if (wrap64 ((x4.length : Int) - 1)) ≤ (x4.length : Int) then ((some (x4.take ((wrap64 ((x4.length : Int) - 1)) : Int).toNat : List (S93))).bind fun y165 => (if bt162.1 = 6 then (if (x3.length : Int) > 0 then (if 0 ≤ (wrap64 ((x3.length : Int) - 1)) then (if (wrap64 ((x3.length : Int) - 1)) < (x3.length : Int) then (if ((rd_T38 x3 (wrap64 ((x3.length : Int) - 1))).f0) = 6 then (if x3.length < 5864062014805 then (words_Split.l0 k (x3 ++ [(⟨bt162.1, bt162.2⟩ : S38)]) y165) else (none)) else (if ((rd_T38 x3 (wrap64 ((x3.length : Int) - 1))).f0) = 10 then (if x3.length < 5864062014805 then (words_Split.l0 k (x3 ++ [(⟨bt162.1, bt162.2⟩ : S38)]) y165) else (none)) else (words_Split.l0 k x3 y165))) else (none)) else (none)) else (words_Split.l0 k x3 y165)) else (if x3.length < 5864062014805 then (words_Split.l0 k (x3 ++ [(⟨bt162.1, bt162.2⟩ : S38)]) y165) else (none)))) else (none))) else (none)) else (none))
def words_Split.f (k : Nat) (a0 : ByteArray) : Option ((List (S38))) := (chars_Lower.f a0).bind fun t156 => ((words_parts.f k t156).bind fun t157 => (words_Split.l0 k ([] : List (S38)) t157))
theorem words_Split.mono_l : ∀ k, (∀ y0 y1, LeO (words_Split.l0 k y0 y1) (words_Split.l0 (k + 1) y0 y1))
 | 0 => fun _ _ r h => by simp [words_Split.l0] at h
 | k + 1 => by
  have ih0 := words_Split.mono_l k
  ·intro y0 y1
   unfold words_Split.l0
   have m0 := @api_Word_73.mono
   have m1 := @words_parts.mono
   have m2 := @words_word.mono
   exact mo
theorem words_Split.mono : ∀ a0 k, LeO (words_Split.f k a0) (words_Split.f (k + 1) a0) := by
 intro a0 k
 have ih0 := words_Split.mono_l k
 unfold words_Split.f
 have m0 := @api_Word_73.mono
 have m1 := @words_parts.mono
 have m2 := @words_word.mono
 exact mo
theorem words_Split.calls (k : Nat) (a0 : ByteArray) (r : List (S38)) (w : World) (hG : Glob w) (h : words_Split.f k a0 = some r) :
 Calls Tryd.prog 31 #[.string a0] w fun e w' => ∃ v0_ : Value, e = .returned (v0_) ∧ Kd.R k38 38 w' w.heap.size (fun _ => True) v0_ r ∧ Below w.heap.size w w' := by
 have hu93 := Tryd.underlying93
 have hu38 := Tryd.underlying38
 have HG := Aside0.mk hG
 clear hG
 have HB := Aside0.mk (Below.refl w.heap.size w)
 have H : ((chars_Lower.f a0).bind fun t156 => ((words_parts.f k t156).bind fun t157 => (words_Split.l0 k ([] : List (S38)) t157))) = some r := h
 clear h
 have HS2 := Aside0.mk H
 clear H
 go_enter Tryd.func31, Tryd.ntmps31
 go_wp2
 refine wp_scope_loop 0 (by rfl) ?_
 have H := HS2.out
 clear HS2
 replace H := Option.bind_eq_some_iff.mp H
 obtain ⟨t156, A30, H⟩ := H
 try dsimp only at H
 have A3 := Aside0.mk A30
 clear A30
 replace H := Option.bind_eq_some_iff.mp H
 obtain ⟨t157, A40, H⟩ := H
 try dsimp only at H
 have A4 := Aside0.mk A40
 clear A40
 have H' := Aside0.mk H
 clear H
 go_wp2_with (first | (refine gl (some 7) Tryd.func72 #[.string a0] ?_; (with_reducible refine (chars_Lower.calls a0 t156 _ (gS HG) A3.out).mono ?_); rintro e w5 ⟨rfl, hb⟩; refine ⟨_, rfl, ?_⟩; replace HB := sB hb; (try clear hb)) | (refine gl (some 8) Tryd.func71 #[.string t156] ?_; (with_reducible refine (words_parts.calls k t156 t157 _ (gS HG) A4.out).mono ?_); rintro e w6 ⟨v158, rfl, ho0, hb⟩; refine ⟨_, rfl, ?_⟩; have HO159 := Aside0.mk (Kd.R_lower ho0 (below_size bE)); replace HB := sB hb; (try clear hb); (try clear ho0)))
 refine wp_label ?_
 rename_i hlb
 refine hlb _ _ ?_
 refine wp_at_label ?_
 refine LoopAt.intro (fun aB_ kq_ a1 w1 => ∃ (u2 u3 u4 u5 u9 u10 u11 u12 u13 u14 u15 u16 u17 u18 u19 u20 u21 u22 u23 u24 u25 u26 u27 u28 u29 u30 u31 u32 u33 u34 u35 u36 u37 u38 u39 u40 u41 u42 u43 u44 u45 u46 u47 u48 u49 u50 u51 u52 u53 u54 u55 u56 u57 u58 : Value), (fun kq v3 v4 w' => ∃ (x3_1 : List (S38)) (x4_1 : List (S93)), Aside0 (words_Split.l0 kq x3_1 x4_1 = some r) ∧ Aside0 (kq ≤ k) ∧ Aside0 (Kd.R k38 38 w' w.heap.size (fun _ => True) v3 x3_1) ∧ Aside0 (Kd.R k93 93 w' w.heap.size (fun _ => True) v4 x4_1) ∧ Aside0 (Below w.heap.size w w')) kq_ u3 u4 w1 ∧ a1 = ((((((((((((((((((((((((((((((((((((((((((((((((((((((aB_.put (some 2) u2).put (some 3) u3).put (some 4) u4).put (some 5) u5).put (some 9) u9).put (some 10) u10).put (some 11) u11).put (some 12) u12).put (some 13) u13).put (some 14) u14).put (some 15) u15).put (some 16) u16).put (some 17) u17).put (some 18) u18).put (some 19) u19).put (some 20) u20).put (some 21) u21).put (some 22) u22).put (some 23) u23).put (some 24) u24).put (some 25) u25).put (some 26) u26).put (some 27) u27).put (some 28) u28).put (some 29) u29).put (some 30) u30).put (some 31) u31).put (some 32) u32).put (some 33) u33).put (some 34) u34).put (some 35) u35).put (some 36) u36).put (some 37) u37).put (some 38) u38).put (some 39) u39).put (some 40) u40).put (some 41) u41).put (some 42) u42).put (some 43) u43).put (some 44) u44).put (some 45) u45).put (some 46) u46).put (some 47) u47).put (some 48) u48).put (some 49) u49).put (some 50) u50).put (some 51) u51).put (some 52) u52).put (some 53) u53).put (some 54) u54).put (some 55) u55).put (some 56) u56).put (some 57) u57).put (some 58) u58)) k ?_ ?_
 ·(repeat apply Exists.intro)
  (try simp only [Act.put, List.setIfInBounds_toArray, List.set_cons_zero, List.set_cons_succ])
  refine ⟨?_, rfl⟩
  exact ⟨(([] : List (S38))), (t157), H', ⟨Nat.le_refl _⟩, ⟨by first | exact Kd.R_nil _ _ _ _ _ | exact Kd.N_nil _ _ _ _ _ | exact Kd.V_nil _ _ _ _ _ | exact Kd.Q_nil _ _ _ _ _ | exact Kd.S_nil _ _ _ _ _⟩, ⟨kR HO159⟩, ⟨bE⟩⟩
 ·intro gk a1 wr hinv
  obtain ⟨u2, u3, u4, u5, u9, u10, u11, u12, u13, u14, u15, u16, u17, u18, u19, u20, u21, u22, u23, u24, u25, u26, u27, u28, u29, u30, u31, u32, u33, u34, u35, u36, u37, u38, u39, u40, u41, u42, u43, u44, u45, u46, u47, u48, u49, u50, u51, u52, u53, u54, u55, u56, u57, u58, hrel, ha⟩ := hinv
  subst ha
  (try simp only [Act.put, List.setIfInBounds_toArray, List.set_cons_zero, List.set_cons_succ])
  intro Js0 Ks0 hJs0 hKs0
  clear H'
  try clear p2
  try clear c3
  obtain ⟨x3_1, x4_1, HA, HK1, HO_3, HO_4, HB⟩ := hrel
  cases gk with
  | zero => exact absurd HA.out (by simp [words_Split.l0])
  | succ k1 =>
   have H := HA.out
   clear HA
   simp only [words_Split.l0] at H
   by_cases c7 : (x4_1.length : Int) = 0
   ·rw [if_pos c7] at H
    obtain ⟨c7b0, c7b1⟩ := eqT c7
    clear c7
    replace H := Option.bind_eq_some_iff.mp H
    obtain ⟨t160, A80, H⟩ := H
    try dsimp only at H
    have A8 := Aside0.mk A80
    clear A80
    obtain rfl := Option.some.inj H
    obtain ⟨Ao9, co9, eo9⟩ := Kd.R_slice HO_4.out
    subst eo9
    obtain ⟨Ao10, co10, eo10⟩ := Kd.R_slice HO_3.out
    subst eo10
    go_wp2_with (first | (refine gl (some 13) Tryd.func73 #[.slice Ao10 x3_1.length co10] ?_; (with_reducible refine (api_Word_73.calls k1 (fun k_ => some k_ = (.slice Ao10 x3_1.length co10 : Value).ownBlock) (.slice Ao10 x3_1.length co10) x3_1 t160 w _ ?side1 ?side2 ?side3 A8.out).mono ?_); (case side1 => repeat (first | (with_reducible first | exact HB.out | apply below_alloc | apply pw_below_drewN | apply below_drew1) | exact HB.out)); (case side2 => exact Kd.R_tight rfl HO_3.out); (case side3 => exact HG.out); rintro e w11 ⟨rfl, hy0, hb, hkp⟩; refine ⟨_, rfl, ?_⟩; replace HO_4 := Aside0.mk (Kd.R_mono (ok' := fun k_ => True) (Kd.R_keptB ((Kd.R_apart' HO_4.out (Kd.R_typed HO_3.out) (by decide))) hkp (fun k_ hk_ hs_ => (hk_.2) hs_)) (fun k_ hk_ => trivial)); replace HO_3 := Aside0.mk (Kd.R_reok rfl hy0 (fun k_ e_ => HO_3.out.1 k_ e_)); replace HB := Aside0.mk (hb); (try clear hb); (try clear hkp); (try clear hy0)))
    (try simp only [Exit.inBlock, Exit.then, jump_ret])
    go_ret
    exact ⟨_, by first | rfl | (simp [errW_none, errW_some] <;> rfl) | (simp [*, errW_none, errW_some] <;> rfl), by (with_reducible repeat (first | apply Kd.R_alloc | apply Kd.R_drewN | apply Kd.R_drew)); exact HO_3.out, bE⟩
   rw [if_neg c7] at H
   obtain ⟨c7b0, c7b1⟩ := eqF c7
   have c7b2 : ¬ (x4_1 = []) := fun h_ => c7 (by rw [h_]; rfl)
   obtain ⟨ji12, hji12⟩ : ∃ j_ : Int, (wrap64 ((x4_1.length : Int) - 1)) = j_ := ⟨_, rfl⟩
   rw [hji12] at H
   have hji12w : (IntKind.i64.wrap ((x4_1.length : Int) - 1)) = ji12 := (i64_w _).trans hji12
   by_cases c13 : 0 ≤ (ji12)
   rotate_left
   ·rw [if_neg c13] at H
    exact absurd H (by simp)
   rw [if_pos c13] at H
   have c13b0 := decide_eq_true c13
   clear c13
   by_cases c14 : (ji12) < (x4_1.length : Int)
   rotate_left
   ·rw [if_neg c14] at H
    exact absurd H (by simp)
   rw [if_pos c14] at H
   have c14b0 := decide_eq_true c14
   clear c14
   replace H := Option.bind_eq_some_iff.mp H
   obtain ⟨⟨t162, t163⟩, A150, H⟩ := H
   try dsimp only at H
   have A15 := Aside0.mk A150
   clear A150
   by_cases c16 : (ji12) ≤ (x4_1.length : Int)
   rotate_left
   ·rw [if_neg c16] at H
    exact absurd H (by simp)
   rw [if_pos c16] at H
   have c16b0 := eq_true c16
   have c16b1 := decide_eq_true c16
   clear c16
   obtain ⟨y165, hy165⟩ : ∃ y_ : List (S93), y_ = (x4_1.take ((ji12) : Int).toNat) := ⟨_, rfl⟩
   replace H : (if t162 = 6 then (if (x3_1.length : Int) > 0 then (if 0 ≤ (wrap64 ((x3_1.length : Int) - 1)) then (if (wrap64 ((x3_1.length : Int) - 1)) < (x3_1.length : Int) then (if ((rd_T38 x3_1 (wrap64 ((x3_1.length : Int) - 1))).f0) = 6 then (if x3_1.length < 5864062014805 then (words_Split.l0 k1 (x3_1 ++ [(⟨t162, t163⟩ : S38)]) y165) else (none)) else (if ((rd_T38 x3_1 (wrap64 ((x3_1.length : Int) - 1))).f0) = 10 then (if x3_1.length < 5864062014805 then (words_Split.l0 k1 (x3_1 ++ [(⟨t162, t163⟩ : S38)]) y165) else (none)) else (words_Split.l0 k1 x3_1 y165))) else (none)) else (none)) else (words_Split.l0 k1 x3_1 y165)) else (if x3_1.length < 5864062014805 then (words_Split.l0 k1 (x3_1 ++ [(⟨t162, t163⟩ : S38)]) y165) else (none))) = some r := by first | (rw [hy165]; with_reducible exact H) | (have H2_ := (Option.bind_some _ _).symm.trans H; rw [hy165]; with_reducible exact H2_) | (have H2_ := (Option.bind_some _ _).symm.trans H; with_reducible exact H2_) | with_reducible exact H | (rw [hy165]; exact H) | exact H
   have Ny165 := Aside0.mk hy165
   clear hy165
   by_cases c17 : t162 = 6
   rotate_left
   ·rw [if_neg c17] at H
    obtain ⟨c17b0, c17b1⟩ := eqF c17
    by_cases c60 : x3_1.length < 5864062014805
    rotate_left
    ·rw [if_neg c60] at H
     exact absurd H (by simp)
    rw [if_pos c60] at H
    have LMc60 := Aside0.mk c60
    clear c60
    obtain ⟨y176, hy176⟩ : ∃ y_ : List (S38), y_ = (x3_1 ++ [(⟨t162, t163⟩ : S38)]) := ⟨_, rfl⟩
    replace H : (words_Split.l0 k1 y176 y165) = some r := by first | (rw [hy176]; with_reducible exact H) | (have H2_ := (Option.bind_some _ _).symm.trans H; rw [hy176]; with_reducible exact H2_) | (have H2_ := (Option.bind_some _ _).symm.trans H; with_reducible exact H2_) | with_reducible exact H | (rw [hy176]; exact H) | exact H
    have Ny176 := Aside0.mk hy176
    clear hy176
    have H' := Aside0.mk H
    clear H
    obtain ⟨Ao61, co61, eo61⟩ := Kd.R_slice HO_4.out
    subst eo61
    have p161 : 0 ≤ ((ji12) : Int) := dA
    have q161 : (ji12) < (x4_1.length : Int) := dA
    obtain ⟨ad161, e161, hx161_0, hx161_1, hx161_2⟩ := at_T93 (Kd.R_reads' HO_4.out).2.2 (ji12) p161 q161
    cases e161
    replace p161 := eq_true p161
    replace q161 := eq_true q161
    go_wp2_with (first | ((with_reducible refine gate_callee (f := 74) rfl ?_); refine goesL_ (some 21) rfl rfl Tryd.func74 (by kernel_rfl) rfl #[.agg #[.string ((rd_T93 x4_1 (ji12)).f0), .bool ((rd_T93 x4_1 (ji12)).f1), .bool ((rd_T93 x4_1 (ji12)).f2)]] rfl (by (try simp only [List.map_toArray, List.map_cons, List.map_nil]); first | done | (simp only [hji12]; rfl) | rfl | (simp only [List.length_drop, List.length_take]; rfl)) ?_; (with_reducible refine (words_word.calls k1 ((rd_T93 x4_1 (ji12)).f0) ((rd_T93 x4_1 (ji12)).f1) ((rd_T93 x4_1 (ji12)).f2) t162 t163 _ (gS HG) A15.out).mono ?_); rintro e w62 ⟨rfl, hb⟩; refine ⟨_, rfl, ?_⟩; replace HO_3 := rB HO_3 hb; replace HO_4 := rB HO_4 hb; replace HB := sB hb; (try clear hb)) | ((with_reducible refine gate_dst (N := 5) rfl ?_); (try (refine gate_guard (by rfl) ?_; dsimp only)); refine be 5 #[.int .i64 0, .string (⟨#[]⟩ : ByteArray)] 38 ?_; intro gb164 hg w63 hbox hb; replace HO_3 := Aside0.mk (Kd.R_below (Kd.R_elderB (kR HO_3) gb164 (Nat.le_of_eq hg.symm)) hb); replace HO_4 := rB HO_4 hb; have BK164 := Aside0.mk (hbox); have GW164 := gW hg; have GE164 := gW hg; replace HB := sB hb; clear hb hbox hg; have hcz64_0 : w63.cell? ⟨gb164, 0, none⟩ = some (.int .i64 0) := (blk_cell BK164.out 0).trans rfl; have hcz64_1 : w63.cell? ⟨gb164, 1, none⟩ = some (.string (⟨#[]⟩ : ByteArray)) := (blk_cell BK164.out 1).trans rfl; have hfz64_0 := blk_frozen BK164.out 0; have hfz64_1 := blk_frozen BK164.out 1) | ((with_reducible refine gate_store (t := 38) (p := 5) rfl ?_); refine store_event (t := 38) (p := 5) (v := ?vo_w65) (w1 := ((w63.setCell ⟨gb164, 0, none⟩ (.int .i64 t162)).setCell ⟨gb164, 1, none⟩ (.string t163))) ?hg ?ho ?hn ?hr ?_; (case ho => rfl); (case hg => rfl); (case hn => rfl); (case hr => first | (go_simp; done) | (go_simp; rfl)); intro w65 hw; replace HO_3 : Aside0 (Kd.R k38 38 w65 w.heap.size (fun k_ => k_ ≠ gb164) u3 x3_1) := ⟨(by rw [hw]; exact (by (with_reducible repeat (first | apply Kd.R_alloc | apply Kd.R_drewN | apply Kd.R_drew)); exact Kd.R_mono (Kd.R_far (p := ⟨gb164, 1, none⟩) (Kd.R_far (p := ⟨gb164, 0, none⟩) (Kd.R_mono HO_3.out (fun k_ hk => (⟨hk, hk.2⟩ : _ ∧ k_ ≠ gb164))) (fun _ hk => hk.2) (.int .i64 t162)) (fun _ hk => hk.2) (.string t163)) (fun _ hk => hk.1.2)))⟩; replace HO_4 : Aside0 (Kd.R k93 93 w65 w.heap.size (fun _ => True) (.slice (some ad161) x4_1.length co61) x4_1) := ⟨(by rw [hw]; exact (by (with_reducible repeat (first | apply Kd.R_alloc | apply Kd.R_drewN | apply Kd.R_drew)); exact Kd.R_mono (Kd.R_far (p := ⟨gb164, 1, none⟩) (Kd.R_far (p := ⟨gb164, 0, none⟩) (Kd.R_types HO_4.out BK164.out (by decide)) (fun _ hk => hk.2) (.int .i64 t162)) (fun _ hk => hk.2) (.string t163)) (fun _ hk => trivial)))⟩; replace BK164 : Aside0 (w65.heap[gb164]? = some (.cells #[.int .i64 t162, .string t163] 38 (0, 0))) := ⟨(by rw [hw]; exact (bP BK164))⟩; replace HB : Aside0 (Below w.heap.size w w65) := ⟨(by rw [hw]; exact bG)⟩; clear hw; have q66 : ((ji12) : Int) ≤ ((x4_1.length : Int) : Int) := dA; obtain ⟨i066, hi066, _, hsz66, _⟩ := info_parts info93; have hcut66 := cut_to (P := Tryd.prog) 87 93 .i64 Tryd.underlying87 hi066 (some ad161) x4_1.length co61 (ji12) (dA) q66 (Kd.R_reads' HO_4.out).2.1; have hr66 := Kd.R_take (m := ((ji12) : Int).toNat) HO_4.out (by omega); have hy66 : y165.length = ((ji12) : Int).toNat := (by rw [Ny165.out, List.length_take]; omega); rw [← Ny165.out] at hr66; rw [← hy66] at hr66 hcut66; clear hy66 hi066 hsz66 HO_4; have HO167 := Aside0.mk hr66; clear hr66; replace q66 := eq_true q66; have hcz67_0 : w65.cell? ⟨gb164, 0, none⟩ = some (.int .i64 t162) := (blk_cell BK164.out 0).trans rfl; have hcz67_1 : w65.cell? ⟨gb164, 1, none⟩ = some (.string t163) := (blk_cell BK164.out 1).trans rfl; have hfz67_0 := blk_frozen BK164.out 0; have hfz67_1 := blk_frozen BK164.out 1) | ((with_reducible refine gate_builtin (b := .append) (xs := #[.tmp 55, .tmp 57]) rfl ?_); (try (refine gate_guard (by rfl) ?_; dsimp only)); at_builtin; refine Kd.R_append k38 (w0 := w) w.heap.size rfl (.tmp 55) (.tmp 57) 39 38 (.agg #[(.int .i64 0), (.string ⟨#[]⟩)]) 24 rfl Tryd.underlying39 info38 rfl (by decide) (by omega) u3 x3_1 (⟨t162, t163⟩ : S38) [.int .i64 t162, .string t163] (fun k_ => k_ ≠ gb164) (fun _ => False) rfl rfl ?aP (fun _ hk => hk.elim) ?aF ?aO ?aB ?aS ?aL ?_; (case aP => exact k38_mkM _ _ _ (⟨t162, t163⟩ : S38)); (case aB => exact bG); (case aF => exact (fun k_ hk => Kd.freshB (g := gb164) (o := .cells #[.int .i64 t162, .string t163] 38 (0, 0)) (bK BK164) k_ hk)); (case aO => exact (kR HO_3)); (case aS => exact (below_size bG)); (case aL => have := LMc60.out; omega); intro v177 w68 ho hb hg hat; rw [← Ny176.out] at ho; replace HO167 := Aside0.mk (Kd.R_over' (kR HO167) (Kd.R_typed (kR HO_3)) (by decide) hg); replace BK164 := Aside0.mk (blk_grown (g := gb164) (o := .cells #[.int .i64 t162, .string t163] 38 (0, 0)) (bK BK164) hg (Kd.R_away HO_3.out (fun _ hk => hk))); replace HB := Aside0.mk (hb); have HO178 := Aside0.mk (ho); clear HO_3; clear ho hb hg hat))
    refine wp_goto (And.intro rfl ?_)
    refine hKs0 _ _ ?_
    go_roundg k1
    case measure => have := HK1.out; omega
    case rel => exact ⟨(y176), (y165), H', ⟨by have := HK1.out; omega⟩, ⟨by (with_reducible repeat (first | apply Kd.R_alloc | apply Kd.R_drewN | apply Kd.R_drew)); exact Kd.R_mono HO178.out (fun _ hk => trivial)⟩, ⟨kR HO167⟩, ⟨bG⟩⟩
   rw [if_pos c17] at H
   obtain ⟨c17b0, c17b1⟩ := eqT c17
   clear c17
   by_cases c18 : (x3_1.length : Int) > 0
   rotate_left
   ·rw [if_neg c18] at H
    have c18b0 := decide_eq_false c18
    have c18b1 : decide (0 < x3_1.length) = false := decide_eq_false (by omega)
    clear c18
    have H' := Aside0.mk H
    clear H
    obtain ⟨Ao52, co52, eo52⟩ := Kd.R_slice HO_4.out
    subst eo52
    have p161 : 0 ≤ ((ji12) : Int) := dA
    have q161 : (ji12) < (x4_1.length : Int) := dA
    obtain ⟨ad161, e161, hx161_0, hx161_1, hx161_2⟩ := at_T93 (Kd.R_reads' HO_4.out).2.2 (ji12) p161 q161
    cases e161
    replace p161 := eq_true p161
    replace q161 := eq_true q161
    go_wp2_with (first | ((with_reducible refine gate_callee (f := 74) rfl ?_); refine goesL_ (some 21) rfl rfl Tryd.func74 (by kernel_rfl) rfl #[.agg #[.string ((rd_T93 x4_1 (ji12)).f0), .bool ((rd_T93 x4_1 (ji12)).f1), .bool ((rd_T93 x4_1 (ji12)).f2)]] rfl (by (try simp only [List.map_toArray, List.map_cons, List.map_nil]); first | done | (simp only [hji12]; rfl) | rfl | (simp only [List.length_drop, List.length_take]; rfl)) ?_; (with_reducible refine (words_word.calls k1 ((rd_T93 x4_1 (ji12)).f0) ((rd_T93 x4_1 (ji12)).f1) ((rd_T93 x4_1 (ji12)).f2) t162 t163 _ (gS HG) A15.out).mono ?_); rintro e w53 ⟨rfl, hb⟩; refine ⟨_, rfl, ?_⟩; replace HO_3 := rB HO_3 hb; replace HO_4 := rB HO_4 hb; replace HB := sB hb; (try clear hb)) | ((with_reducible refine gate_dst (N := 5) rfl ?_); (try (refine gate_guard (by rfl) ?_; dsimp only)); refine be 5 #[.int .i64 0, .string (⟨#[]⟩ : ByteArray)] 38 ?_; intro gb164 hg w54 hbox hb; replace HO_3 := Aside0.mk (Kd.R_below (Kd.R_elderB (kR HO_3) gb164 (Nat.le_of_eq hg.symm)) hb); replace HO_4 := rB HO_4 hb; have BK164 := Aside0.mk (hbox); have GW164 := gW hg; have GE164 := gW hg; replace HB := sB hb; clear hb hbox hg; have hcz55_0 : w54.cell? ⟨gb164, 0, none⟩ = some (.int .i64 0) := (blk_cell BK164.out 0).trans rfl; have hcz55_1 : w54.cell? ⟨gb164, 1, none⟩ = some (.string (⟨#[]⟩ : ByteArray)) := (blk_cell BK164.out 1).trans rfl; have hfz55_0 := blk_frozen BK164.out 0; have hfz55_1 := blk_frozen BK164.out 1) | ((with_reducible refine gate_store (t := 38) (p := 5) rfl ?_); refine store_event (t := 38) (p := 5) (v := ?vo_w56) (w1 := ((w54.setCell ⟨gb164, 0, none⟩ (.int .i64 t162)).setCell ⟨gb164, 1, none⟩ (.string t163))) ?hg ?ho ?hn ?hr ?_; (case ho => rfl); (case hg => rfl); (case hn => rfl); (case hr => first | (go_simp; done) | (go_simp; rfl)); intro w56 hw; replace HO_3 : Aside0 (Kd.R k38 38 w56 w.heap.size (fun k_ => k_ ≠ gb164) u3 x3_1) := ⟨(by rw [hw]; exact (by (with_reducible repeat (first | apply Kd.R_alloc | apply Kd.R_drewN | apply Kd.R_drew)); exact Kd.R_mono (Kd.R_far (p := ⟨gb164, 1, none⟩) (Kd.R_far (p := ⟨gb164, 0, none⟩) (Kd.R_mono HO_3.out (fun k_ hk => (⟨hk, hk.2⟩ : _ ∧ k_ ≠ gb164))) (fun _ hk => hk.2) (.int .i64 t162)) (fun _ hk => hk.2) (.string t163)) (fun _ hk => hk.1.2)))⟩; replace HO_4 : Aside0 (Kd.R k93 93 w56 w.heap.size (fun _ => True) (.slice (some ad161) x4_1.length co52) x4_1) := ⟨(by rw [hw]; exact (by (with_reducible repeat (first | apply Kd.R_alloc | apply Kd.R_drewN | apply Kd.R_drew)); exact Kd.R_mono (Kd.R_far (p := ⟨gb164, 1, none⟩) (Kd.R_far (p := ⟨gb164, 0, none⟩) (Kd.R_types HO_4.out BK164.out (by decide)) (fun _ hk => hk.2) (.int .i64 t162)) (fun _ hk => hk.2) (.string t163)) (fun _ hk => trivial)))⟩; replace BK164 : Aside0 (w56.heap[gb164]? = some (.cells #[.int .i64 t162, .string t163] 38 (0, 0))) := ⟨(by rw [hw]; exact (bP BK164))⟩; replace HB : Aside0 (Below w.heap.size w w56) := ⟨(by rw [hw]; exact bG)⟩; clear hw; have q57 : ((ji12) : Int) ≤ ((x4_1.length : Int) : Int) := dA; obtain ⟨i057, hi057, _, hsz57, _⟩ := info_parts info93; have hcut57 := cut_to (P := Tryd.prog) 87 93 .i64 Tryd.underlying87 hi057 (some ad161) x4_1.length co52 (ji12) (dA) q57 (Kd.R_reads' HO_4.out).2.1; have hr57 := Kd.R_take (m := ((ji12) : Int).toNat) HO_4.out (by omega); have hy57 : y165.length = ((ji12) : Int).toNat := (by rw [Ny165.out, List.length_take]; omega); rw [← Ny165.out] at hr57; rw [← hy57] at hr57 hcut57; clear hy57 hi057 hsz57 HO_4; have HO167 := Aside0.mk hr57; clear hr57; replace q57 := eq_true q57; have hcz58_0 : w56.cell? ⟨gb164, 0, none⟩ = some (.int .i64 t162) := (blk_cell BK164.out 0).trans rfl; have hcz58_1 : w56.cell? ⟨gb164, 1, none⟩ = some (.string t163) := (blk_cell BK164.out 1).trans rfl; have hfz58_0 := blk_frozen BK164.out 0; have hfz58_1 := blk_frozen BK164.out 1; obtain ⟨Ao59, co59, eo59⟩ := Kd.R_slice HO_3.out; subst eo59))
    refine wp_goto (And.intro rfl ?_)
    refine hKs0 _ _ ?_
    go_roundg k1
    case measure => have := HK1.out; omega
    case rel => exact ⟨(x3_1), (y165), H', ⟨by have := HK1.out; omega⟩, ⟨by (with_reducible repeat (first | apply Kd.R_alloc | apply Kd.R_drewN | apply Kd.R_drew)); exact Kd.R_mono HO_3.out (fun _ hk => trivial)⟩, ⟨kR HO167⟩, ⟨bG⟩⟩
   rw [if_pos c18] at H
   have c18b0 := decide_eq_true c18
   have c18b1 : decide (0 < x3_1.length) = true := decide_eq_true (by omega)
   clear c18
   obtain ⟨ji19, hji19⟩ : ∃ j_ : Int, (wrap64 ((x3_1.length : Int) - 1)) = j_ := ⟨_, rfl⟩
   rw [hji19] at H
   (try rw [hji19] at A15)
   have hji19w : (IntKind.i64.wrap ((x3_1.length : Int) - 1)) = ji19 := (i64_w _).trans hji19
   by_cases c20 : 0 ≤ (ji19)
   rotate_left
   ·rw [if_neg c20] at H
    exact absurd H (by simp)
   rw [if_pos c20] at H
   have c20b0 := decide_eq_true c20
   clear c20
   by_cases c21 : (ji19) < (x3_1.length : Int)
   rotate_left
   ·rw [if_neg c21] at H
    exact absurd H (by simp)
   rw [if_pos c21] at H
   have c21b0 := decide_eq_true c21
   clear c21
   by_cases c22 : ((rd_T38 x3_1 (ji19)).f0) = 6
   ·rw [if_pos c22] at H
    obtain ⟨c22b0, c22b1⟩ := eqT c22
    clear c22
    by_cases c23 : x3_1.length < 5864062014805
    rotate_left
    ·rw [if_neg c23] at H
     exact absurd H (by simp)
    rw [if_pos c23] at H
    have LMc23 := Aside0.mk c23
    clear c23
    obtain ⟨y169, hy169⟩ : ∃ y_ : List (S38), y_ = (x3_1 ++ [(⟨t162, t163⟩ : S38)]) := ⟨_, rfl⟩
    replace H : (words_Split.l0 k1 y169 y165) = some r := by first | (rw [hy169]; with_reducible exact H) | (have H2_ := (Option.bind_some _ _).symm.trans H; rw [hy169]; with_reducible exact H2_) | (have H2_ := (Option.bind_some _ _).symm.trans H; with_reducible exact H2_) | with_reducible exact H | (rw [hy169]; exact H) | exact H
    have Ny169 := Aside0.mk hy169
    clear hy169
    have H' := Aside0.mk H
    clear H
    obtain ⟨Ao24, co24, eo24⟩ := Kd.R_slice HO_4.out
    subst eo24
    have p161 : 0 ≤ ((ji12) : Int) := dA
    have q161 : (ji12) < (x4_1.length : Int) := dA
    obtain ⟨ad161, e161, hx161_0, hx161_1, hx161_2⟩ := at_T93 (Kd.R_reads' HO_4.out).2.2 (ji12) p161 q161
    cases e161
    replace p161 := eq_true p161
    replace q161 := eq_true q161
    go_wp2_with (first | ((with_reducible refine gate_callee (f := 74) rfl ?_); refine goesL_ (some 21) rfl rfl Tryd.func74 (by kernel_rfl) rfl #[.agg #[.string ((rd_T93 x4_1 (ji12)).f0), .bool ((rd_T93 x4_1 (ji12)).f1), .bool ((rd_T93 x4_1 (ji12)).f2)]] rfl (by (try simp only [List.map_toArray, List.map_cons, List.map_nil]); first | done | (simp only [hji12]; rfl) | rfl | (simp only [List.length_drop, List.length_take]; rfl)) ?_; (with_reducible refine (words_word.calls k1 ((rd_T93 x4_1 (ji12)).f0) ((rd_T93 x4_1 (ji12)).f1) ((rd_T93 x4_1 (ji12)).f2) t162 t163 _ (gS HG) A15.out).mono ?_); rintro e w25 ⟨rfl, hb⟩; refine ⟨_, rfl, ?_⟩; replace HO_3 := rB HO_3 hb; replace HO_4 := rB HO_4 hb; replace HB := sB hb; (try clear hb)) | ((with_reducible refine gate_dst (N := 5) rfl ?_); (try (refine gate_guard (by rfl) ?_; dsimp only)); refine be 5 #[.int .i64 0, .string (⟨#[]⟩ : ByteArray)] 38 ?_; intro gb164 hg w26 hbox hb; replace HO_3 := Aside0.mk (Kd.R_below (Kd.R_elderB (kR HO_3) gb164 (Nat.le_of_eq hg.symm)) hb); replace HO_4 := rB HO_4 hb; have BK164 := Aside0.mk (hbox); have GW164 := gW hg; have GE164 := gW hg; replace HB := sB hb; clear hb hbox hg; have hcz27_0 : w26.cell? ⟨gb164, 0, none⟩ = some (.int .i64 0) := (blk_cell BK164.out 0).trans rfl; have hcz27_1 : w26.cell? ⟨gb164, 1, none⟩ = some (.string (⟨#[]⟩ : ByteArray)) := (blk_cell BK164.out 1).trans rfl; have hfz27_0 := blk_frozen BK164.out 0; have hfz27_1 := blk_frozen BK164.out 1) | ((with_reducible refine gate_store (t := 38) (p := 5) rfl ?_); refine store_event (t := 38) (p := 5) (v := ?vo_w28) (w1 := ((w26.setCell ⟨gb164, 0, none⟩ (.int .i64 t162)).setCell ⟨gb164, 1, none⟩ (.string t163))) ?hg ?ho ?hn ?hr ?_; (case ho => rfl); (case hg => rfl); (case hn => rfl); (case hr => first | (go_simp; done) | (go_simp; rfl)); intro w28 hw; replace HO_3 : Aside0 (Kd.R k38 38 w28 w.heap.size (fun k_ => k_ ≠ gb164) u3 x3_1) := ⟨(by rw [hw]; exact (by (with_reducible repeat (first | apply Kd.R_alloc | apply Kd.R_drewN | apply Kd.R_drew)); exact Kd.R_mono (Kd.R_far (p := ⟨gb164, 1, none⟩) (Kd.R_far (p := ⟨gb164, 0, none⟩) (Kd.R_mono HO_3.out (fun k_ hk => (⟨hk, hk.2⟩ : _ ∧ k_ ≠ gb164))) (fun _ hk => hk.2) (.int .i64 t162)) (fun _ hk => hk.2) (.string t163)) (fun _ hk => hk.1.2)))⟩; replace HO_4 : Aside0 (Kd.R k93 93 w28 w.heap.size (fun _ => True) (.slice (some ad161) x4_1.length co24) x4_1) := ⟨(by rw [hw]; exact (by (with_reducible repeat (first | apply Kd.R_alloc | apply Kd.R_drewN | apply Kd.R_drew)); exact Kd.R_mono (Kd.R_far (p := ⟨gb164, 1, none⟩) (Kd.R_far (p := ⟨gb164, 0, none⟩) (Kd.R_types HO_4.out BK164.out (by decide)) (fun _ hk => hk.2) (.int .i64 t162)) (fun _ hk => hk.2) (.string t163)) (fun _ hk => trivial)))⟩; replace BK164 : Aside0 (w28.heap[gb164]? = some (.cells #[.int .i64 t162, .string t163] 38 (0, 0))) := ⟨(by rw [hw]; exact (bP BK164))⟩; replace HB : Aside0 (Below w.heap.size w w28) := ⟨(by rw [hw]; exact bG)⟩; clear hw; have q29 : ((ji12) : Int) ≤ ((x4_1.length : Int) : Int) := dA; obtain ⟨i029, hi029, _, hsz29, _⟩ := info_parts info93; have hcut29 := cut_to (P := Tryd.prog) 87 93 .i64 Tryd.underlying87 hi029 (some ad161) x4_1.length co24 (ji12) (dA) q29 (Kd.R_reads' HO_4.out).2.1; have hr29 := Kd.R_take (m := ((ji12) : Int).toNat) HO_4.out (by omega); have hy29 : y165.length = ((ji12) : Int).toNat := (by rw [Ny165.out, List.length_take]; omega); rw [← Ny165.out] at hr29; rw [← hy29] at hr29 hcut29; clear hy29 hi029 hsz29 HO_4; have HO167 := Aside0.mk hr29; clear hr29; replace q29 := eq_true q29; have hcz30_0 : w28.cell? ⟨gb164, 0, none⟩ = some (.int .i64 t162) := (blk_cell BK164.out 0).trans rfl; have hcz30_1 : w28.cell? ⟨gb164, 1, none⟩ = some (.string t163) := (blk_cell BK164.out 1).trans rfl; have hfz30_0 := blk_frozen BK164.out 0; have hfz30_1 := blk_frozen BK164.out 1; obtain ⟨Ao31, co31, eo31⟩ := Kd.R_slice HO_3.out; subst eo31; have p168 : 0 ≤ ((ji19) : Int) := dA; have q168 : (ji19) < (x3_1.length : Int) := dA; obtain ⟨ad168, e168, hx168_0, hx168_1⟩ := at_T38 (Kd.R_reads' HO_3.out).2.2 (ji19) p168 q168; cases e168; replace p168 := eq_true p168; replace q168 := eq_true q168) | ((with_reducible refine gate_builtin (b := .append) (xs := #[.tmp 55, .tmp 57]) rfl ?_); (try (refine gate_guard (by rfl) ?_; dsimp only)); at_builtin; refine Kd.R_append k38 (w0 := w) w.heap.size rfl (.tmp 55) (.tmp 57) 39 38 (.agg #[(.int .i64 0), (.string ⟨#[]⟩)]) 24 rfl Tryd.underlying39 info38 rfl (by decide) (by omega) (.slice (some ad168) x3_1.length co31) x3_1 (⟨t162, t163⟩ : S38) [.int .i64 t162, .string t163] (fun k_ => k_ ≠ gb164) (fun _ => False) rfl rfl ?aP (fun _ hk => hk.elim) ?aF ?aO ?aB ?aS ?aL ?_; (case aP => exact k38_mkM _ _ _ (⟨t162, t163⟩ : S38)); (case aB => exact bG); (case aF => exact (fun k_ hk => Kd.freshB (g := gb164) (o := .cells #[.int .i64 t162, .string t163] 38 (0, 0)) (bK BK164) k_ hk)); (case aO => exact (kR HO_3)); (case aS => exact (below_size bG)); (case aL => have := LMc23.out; omega); intro v170 w32 ho hb hg hat; rw [← Ny169.out] at ho; replace HO167 := Aside0.mk (Kd.R_over' (kR HO167) (Kd.R_typed (kR HO_3)) (by decide) hg); replace BK164 := Aside0.mk (blk_grown (g := gb164) (o := .cells #[.int .i64 t162, .string t163] 38 (0, 0)) (bK BK164) hg (Kd.R_away HO_3.out (fun _ hk => hk))); replace HB := Aside0.mk (hb); have HO171 := Aside0.mk (ho); clear HO_3; clear ho hb hg hat))
    refine wp_goto (And.intro rfl ?_)
    refine hKs0 _ _ ?_
    go_roundg k1
    case measure => have := HK1.out; omega
    case rel => exact ⟨(y169), (y165), H', ⟨by have := HK1.out; omega⟩, ⟨by (with_reducible repeat (first | apply Kd.R_alloc | apply Kd.R_drewN | apply Kd.R_drew)); exact Kd.R_mono HO171.out (fun _ hk => trivial)⟩, ⟨kR HO167⟩, ⟨bG⟩⟩
   rw [if_neg c22] at H
   obtain ⟨c22b0, c22b1⟩ := eqF c22
   by_cases c33 : ((rd_T38 x3_1 (ji19)).f0) = 10
   rotate_left
   ·rw [if_neg c33] at H
    obtain ⟨c33b0, c33b1⟩ := eqF c33
    have H' := Aside0.mk H
    clear H
    obtain ⟨Ao44, co44, eo44⟩ := Kd.R_slice HO_4.out
    subst eo44
    have p161 : 0 ≤ ((ji12) : Int) := dA
    have q161 : (ji12) < (x4_1.length : Int) := dA
    obtain ⟨ad161, e161, hx161_0, hx161_1, hx161_2⟩ := at_T93 (Kd.R_reads' HO_4.out).2.2 (ji12) p161 q161
    cases e161
    replace p161 := eq_true p161
    replace q161 := eq_true q161
    go_wp2_with (first | ((with_reducible refine gate_callee (f := 74) rfl ?_); refine goesL_ (some 21) rfl rfl Tryd.func74 (by kernel_rfl) rfl #[.agg #[.string ((rd_T93 x4_1 (ji12)).f0), .bool ((rd_T93 x4_1 (ji12)).f1), .bool ((rd_T93 x4_1 (ji12)).f2)]] rfl (by (try simp only [List.map_toArray, List.map_cons, List.map_nil]); first | done | (simp only [hji12]; rfl) | rfl | (simp only [List.length_drop, List.length_take]; rfl)) ?_; (with_reducible refine (words_word.calls k1 ((rd_T93 x4_1 (ji12)).f0) ((rd_T93 x4_1 (ji12)).f1) ((rd_T93 x4_1 (ji12)).f2) t162 t163 _ (gS HG) A15.out).mono ?_); rintro e w45 ⟨rfl, hb⟩; refine ⟨_, rfl, ?_⟩; replace HO_3 := rB HO_3 hb; replace HO_4 := rB HO_4 hb; replace HB := sB hb; (try clear hb)) | ((with_reducible refine gate_dst (N := 5) rfl ?_); (try (refine gate_guard (by rfl) ?_; dsimp only)); refine be 5 #[.int .i64 0, .string (⟨#[]⟩ : ByteArray)] 38 ?_; intro gb164 hg w46 hbox hb; replace HO_3 := Aside0.mk (Kd.R_below (Kd.R_elderB (kR HO_3) gb164 (Nat.le_of_eq hg.symm)) hb); replace HO_4 := rB HO_4 hb; have BK164 := Aside0.mk (hbox); have GW164 := gW hg; have GE164 := gW hg; replace HB := sB hb; clear hb hbox hg; have hcz47_0 : w46.cell? ⟨gb164, 0, none⟩ = some (.int .i64 0) := (blk_cell BK164.out 0).trans rfl; have hcz47_1 : w46.cell? ⟨gb164, 1, none⟩ = some (.string (⟨#[]⟩ : ByteArray)) := (blk_cell BK164.out 1).trans rfl; have hfz47_0 := blk_frozen BK164.out 0; have hfz47_1 := blk_frozen BK164.out 1) | ((with_reducible refine gate_store (t := 38) (p := 5) rfl ?_); refine store_event (t := 38) (p := 5) (v := ?vo_w48) (w1 := ((w46.setCell ⟨gb164, 0, none⟩ (.int .i64 t162)).setCell ⟨gb164, 1, none⟩ (.string t163))) ?hg ?ho ?hn ?hr ?_; (case ho => rfl); (case hg => rfl); (case hn => rfl); (case hr => first | (go_simp; done) | (go_simp; rfl)); intro w48 hw; replace HO_3 : Aside0 (Kd.R k38 38 w48 w.heap.size (fun k_ => k_ ≠ gb164) u3 x3_1) := ⟨(by rw [hw]; exact (by (with_reducible repeat (first | apply Kd.R_alloc | apply Kd.R_drewN | apply Kd.R_drew)); exact Kd.R_mono (Kd.R_far (p := ⟨gb164, 1, none⟩) (Kd.R_far (p := ⟨gb164, 0, none⟩) (Kd.R_mono HO_3.out (fun k_ hk => (⟨hk, hk.2⟩ : _ ∧ k_ ≠ gb164))) (fun _ hk => hk.2) (.int .i64 t162)) (fun _ hk => hk.2) (.string t163)) (fun _ hk => hk.1.2)))⟩; replace HO_4 : Aside0 (Kd.R k93 93 w48 w.heap.size (fun _ => True) (.slice (some ad161) x4_1.length co44) x4_1) := ⟨(by rw [hw]; exact (by (with_reducible repeat (first | apply Kd.R_alloc | apply Kd.R_drewN | apply Kd.R_drew)); exact Kd.R_mono (Kd.R_far (p := ⟨gb164, 1, none⟩) (Kd.R_far (p := ⟨gb164, 0, none⟩) (Kd.R_types HO_4.out BK164.out (by decide)) (fun _ hk => hk.2) (.int .i64 t162)) (fun _ hk => hk.2) (.string t163)) (fun _ hk => trivial)))⟩; replace BK164 : Aside0 (w48.heap[gb164]? = some (.cells #[.int .i64 t162, .string t163] 38 (0, 0))) := ⟨(by rw [hw]; exact (bP BK164))⟩; replace HB : Aside0 (Below w.heap.size w w48) := ⟨(by rw [hw]; exact bG)⟩; clear hw; have q49 : ((ji12) : Int) ≤ ((x4_1.length : Int) : Int) := dA; obtain ⟨i049, hi049, _, hsz49, _⟩ := info_parts info93; have hcut49 := cut_to (P := Tryd.prog) 87 93 .i64 Tryd.underlying87 hi049 (some ad161) x4_1.length co44 (ji12) (dA) q49 (Kd.R_reads' HO_4.out).2.1; have hr49 := Kd.R_take (m := ((ji12) : Int).toNat) HO_4.out (by omega); have hy49 : y165.length = ((ji12) : Int).toNat := (by rw [Ny165.out, List.length_take]; omega); rw [← Ny165.out] at hr49; rw [← hy49] at hr49 hcut49; clear hy49 hi049 hsz49 HO_4; have HO167 := Aside0.mk hr49; clear hr49; replace q49 := eq_true q49; have hcz50_0 : w48.cell? ⟨gb164, 0, none⟩ = some (.int .i64 t162) := (blk_cell BK164.out 0).trans rfl; have hcz50_1 : w48.cell? ⟨gb164, 1, none⟩ = some (.string t163) := (blk_cell BK164.out 1).trans rfl; have hfz50_0 := blk_frozen BK164.out 0; have hfz50_1 := blk_frozen BK164.out 1; obtain ⟨Ao51, co51, eo51⟩ := Kd.R_slice HO_3.out; subst eo51; have p168 : 0 ≤ ((ji19) : Int) := dA; have q168 : (ji19) < (x3_1.length : Int) := dA; obtain ⟨ad168, e168, hx168_0, hx168_1⟩ := at_T38 (Kd.R_reads' HO_3.out).2.2 (ji19) p168 q168; cases e168; replace p168 := eq_true p168; replace q168 := eq_true q168; have p172 : 0 ≤ ((ji19) : Int) := dA; have q172 : (ji19) < (x3_1.length : Int) := dA; obtain ⟨ad172, e172, hx172_0, hx172_1⟩ := at_T38 (Kd.R_reads' HO_3.out).2.2 (ji19) p172 q172; obtain rfl : ad168 = ad172 := (by injection e172); replace p172 := eq_true p172; replace q172 := eq_true q172))
    refine wp_goto (And.intro rfl ?_)
    refine hKs0 _ _ ?_
    go_roundg k1
    case measure => have := HK1.out; omega
    case rel => exact ⟨(x3_1), (y165), H', ⟨by have := HK1.out; omega⟩, ⟨by (with_reducible repeat (first | apply Kd.R_alloc | apply Kd.R_drewN | apply Kd.R_drew)); exact Kd.R_mono HO_3.out (fun _ hk => trivial)⟩, ⟨kR HO167⟩, ⟨bG⟩⟩
   rw [if_pos c33] at H
   obtain ⟨c33b0, c33b1⟩ := eqT c33
   clear c33
   by_cases c34 : x3_1.length < 5864062014805
   rotate_left
   ·rw [if_neg c34] at H
    exact absurd H (by simp)
   rw [if_pos c34] at H
   have LMc34 := Aside0.mk c34
   clear c34
   obtain ⟨y173, hy173⟩ : ∃ y_ : List (S38), y_ = (x3_1 ++ [(⟨t162, t163⟩ : S38)]) := ⟨_, rfl⟩
   replace H : (words_Split.l0 k1 y173 y165) = some r := by first | (rw [hy173]; with_reducible exact H) | (have H2_ := (Option.bind_some _ _).symm.trans H; rw [hy173]; with_reducible exact H2_) | (have H2_ := (Option.bind_some _ _).symm.trans H; with_reducible exact H2_) | with_reducible exact H | (rw [hy173]; exact H) | exact H
   have Ny173 := Aside0.mk hy173
   clear hy173
   have H' := Aside0.mk H
   clear H
   obtain ⟨Ao35, co35, eo35⟩ := Kd.R_slice HO_4.out
   subst eo35
   have p161 : 0 ≤ ((ji12) : Int) := dA
   have q161 : (ji12) < (x4_1.length : Int) := dA
   obtain ⟨ad161, e161, hx161_0, hx161_1, hx161_2⟩ := at_T93 (Kd.R_reads' HO_4.out).2.2 (ji12) p161 q161
   cases e161
   replace p161 := eq_true p161
   replace q161 := eq_true q161
   go_wp2_with (first | ((with_reducible refine gate_callee (f := 74) rfl ?_); refine goesL_ (some 21) rfl rfl Tryd.func74 (by kernel_rfl) rfl #[.agg #[.string ((rd_T93 x4_1 (ji12)).f0), .bool ((rd_T93 x4_1 (ji12)).f1), .bool ((rd_T93 x4_1 (ji12)).f2)]] rfl (by (try simp only [List.map_toArray, List.map_cons, List.map_nil]); first | done | (simp only [hji12]; rfl) | rfl | (simp only [List.length_drop, List.length_take]; rfl)) ?_; (with_reducible refine (words_word.calls k1 ((rd_T93 x4_1 (ji12)).f0) ((rd_T93 x4_1 (ji12)).f1) ((rd_T93 x4_1 (ji12)).f2) t162 t163 _ (gS HG) A15.out).mono ?_); rintro e w36 ⟨rfl, hb⟩; refine ⟨_, rfl, ?_⟩; replace HO_3 := rB HO_3 hb; replace HO_4 := rB HO_4 hb; replace HB := sB hb; (try clear hb)) | ((with_reducible refine gate_dst (N := 5) rfl ?_); (try (refine gate_guard (by rfl) ?_; dsimp only)); refine be 5 #[.int .i64 0, .string (⟨#[]⟩ : ByteArray)] 38 ?_; intro gb164 hg w37 hbox hb; replace HO_3 := Aside0.mk (Kd.R_below (Kd.R_elderB (kR HO_3) gb164 (Nat.le_of_eq hg.symm)) hb); replace HO_4 := rB HO_4 hb; have BK164 := Aside0.mk (hbox); have GW164 := gW hg; have GE164 := gW hg; replace HB := sB hb; clear hb hbox hg; have hcz38_0 : w37.cell? ⟨gb164, 0, none⟩ = some (.int .i64 0) := (blk_cell BK164.out 0).trans rfl; have hcz38_1 : w37.cell? ⟨gb164, 1, none⟩ = some (.string (⟨#[]⟩ : ByteArray)) := (blk_cell BK164.out 1).trans rfl; have hfz38_0 := blk_frozen BK164.out 0; have hfz38_1 := blk_frozen BK164.out 1) | ((with_reducible refine gate_store (t := 38) (p := 5) rfl ?_); refine store_event (t := 38) (p := 5) (v := ?vo_w39) (w1 := ((w37.setCell ⟨gb164, 0, none⟩ (.int .i64 t162)).setCell ⟨gb164, 1, none⟩ (.string t163))) ?hg ?ho ?hn ?hr ?_; (case ho => rfl); (case hg => rfl); (case hn => rfl); (case hr => first | (go_simp; done) | (go_simp; rfl)); intro w39 hw; replace HO_3 : Aside0 (Kd.R k38 38 w39 w.heap.size (fun k_ => k_ ≠ gb164) u3 x3_1) := ⟨(by rw [hw]; exact (by (with_reducible repeat (first | apply Kd.R_alloc | apply Kd.R_drewN | apply Kd.R_drew)); exact Kd.R_mono (Kd.R_far (p := ⟨gb164, 1, none⟩) (Kd.R_far (p := ⟨gb164, 0, none⟩) (Kd.R_mono HO_3.out (fun k_ hk => (⟨hk, hk.2⟩ : _ ∧ k_ ≠ gb164))) (fun _ hk => hk.2) (.int .i64 t162)) (fun _ hk => hk.2) (.string t163)) (fun _ hk => hk.1.2)))⟩; replace HO_4 : Aside0 (Kd.R k93 93 w39 w.heap.size (fun _ => True) (.slice (some ad161) x4_1.length co35) x4_1) := ⟨(by rw [hw]; exact (by (with_reducible repeat (first | apply Kd.R_alloc | apply Kd.R_drewN | apply Kd.R_drew)); exact Kd.R_mono (Kd.R_far (p := ⟨gb164, 1, none⟩) (Kd.R_far (p := ⟨gb164, 0, none⟩) (Kd.R_types HO_4.out BK164.out (by decide)) (fun _ hk => hk.2) (.int .i64 t162)) (fun _ hk => hk.2) (.string t163)) (fun _ hk => trivial)))⟩; replace BK164 : Aside0 (w39.heap[gb164]? = some (.cells #[.int .i64 t162, .string t163] 38 (0, 0))) := ⟨(by rw [hw]; exact (bP BK164))⟩; replace HB : Aside0 (Below w.heap.size w w39) := ⟨(by rw [hw]; exact bG)⟩; clear hw; have q40 : ((ji12) : Int) ≤ ((x4_1.length : Int) : Int) := dA; obtain ⟨i040, hi040, _, hsz40, _⟩ := info_parts info93; have hcut40 := cut_to (P := Tryd.prog) 87 93 .i64 Tryd.underlying87 hi040 (some ad161) x4_1.length co35 (ji12) (dA) q40 (Kd.R_reads' HO_4.out).2.1; have hr40 := Kd.R_take (m := ((ji12) : Int).toNat) HO_4.out (by omega); have hy40 : y165.length = ((ji12) : Int).toNat := (by rw [Ny165.out, List.length_take]; omega); rw [← Ny165.out] at hr40; rw [← hy40] at hr40 hcut40; clear hy40 hi040 hsz40 HO_4; have HO167 := Aside0.mk hr40; clear hr40; replace q40 := eq_true q40; have hcz41_0 : w39.cell? ⟨gb164, 0, none⟩ = some (.int .i64 t162) := (blk_cell BK164.out 0).trans rfl; have hcz41_1 : w39.cell? ⟨gb164, 1, none⟩ = some (.string t163) := (blk_cell BK164.out 1).trans rfl; have hfz41_0 := blk_frozen BK164.out 0; have hfz41_1 := blk_frozen BK164.out 1; obtain ⟨Ao42, co42, eo42⟩ := Kd.R_slice HO_3.out; subst eo42; have p168 : 0 ≤ ((ji19) : Int) := dA; have q168 : (ji19) < (x3_1.length : Int) := dA; obtain ⟨ad168, e168, hx168_0, hx168_1⟩ := at_T38 (Kd.R_reads' HO_3.out).2.2 (ji19) p168 q168; cases e168; replace p168 := eq_true p168; replace q168 := eq_true q168; have p172 : 0 ≤ ((ji19) : Int) := dA; have q172 : (ji19) < (x3_1.length : Int) := dA; obtain ⟨ad172, e172, hx172_0, hx172_1⟩ := at_T38 (Kd.R_reads' HO_3.out).2.2 (ji19) p172 q172; obtain rfl : ad168 = ad172 := (by injection e172); replace p172 := eq_true p172; replace q172 := eq_true q172) | ((with_reducible refine gate_builtin (b := .append) (xs := #[.tmp 55, .tmp 57]) rfl ?_); (try (refine gate_guard (by rfl) ?_; dsimp only)); at_builtin; refine Kd.R_append k38 (w0 := w) w.heap.size rfl (.tmp 55) (.tmp 57) 39 38 (.agg #[(.int .i64 0), (.string ⟨#[]⟩)]) 24 rfl Tryd.underlying39 info38 rfl (by decide) (by omega) (.slice (some ad168) x3_1.length co42) x3_1 (⟨t162, t163⟩ : S38) [.int .i64 t162, .string t163] (fun k_ => k_ ≠ gb164) (fun _ => False) rfl rfl ?aP (fun _ hk => hk.elim) ?aF ?aO ?aB ?aS ?aL ?_; (case aP => exact k38_mkM _ _ _ (⟨t162, t163⟩ : S38)); (case aB => exact bG); (case aF => exact (fun k_ hk => Kd.freshB (g := gb164) (o := .cells #[.int .i64 t162, .string t163] 38 (0, 0)) (bK BK164) k_ hk)); (case aO => exact (kR HO_3)); (case aS => exact (below_size bG)); (case aL => have := LMc34.out; omega); intro v174 w43 ho hb hg hat; rw [← Ny173.out] at ho; replace HO167 := Aside0.mk (Kd.R_over' (kR HO167) (Kd.R_typed (kR HO_3)) (by decide) hg); replace BK164 := Aside0.mk (blk_grown (g := gb164) (o := .cells #[.int .i64 t162, .string t163] 38 (0, 0)) (bK BK164) hg (Kd.R_away HO_3.out (fun _ hk => hk))); replace HB := Aside0.mk (hb); have HO175 := Aside0.mk (ho); clear HO_3; clear ho hb hg hat))
   refine wp_goto (And.intro rfl ?_)
   refine hKs0 _ _ ?_
   go_roundg k1
   case measure => have := HK1.out; omega
   case rel => exact ⟨(y173), (y165), H', ⟨by have := HK1.out; omega⟩, ⟨by (with_reducible repeat (first | apply Kd.R_alloc | apply Kd.R_drewN | apply Kd.R_drew)); exact Kd.R_mono HO175.out (fun _ hk => trivial)⟩, ⟨kR HO167⟩, ⟨bG⟩⟩
def order_Compare.f (k : Nat) (a0 : ByteArray) (a1 : ByteArray) : Option (Int) := (words_Split.f k a0).bind fun t334 => ((words_Split.f k a1).bind fun t337 => ((order_Words.f k t334 t337).bind fun t340 => (some t340)))
theorem order_Compare.mono : ∀ a0 a1 k, LeO (order_Compare.f k a0 a1) (order_Compare.f (k + 1) a0 a1) := by
 intro a0 a1 k
 unfold order_Compare.f
 have m0 := @order_Words.mono
 have m1 := @words_Split.mono
 exact mo
theorem order_Compare.calls (k : Nat) (a0 : ByteArray) (a1 : ByteArray) (r : Int) (w : World) (hG : Glob w) (h : order_Compare.f k a0 a1 = some r) :
 Calls Tryd.prog 114 #[.string a0, .string a1] w fun e w' => e = .returned (.int .i64 r) ∧ Below w.heap.size w w' := by
 have HG := Aside0.mk hG
 clear hG
 have HB := Aside0.mk (Below.refl w.heap.size w)
 have H : ((words_Split.f k a0).bind fun t334 => ((words_Split.f k a1).bind fun t337 => ((order_Words.f k t334 t337).bind fun t340 => (some t340)))) = some r := h
 clear h
 replace H := Option.bind_eq_some_iff.mp H
 obtain ⟨t334, A30, H⟩ := H
 try dsimp only at H
 have A3 := Aside0.mk A30
 clear A30
 replace H := Option.bind_eq_some_iff.mp H
 obtain ⟨t337, A40, H⟩ := H
 try dsimp only at H
 have A4 := Aside0.mk A40
 clear A40
 replace H := Option.bind_eq_some_iff.mp H
 obtain ⟨t340, A50, H⟩ := H
 try dsimp only at H
 have A5 := Aside0.mk A50
 clear A50
 obtain rfl := Option.some.inj H
 go_enter Tryd.func114, Tryd.ntmps114
 go_wp2_with (first | (refine gl (some 6) Tryd.func31 #[.string a0] ?_; (with_reducible refine (words_Split.calls k a0 t334 _ (gS HG) A3.out).mono ?_); rintro e w6 ⟨v335, rfl, ho0, hb⟩; refine ⟨_, rfl, ?_⟩; have HO336 := Aside0.mk (Kd.R_lower ho0 (below_size bE)); replace HB := sB hb; (try clear hb); (try clear ho0)) | (refine gl (some 8) Tryd.func31 #[.string a1] ?_; (with_reducible refine (words_Split.calls k a1 t337 _ (gS HG) A4.out).mono ?_); rintro e w7 ⟨v338, rfl, ho0, hb⟩; refine ⟨_, rfl, ?_⟩; have HO339 := Aside0.mk (Kd.R_lower (Kd.R_new' ho0 (Kd.R_lt (kR HO336))) (below_size bE)); replace HO336 := Aside0.mk (Kd.R_elder' (kR HO336) (Kd.R_base ho0) hb); replace HB := sB hb; (try clear hb); (try clear ho0); obtain ⟨Ao8, co8, eo8⟩ := Kd.R_slice HO336.out; subst eo8; obtain ⟨Ao9, co9, eo9⟩ := Kd.R_slice HO339.out; subst eo9) | (refine gl (some 9) Tryd.func141 #[.slice Ao8 t334.length co8, .slice Ao9 t337.length co9] ?_; (with_reducible refine (order_Words.calls k _ _ t334 _ _ t337 t340 _ ?side1 ?side2 ?side3 ?side4 (gS HG) A5.out).mono ?_); (case side1 => repeat (first | exact (Kd.R_reads' HO336.out).2.2 | (with_reducible refine Kd.C_alloc ?_ _) | (with_reducible refine Kd.C_drewN ?_ _) | (with_reducible refine Kd.C_drew ?_))); (case side2 => exact (Kd.R_reads' HO336.out).2.1); (case side3 => repeat (first | exact (Kd.R_reads' HO339.out).2.2 | (with_reducible refine Kd.C_alloc ?_ _) | (with_reducible refine Kd.C_drewN ?_ _) | (with_reducible refine Kd.C_drew ?_))); (case side4 => exact (Kd.R_reads' HO339.out).2.1); rintro e w10 ⟨rfl, hb⟩; refine ⟨_, rfl, ?_⟩; replace HO336 := rB HO336 hb; replace HO339 := rB HO339 hb; replace HB := sB hb; (try clear hb)))
 go_ret
 exact ⟨eA, bE⟩
def coord_Compare.f (k : Nat) (a0_0 : ByteArray) (a0_1 : ByteArray) (a0_2 : ByteArray) (a1_0 : ByteArray) (a1_1 : ByteArray) (a1_2 : ByteArray) : Option (Int) := (cmp_Compare_string.f a0_0 a1_0).bind fun t700 => ((cmp_Compare_string.f a0_1 a1_1).bind fun t701 => ((order_Compare.f k a0_2 a1_2).bind fun t702 => ((cmp_Compare_string.f a0_2 a1_2).bind fun t703 => ((cmp_Or_int.f k (([t700, t701, t702, t703] : List Int))).bind fun t707 => (some t707)))))
theorem coord_Compare.mono : ∀ a0 a1 a2 a3 a4 a5 k, LeO (coord_Compare.f k a0 a1 a2 a3 a4 a5) (coord_Compare.f (k + 1) a0 a1 a2 a3 a4 a5) := by
 intro a0 a1 a2 a3 a4 a5 k
 unfold coord_Compare.f
 have m0 := @cmp_Or_int.mono
 have m1 := @order_Compare.mono
 exact mo
def coord_Compare.T1 : Bool × List (List Nat × List Nat) := (true, [([], []), ([0], [0]), ([], []), ([2], [2]), ([1, 3], [1, 3]), ([], []), ([5], [5]), ([], []), ([7], [7]), ([6, 8, 4], [6, 8]), ([], []), ([10], [10]), ([], []), ([12], [12]), ([11, 13, 9], [11, 13]), ([], []), ([15], [15]), ([], []), ([17], [17]), ([16, 18, 14], [16, 18]), ([4, 9, 14, 19], [4, 9, 14, 19]), ([20, 19], [20]), ([21, 21, 0, 1, 2, 3, 4, 5, 6, 7, 8, 9, 10, 11, 12, 13, 14, 15, 16, 17, 18, 19, 20, 21], [21])])
def coord_Compare.B1 : List Nat := [0, 1, 0, 4, 15, 0, 32, 0, 128, 511, 0, 1024, 0, 4096, 16383, 0, 32768, 0, 131072, 524287, 1048575, 2097151, 4194303]
theorem coord_Compare.tab1 : rtab .any (opsOf Tryd.f82 1) = coord_Compare.T1 := by kernel_rfl
theorem coord_Compare.bits1 : waitsOk coord_Compare.T1.2 coord_Compare.B1 = true := by kernel_rfl
theorem coord_Compare.calls (k : Nat) (a0_0 : ByteArray) (a0_1 : ByteArray) (a0_2 : ByteArray) (a1_0 : ByteArray) (a1_1 : ByteArray) (a1_2 : ByteArray) (r : Int) (w : World) (hG : Glob w) (h : coord_Compare.f k a0_0 a0_1 a0_2 a1_0 a1_1 a1_2 = some r) :
 Calls Tryd.prog 82 #[.agg #[.string a0_0, .string a0_1, .string a0_2], .agg #[.string a1_0, .string a1_1, .string a1_2]] w fun e w' => e = .returned (.int .i64 r) ∧ Below w.heap.size w w' := by
 have hu32 := Tryd.underlying32
 have HG := Aside0.mk hG
 clear hG
 have HB := Aside0.mk (Below.refl w.heap.size w)
 have H : ((cmp_Compare_string.f a0_0 a1_0).bind fun t700 => ((cmp_Compare_string.f a0_1 a1_1).bind fun t701 => ((order_Compare.f k a0_2 a1_2).bind fun t702 => ((cmp_Compare_string.f a0_2 a1_2).bind fun t703 => ((cmp_Or_int.f k (([t700, t701, t702, t703] : List Int))).bind fun t707 => (some t707)))))) = some r := h
 clear h
 replace H := Option.bind_eq_some_iff.mp H
 obtain ⟨t700, A30, H⟩ := H
 try dsimp only at H
 have A3 := Aside0.mk A30
 clear A30
 replace H := Option.bind_eq_some_iff.mp H
 obtain ⟨t701, A40, H⟩ := H
 try dsimp only at H
 have A4 := Aside0.mk A40
 clear A40
 replace H := Option.bind_eq_some_iff.mp H
 obtain ⟨t702, A50, H⟩ := H
 try dsimp only at H
 have A5 := Aside0.mk A50
 clear A50
 replace H := Option.bind_eq_some_iff.mp H
 obtain ⟨t703, A60, H⟩ := H
 try dsimp only at H
 have A6 := Aside0.mk A60
 clear A60
 obtain ⟨y704, hy704⟩ : ∃ y_ : List Int, y_ = (([t700, t701, t702, t703] : List Int)) := ⟨_, rfl⟩
 replace H : ((cmp_Or_int.f k y704).bind fun t707 => (some t707)) = some r := by first | (rw [hy704]; with_reducible exact H) | (have H2_ := (Option.bind_some _ _).symm.trans H; rw [hy704]; with_reducible exact H2_) | (have H2_ := (Option.bind_some _ _).symm.trans H; with_reducible exact H2_) | with_reducible exact H | (rw [hy704]; exact H) | exact H
 have Ny704 := Aside0.mk hy704
 clear hy704
 replace H := Option.bind_eq_some_iff.mp H
 obtain ⟨t707, A70, H⟩ := H
 try dsimp only at H
 have A7 := Aside0.mk A70
 clear A70
 obtain rfl := Option.some.inj H
 go_enter Tryd.func82, Tryd.ntmps82
 try go_wp2_with (first | (refine be 2 #[.string a0_0, .string a0_1, .string a0_2] 32 ?_; intro gb698 hg w8 hbox hb; have BK698 := Aside0.mk (hbox); have GW698 := gW hg; have GE698 := gW hg; replace HB := sB hb; clear hb hbox hg) | (refine be 3 #[.string a1_0, .string a1_1, .string a1_2] 32 ?_; intro gb699 hg w9 hbox hb; have BK699 := Aside0.mk (hbox); have GW699 := gW hg; have GE699 := gW hg; replace HB := sB hb; have NB698_699 := nL BK698 hg; have NB699_698 := nG BK698 hg; replace BK698 := kB BK698 hb; clear hb hbox hg))
 replace BK698 := Aside0.mk (blk_drew BK698.out)
 replace BK699 := Aside0.mk (blk_drew BK699.out)
 replace HB := Aside0.mk (below_drew1 HB.out)
 refine start_ (n := 23) (S := fun w' => w'.cell? ⟨gb698, 0, none⟩ = some (.string a0_0) ∧ w'.cell? ⟨gb698, 1, none⟩ = some (.string a0_1) ∧ w'.cell? ⟨gb698, 2, none⟩ = some (.string a0_2) ∧ w'.cell? ⟨gb699, 0, none⟩ = some (.string a1_0) ∧ w'.cell? ⟨gb699, 1, none⟩ = some (.string a1_1) ∧ w'.cell? ⟨gb699, 2, none⟩ = some (.string a1_2)) (ds := []) #[false, false, false, false, false, false, false, false, false, false, false, false, false, false, false, false, false, false, false, false, false, false, false] (by kernel_rfl) rfl rfl ⟨(blk_cell BK698.out 0).trans rfl, (blk_cell BK698.out 1).trans rfl, (blk_cell BK698.out 2).trans rfl, (blk_cell BK699.out 0).trans rfl, (blk_cell BK699.out 1).trans rfl, (blk_cell BK699.out 2).trans rfl⟩ (fun hHeld => ?_); refine with_tabW coord_Compare.tab1 coord_Compare.bits1 (fun HT_ HW_ => ?_)
 generalize w9.drew = w10 at BK698 BK699 HB hHeld ⊢
 refine pz 0 (some 5) HT_ ?_
 refine pz 2 (some 7) HT_ ?_
 refine pz 5 (some 10) HT_ ?_
 refine pz 7 (some 12) HT_ ?_
 refine pz 10 (some 15) HT_ ?_
 refine pz 12 (some 17) HT_ ?_
 refine pz 15 (some 20) HT_ ?_
 refine pz 17 (some 22) HT_ ?_
 refine tm 1 (some 6) HT_ HW_ hHeld ?_
 refine tm 3 (some 8) HT_ HW_ hHeld ?_
 refine tm 6 (some 11) HT_ HW_ hHeld ?_
 refine tm 8 (some 13) HT_ HW_ hHeld ?_
 refine tm 11 (some 16) HT_ HW_ hHeld ?_
 refine tm 13 (some 18) HT_ HW_ hHeld ?_
 refine tm 16 (some 21) HT_ HW_ hHeld ?_
 refine tm 18 (some 23) HT_ HW_ hHeld ?_
 refine on 4 (some 9) HT_ (fun K hK => ?_)
 refine goes_ Tryd.func113 (by kernel_rfl) rfl #[.string a0_0, .string a1_0] (by rfl) rfl rfl mA ?_
 with_reducible refine (cmp_Compare_string.calls a0_0 a1_0 t700 _ (gS HG) A3.out).mono ?_
 rintro e w' ⟨rfl, ⟨nd, rfl⟩⟩
 refine ⟨_, rfl, ?_⟩
 refine hK.out _ _ ⟨(blk_cell BK698.out 0).trans rfl, (blk_cell BK698.out 1).trans rfl, (blk_cell BK698.out 2).trans rfl, (blk_cell BK699.out 0).trans rfl, (blk_cell BK699.out 1).trans rfl, (blk_cell BK699.out 2).trans rfl⟩ (fun hHeld => ?_)
 clear hK K
 refine nz (some 9) ?_
 refine on 9 (some 14) HT_ (fun K hK => ?_)
 refine goes_ Tryd.func113 (by kernel_rfl) rfl #[.string a0_1, .string a1_1] (by rfl) rfl rfl mA ?_
 with_reducible refine (cmp_Compare_string.calls a0_1 a1_1 t701 _ (gS HG) A4.out).mono ?_
 rintro e w' ⟨rfl, ⟨nd, rfl⟩⟩
 refine ⟨_, rfl, ?_⟩
 refine hK.out _ _ ⟨(blk_cell BK698.out 0).trans rfl, (blk_cell BK698.out 1).trans rfl, (blk_cell BK698.out 2).trans rfl, (blk_cell BK699.out 0).trans rfl, (blk_cell BK699.out 1).trans rfl, (blk_cell BK699.out 2).trans rfl⟩ (fun hHeld => ?_)
 clear hK K
 refine nz (some 14) ?_
 refine on 14 (some 19) HT_ (fun K hK => ?_)
 refine goes_ Tryd.func114 (by kernel_rfl) rfl #[.string a0_2, .string a1_2] (by rfl) rfl rfl mA ?_
 with_reducible refine (order_Compare.calls k a0_2 a1_2 t702 _ (gS HG) A5.out).mono ?_
 rintro e w11 ⟨rfl, hb⟩
 refine ⟨_, rfl, ?_⟩
 replace BK698 := kB BK698 hb
 replace BK699 := kB BK699 hb
 replace HB := sB hb
 (try clear hb)
 refine hK.out _ _ ⟨(blk_cell BK698.out 0).trans rfl, (blk_cell BK698.out 1).trans rfl, (blk_cell BK698.out 2).trans rfl, (blk_cell BK699.out 0).trans rfl, (blk_cell BK699.out 1).trans rfl, (blk_cell BK699.out 2).trans rfl⟩ (fun hHeld => ?_)
 clear hK K
 refine nz (some 19) ?_
 refine on 19 (some 24) HT_ (fun K hK => ?_)
 refine goes_ Tryd.func113 (by kernel_rfl) rfl #[.string a0_2, .string a1_2] (by rfl) rfl rfl mA ?_
 with_reducible refine (cmp_Compare_string.calls a0_2 a1_2 t703 _ (gS HG) A6.out).mono ?_
 rintro e w' ⟨rfl, ⟨nd, rfl⟩⟩
 refine ⟨_, rfl, ?_⟩
 refine hK.out _ _ ⟨(blk_cell BK698.out 0).trans rfl, (blk_cell BK698.out 1).trans rfl, (blk_cell BK698.out 2).trans rfl, (blk_cell BK699.out 0).trans rfl, (blk_cell BK699.out 1).trans rfl, (blk_cell BK699.out 2).trans rfl⟩ (fun hHeld => ?_)
 clear hK K
 refine nz (some 24) ?_
 refine on 20 (some 25) HT_ (fun K hK => ?_)
 refine Kd.R_lit_step (Kd.int .i64) _ 3 ?hg (N := 25) ?hd (xs := ([t700, t701, t702, t703] : List Int)) (inner := [.int .i64 t700, .int .i64 t701, .int .i64 t702, .int .i64 t703]) (ok := fun _ => True) (okp := fun _ => True) ?hr ?hp (fun _ hk => hk) trivial (Below.refl _ _) (Nat.le_refl _) (by simp) ?_; (case hd => rfl); (case hg => rfl); (case hr => first | (go_simp; done) | (go_simp; rfl)); (case hp => exact (Reps.one (show Kd.M (Kd.int .i64) _ _ _ t700 [.int .i64 t700] from rfl) (Reps.one (show Kd.M (Kd.int .i64) _ _ _ t701 [.int .i64 t701] from rfl) (Reps.one (show Kd.M (Kd.int .i64) _ _ _ t702 [.int .i64 t702] from rfl) (Reps.one (show Kd.M (Kd.int .i64) _ _ _ t703 [.int .i64 t703] from rfl) (Reps.none _ _))))))
 intro v705 w12 ho13 hb hg_ hnew_
 clear hg_ hnew_
 (first | rw [← Ny704.out] at ho13 | (simp only [Int.reduceToNat] at ho13; rw [← Ny704.out] at ho13))
 have HO706 := Aside0.mk (Kd.R_lower ho13 (below_size bG))
 replace BK698 := kB BK698 hb
 replace BK699 := kB BK699 hb
 replace HB := sB hb
 clear hb ho13
 obtain ⟨Ao14, co14, eo14⟩ := Kd.R_slice HO706.out
 (first | subst eo14 | (injection eo14 with f1_ f2_ f3_; have f4_ := f1_.symm; have f5_ := f3_.symm; clear f1_ f2_ f3_; subst f4_; subst f5_))
 refine hK.out _ _ ⟨(blk_cell BK698.out 0).trans rfl, (blk_cell BK698.out 1).trans rfl, (blk_cell BK698.out 2).trans rfl, (blk_cell BK699.out 0).trans rfl, (blk_cell BK699.out 1).trans rfl, (blk_cell BK699.out 2).trans rfl⟩ (fun hHeld => ?_)
 clear hK K
 refine nz (some 25) ?_
 refine on 21 (some 26) HT_ (fun K hK => ?_)
 refine goes_ Tryd.func112 (by kernel_rfl) rfl #[.slice Ao14 y704.length co14] (by rfl) rfl rfl mA ?_
 with_reducible refine (cmp_Or_int.calls k _ _ y704 t707 _ ?side1 ?side2 (gS HG) A7.out).mono ?_
 (case side1 => repeat (first | exact (Kd.R_reads' HO706.out).2.2 | (with_reducible refine Kd.C_alloc ?_ _) | (with_reducible refine Kd.C_drewN ?_ _) | (with_reducible refine Kd.C_drew ?_)))
 (case side2 => exact (Kd.R_reads' HO706.out).2.1)
 rintro e w' ⟨rfl, ⟨nd, rfl⟩⟩
 refine ⟨_, rfl, ?_⟩
 refine hK.out _ _ ⟨(blk_cell BK698.out 0).trans rfl, (blk_cell BK698.out 1).trans rfl, (blk_cell BK698.out 2).trans rfl, (blk_cell BK699.out 0).trans rfl, (blk_cell BK699.out 1).trans rfl, (blk_cell BK699.out 2).trans rfl⟩ (fun hHeld => ?_)
 clear hK K
 refine nz (some 26) ?_
 refine pz 22 (some 4) HT_ ?_
 refine done_ (done_of HT_.out (by kernel_rfl)) ?_
 try go_wp2
 go_ret
 exact ⟨eA, bG⟩
def coord_Less.f (k : Nat) (a0_0 : ByteArray) (a0_1 : ByteArray) (a0_2 : ByteArray) (a1_0 : ByteArray) (a1_1 : ByteArray) (a1_2 : ByteArray) : Option (Bool) := (coord_Compare.f k a0_0 a0_1 a0_2 a1_0 a1_1 a1_2).bind fun t710 => (some (decide (t710 < 0)))
theorem coord_Less.mono : ∀ a0 a1 a2 a3 a4 a5 k, LeO (coord_Less.f k a0 a1 a2 a3 a4 a5) (coord_Less.f (k + 1) a0 a1 a2 a3 a4 a5) := by
 intro a0 a1 a2 a3 a4 a5 k
 unfold coord_Less.f
 have m0 := @coord_Compare.mono
 exact mo
theorem coord_Less.calls (k : Nat) (a0_0 : ByteArray) (a0_1 : ByteArray) (a0_2 : ByteArray) (a1_0 : ByteArray) (a1_1 : ByteArray) (a1_2 : ByteArray) (r : Bool) (w : World) (hG : Glob w) (h : coord_Less.f k a0_0 a0_1 a0_2 a1_0 a1_1 a1_2 = some r) :
 Calls Tryd.prog 41 #[.agg #[.string a0_0, .string a0_1, .string a0_2], .agg #[.string a1_0, .string a1_1, .string a1_2]] w fun e w' => e = .returned (.bool r) ∧ Below w.heap.size w w' := by
 have hu32 := Tryd.underlying32
 have HG := Aside0.mk hG
 clear hG
 have HB := Aside0.mk (Below.refl w.heap.size w)
 have H : ((coord_Compare.f k a0_0 a0_1 a0_2 a1_0 a1_1 a1_2).bind fun t710 => (some (decide (t710 < 0)))) = some r := h
 clear h
 replace H := Option.bind_eq_some_iff.mp H
 obtain ⟨t710, A30, H⟩ := H
 try dsimp only at H
 have A3 := Aside0.mk A30
 clear A30
 obtain rfl := Option.some.inj H
 go_enter Tryd.func41, Tryd.ntmps41
 go_wp2_with (first | (refine be 2 #[.string a0_0, .string a0_1, .string a0_2] 32 ?_; intro gb708 hg w4 hbox hb; have BK708 := Aside0.mk (hbox); have GW708 := gW hg; have GE708 := gW hg; replace HB := sB hb; clear hb hbox hg) | (refine be 3 #[.string a1_0, .string a1_1, .string a1_2] 32 ?_; intro gb709 hg w5 hbox hb; have BK709 := Aside0.mk (hbox); have GW709 := gW hg; have GE709 := gW hg; replace HB := sB hb; have NB708_709 := nL BK708 hg; have NB709_708 := nG BK708 hg; replace BK708 := kB BK708 hb; clear hb hbox hg; have hnb6 := NB708_709.out; have hnc6 := NB709_708.out; have hcz7_0 : w5.cell? ⟨gb708, 0, none⟩ = some (.string a0_0) := (blk_cell BK708.out 0).trans rfl; have hcz7_1 : w5.cell? ⟨gb708, 1, none⟩ = some (.string a0_1) := (blk_cell BK708.out 1).trans rfl; have hcz7_2 : w5.cell? ⟨gb708, 2, none⟩ = some (.string a0_2) := (blk_cell BK708.out 2).trans rfl; have hfz7_0 := blk_frozen BK708.out 0; have hfz7_1 := blk_frozen BK708.out 1; have hfz7_2 := blk_frozen BK708.out 2; have hcz8_0 : w5.cell? ⟨gb709, 0, none⟩ = some (.string a1_0) := (blk_cell BK709.out 0).trans rfl; have hcz8_1 : w5.cell? ⟨gb709, 1, none⟩ = some (.string a1_1) := (blk_cell BK709.out 1).trans rfl; have hcz8_2 : w5.cell? ⟨gb709, 2, none⟩ = some (.string a1_2) := (blk_cell BK709.out 2).trans rfl; have hfz8_0 := blk_frozen BK709.out 0; have hfz8_1 := blk_frozen BK709.out 1; have hfz8_2 := blk_frozen BK709.out 2) | (refine gl (some 7) Tryd.func82 #[.agg #[.string a0_0, .string a0_1, .string a0_2], .agg #[.string a1_0, .string a1_1, .string a1_2]] ?_; (with_reducible refine (coord_Compare.calls k a0_0 a0_1 a0_2 a1_0 a1_1 a1_2 t710 _ (gS HG) A3.out).mono ?_); rintro e w9 ⟨rfl, hb⟩; refine ⟨_, rfl, ?_⟩; replace BK708 := kB BK708 hb; replace BK709 := kB BK709 hb; replace HB := sB hb; (try clear hb)))
 go_ret
 exact ⟨eA, bG⟩
section
attribute [local go_sem high] eqA32
mutual
def newellaw09_CoordBack.j0 : Nat → ByteArray → Bool → ByteArray → ByteArray → ByteArray → ByteArray → ByteArray → ByteArray → Option (Bool)
 | 0, _, _, _, _, _, _, _, _ => none
 | k + 1, x2, x27, x724000, x724001, x724002, x725000, x725001, x725002 => if x27 = true then ((newellaw09_awake.f k).bind fun t725 => (some t725)) else ((coord_Text.f x724000 x724001 x724002).bind fun t726 => ((coord_Parse.f k t726).bind fun bt727 => ((coord_Right.f k x724000 x724001 x724002).bind fun t732 => (if t732 = true then (if bt727.2.2.2 = true then (newellaw09_CoordBack.j1 k x2 (!(bt727.1.toList == x724000.toList) || (!(bt727.2.1.toList == x724001.toList) || (!(bt727.2.2.1.toList == x724002.toList)))) x724000 x724001 x724002 x725000 x725001 x725002) else (newellaw09_CoordBack.j1 k x2 true x724000 x724001 x724002 x725000 x725001 x725002)) else (newellaw09_CoordBack.j1 k x2 false x724000 x724001 x724002 x725000 x725001 x725002)))))
def newellaw09_CoordBack.j1 : Nat → ByteArray → Bool → ByteArray → ByteArray → ByteArray → ByteArray → ByteArray → ByteArray → Option (Bool)
 | 0, _, _, _, _, _, _, _, _ => none
 | k + 1, x2, x45, x724000, x724001, x724002, x725000, x725001, x725002 => if x45 = true then (some false) else ((coord_Parse.f k x2).bind fun bt733 => (if bt733.2.2.2 = true then ((coord_Text.f bt733.1 bt733.2.1 bt733.2.2.1).bind fun t738 => (if t738.toList = x2.toList then ((coord_Right.f k bt733.1 bt733.2.1 bt733.2.2.1).bind fun t739 => (newellaw09_CoordBack.j2 k (!t739) x724000 x724001 x724002 x725000 x725001 x725002)) else (newellaw09_CoordBack.j2 k true x724000 x724001 x724002 x725000 x725001 x725002))) else (newellaw09_CoordBack.j2 k false x724000 x724001 x724002 x725000 x725001 x725002)))
def newellaw09_CoordBack.j2 : Nat → Bool → ByteArray → ByteArray → ByteArray → ByteArray → ByteArray → ByteArray → Option (Bool)
 | 0, _, _, _, _, _, _, _ => none
 | k + 1, x62, x724000, x724001, x724002, x725000, x725001, x725002 => if x62 = true then (some false) else ((coord_Less.f k x724000 x724001 x724002 x725000 x725001 x725002).bind fun t740 => ((coord_Less.f k x725000 x725001 x725002 x724000 x724001 x724002).bind fun t741 => ((newellaw09_awake.f k).bind fun t742 => (if t742 = true then (if t740 = true then (if t741 = true then (some false) else (some (true == (!(x724000.toList == x725000.toList) || (!(x724001.toList == x725001.toList) || (!(x724002.toList == x725002.toList))))))) else (some (t741 == (!(x724000.toList == x725000.toList) || (!(x724001.toList == x725001.toList) || (!(x724002.toList == x725002.toList))))))) else (some false)))))
end
def newellaw09_CoordBack.f (k : Nat) (a0_0 : ByteArray) (a0_1 : ByteArray) (a0_2 : ByteArray) (a1_0 : ByteArray) (a1_1 : ByteArray) (a1_2 : ByteArray) (a2 : ByteArray) : Option (Bool) := if (a0_2.size : Int) > 200 then (newellaw09_CoordBack.j0 k a2 true a0_0 a0_1 a0_2 a1_0 a1_1 a1_2) else (if (a1_2.size : Int) > 200 then (newellaw09_CoordBack.j0 k a2 true a0_0 a0_1 a0_2 a1_0 a1_1 a1_2) else (newellaw09_CoordBack.j0 k a2 (decide ((a2.size : Int) > 500)) a0_0 a0_1 a0_2 a1_0 a1_1 a1_2))
theorem newellaw09_CoordBack.mono_l : ∀ k, (∀ y0 y1 y2 y3 y4 y5 y6 y7, LeO (newellaw09_CoordBack.j0 k y0 y1 y2 y3 y4 y5 y6 y7) (newellaw09_CoordBack.j0 (k + 1) y0 y1 y2 y3 y4 y5 y6 y7)) ∧ (∀ y0 y1 y2 y3 y4 y5 y6 y7, LeO (newellaw09_CoordBack.j1 k y0 y1 y2 y3 y4 y5 y6 y7) (newellaw09_CoordBack.j1 (k + 1) y0 y1 y2 y3 y4 y5 y6 y7)) ∧ (∀ y0 y1 y2 y3 y4 y5 y6, LeO (newellaw09_CoordBack.j2 k y0 y1 y2 y3 y4 y5 y6) (newellaw09_CoordBack.j2 (k + 1) y0 y1 y2 y3 y4 y5 y6))
 | 0 => ⟨fun _ _ _ _ _ _ _ _ r h => by simp [newellaw09_CoordBack.j0] at h, fun _ _ _ _ _ _ _ _ r h => by simp [newellaw09_CoordBack.j1] at h, fun _ _ _ _ _ _ _ r h => by simp [newellaw09_CoordBack.j2] at h⟩
 | k + 1 => by
  obtain ⟨ih0, ih1, ih2⟩ := newellaw09_CoordBack.mono_l k
  refine ⟨?_, ?_, ?_⟩
  ·intro y0 y1 y2 y3 y4 y5 y6 y7
   unfold newellaw09_CoordBack.j0
   have m0 := @coord_Less.mono
   have m1 := @coord_Parse.mono
   have m2 := @coord_Right.mono
   have m3 := @newellaw09_awake.mono
   exact mo
  ·intro y0 y1 y2 y3 y4 y5 y6 y7
   unfold newellaw09_CoordBack.j1
   have m0 := @coord_Less.mono
   have m1 := @coord_Parse.mono
   have m2 := @coord_Right.mono
   have m3 := @newellaw09_awake.mono
   exact mo
  ·intro y0 y1 y2 y3 y4 y5 y6
   unfold newellaw09_CoordBack.j2
   have m0 := @coord_Less.mono
   have m1 := @coord_Parse.mono
   have m2 := @coord_Right.mono
   have m3 := @newellaw09_awake.mono
   exact mo
def newellaw09_CoordBack.T9 : Bool × List (List Nat × List Nat) := (true, [([], []), ([], []), ([0, 1], [0, 1]), ([], []), ([], []), ([3, 4, 2], [3, 4]), ([2, 5, 0, 1, 2], [2]), ([5, 6, 0, 1, 2, 3, 4, 5, 6], [5])])
def newellaw09_CoordBack.B9 : List Nat := [0, 0, 3, 0, 0, 31, 63, 127]
theorem newellaw09_CoordBack.tab9 : rtab .any (opsOf Tryd.f12 9) = newellaw09_CoordBack.T9 := by kernel_rfl
theorem newellaw09_CoordBack.bits9 : waitsOk newellaw09_CoordBack.T9.2 newellaw09_CoordBack.B9 = true := by kernel_rfl
theorem newellaw09_CoordBack.calls (k : Nat) (a0_0 : ByteArray) (a0_1 : ByteArray) (a0_2 : ByteArray) (a1_0 : ByteArray) (a1_1 : ByteArray) (a1_2 : ByteArray) (a2 : ByteArray) (r : Bool) (w : World) (hG : Glob w) (h : newellaw09_CoordBack.f k a0_0 a0_1 a0_2 a1_0 a1_1 a1_2 a2 = some r) (hr_ : r = true) :
 Calls Tryd.prog 12 #[.agg #[.string a0_0, .string a0_1, .string a0_2], .agg #[.string a1_0, .string a1_1, .string a1_2], .string a2] w fun e w' => e = .returned (.bool r) ∧ Below w.heap.size w w' := by
 have hu32 := Tryd.underlying32
 have HG := Aside0.mk hG
 clear hG
 have HB := Aside0.mk (Below.refl w.heap.size w)
 have H : (if (a0_2.size : Int) > 200 then (newellaw09_CoordBack.j0 k a2 true a0_0 a0_1 a0_2 a1_0 a1_1 a1_2) else (if (a1_2.size : Int) > 200 then (newellaw09_CoordBack.j0 k a2 true a0_0 a0_1 a0_2 a1_0 a1_1 a1_2) else (newellaw09_CoordBack.j0 k a2 (decide ((a2.size : Int) > 500)) a0_0 a0_1 a0_2 a1_0 a1_1 a1_2))) = some r := h
 clear h
 have HC4 := Aside0.mk H
 clear H
 go_enter Tryd.func12, Tryd.ntmps12
 go_upto_region 1 with (first | ((with_reducible refine gate_dst (N := 3) rfl ?_); (try (refine gate_guard (by rfl) ?_; dsimp only)); refine be 3 #[.string a0_0, .string a0_1, .string a0_2] 32 ?_; intro gb723 hg w5 hbox hb; have BK723 := Aside0.mk (hbox); have GW723 := gW hg; have GE723 := gW hg; replace HB := sB hb; clear hb hbox hg) | ((with_reducible refine gate_dst (N := 4) rfl ?_); (try (refine gate_guard (by rfl) ?_; dsimp only)); refine be 4 #[.string a1_0, .string a1_1, .string a1_2] 32 ?_; intro gb724 hg w6 hbox hb; have BK724 := Aside0.mk (hbox); have GW724 := gW hg; have GE724 := gW hg; replace HB := sB hb; have NB723_724 := nL BK723 hg; have NB724_723 := nG BK723 hg; replace BK723 := kB BK723 hb; clear hb hbox hg))
 (try simp only [Act.put, List.setIfInBounds_toArray, List.set_cons_zero, List.set_cons_succ])
 go_cut [27] (fun v27 wc => ∃ (kq : Nat) (x27_3 : Bool), v27 = .bool x27_3 ∧ Aside0 (newellaw09_CoordBack.j0 kq a2 x27_3 a0_0 a0_1 a0_2 a1_0 a1_1 a1_2 = some r) ∧ Aside0 (kq ≤ k) ∧ Aside0 (wc.heap[gb723]? = some (.cells #[.string a0_0, .string a0_1, .string a0_2] 32 (0, 0))) ∧ Aside0 (wc.heap[gb724]? = some (.cells #[.string a1_0, .string a1_1, .string a1_2] 32 (0, 0))) ∧ Aside0 (Below w.heap.size w wc))
 case first =>
  have H := HC4.out
  clear HC4
  by_cases c7 : (a0_2.size : Int) > 200
  ·rw [if_pos c7] at H
   have c7b0 := decide_eq_true c7
   have c7b1 : decide (200 < a0_2.size) = true := decide_eq_true (by omega)
   clear c7
   (first | rw [c7b0] | (simp only [i64_w, i32_w]; rw [c7b0]) | skip)
   have H' := Aside0.mk H
   clear H
   have hnb8 := NB723_724.out
   have hnc8 := NB724_723.out
   obtain ⟨hcz9_0, hcz9_1, hcz9_2, hfz9_0, hfz9_1, hfz9_2⟩ := cells3 BK723
   go_wp2
   go_meet
   case rel => exact ⟨_, (true), cA, H', ⟨by first | omega | exact Nat.le_refl _⟩, ⟨bK BK723⟩, ⟨bK BK724⟩, ⟨bG⟩⟩
  rw [if_neg c7] at H
  have c7b0 := decide_eq_false c7
  have c7b1 : decide (200 < a0_2.size) = false := decide_eq_false (by omega)
  clear c7
  (first | rw [c7b0] | (simp only [i64_w, i32_w]; rw [c7b0]) | skip)
  by_cases c10 : (a1_2.size : Int) > 200
  rotate_left
  ·rw [if_neg c10] at H
   have c10b0 := decide_eq_false c10
   have c10b1 : decide (200 < a1_2.size) = false := decide_eq_false (by omega)
   clear c10
   have H' := Aside0.mk H
   clear H
   have hnb14 := NB723_724.out
   have hnc14 := NB724_723.out
   obtain ⟨hcz15_0, hcz15_1, hcz15_2, hfz15_0, hfz15_1, hfz15_2⟩ := cells3 BK723
   obtain ⟨hcz16_0, hcz16_1, hcz16_2, hfz16_0, hfz16_1, hfz16_2⟩ := cells3 BK724
   go_wp2
   go_meet
   case rel => exact ⟨_, (decide ((a2.size : Int) > 500)), cA, H', ⟨by first | omega | exact Nat.le_refl _⟩, ⟨bK BK723⟩, ⟨bK BK724⟩, ⟨bG⟩⟩
  rw [if_pos c10] at H
  have c10b0 := decide_eq_true c10
  have c10b1 : decide (200 < a1_2.size) = true := decide_eq_true (by omega)
  clear c10
  have H' := Aside0.mk H
  clear H
  have hnb11 := NB723_724.out
  have hnc11 := NB724_723.out
  obtain ⟨hcz12_0, hcz12_1, hcz12_2, hfz12_0, hfz12_1, hfz12_2⟩ := cells3 BK723
  obtain ⟨hcz13_0, hcz13_1, hcz13_2, hfz13_0, hfz13_1, hfz13_2⟩ := cells3 BK724
  go_wp2
  go_meet
  case rel => exact ⟨_, (true), cA, H', ⟨by first | omega | exact Nat.le_refl _⟩, ⟨bK BK723⟩, ⟨bK BK724⟩, ⟨bG⟩⟩
 clear HC4
 try clear c1
 try clear p2
 try clear c7
 try clear c7b0
 try clear c7b1
 try clear c8
 try clear c10
 try clear c10b0
 try clear c10b1
 try clear c11
 try clear c12
 try clear c14
 try clear hcz12_0
 try clear hcz12_1
 try clear hcz12_2
 try clear hcz13_0
 try clear hcz13_1
 try clear hcz13_2
 try clear hcz15_0
 try clear hcz15_1
 try clear hcz15_2
 try clear hcz16_0
 try clear hcz16_1
 try clear hcz16_2
 try clear hcz9_0
 try clear hcz9_1
 try clear hcz9_2
 try clear hfz12_0
 try clear hfz12_1
 try clear hfz12_2
 try clear hfz13_0
 try clear hfz13_1
 try clear hfz13_2
 try clear hfz15_0
 try clear hfz15_1
 try clear hfz15_2
 try clear hfz16_0
 try clear hfz16_1
 try clear hfz16_2
 try clear hfz9_0
 try clear hfz9_1
 try clear hfz9_2
 obtain ⟨kq, x27_3, rfl, HA, HJ3, BK723, BK724, HB⟩ := hcut
 cases kq with
 | zero => exact absurd HA.out (by simp [newellaw09_CoordBack.j0])
 | succ kj3 =>
  have H := HA.out
  clear HA
  simp only [newellaw09_CoordBack.j0] at H
  by_cases c17 : x27_3 = true
  ·subst c17
   have H1 : ((newellaw09_awake.f kj3).bind fun t725 => (some t725)) = some r := by rw [if_pos rfl] at H; exact H
   clear H
   have H := H1
   clear H1
   replace H := Option.bind_eq_some_iff.mp H
   obtain ⟨t725, A180, H⟩ := H
   try dsimp only at H
   have A18 := Aside0.mk A180
   clear A180
   obtain rfl := Option.some.inj H
   go_wp2_with (first | (refine gl (some 28) Tryd.func24 #[] ?_; (with_reducible refine (newellaw09_awake.calls kj3  t725 _ (gS HG) A18.out).mono ?_); rintro e w19 ⟨rfl, hb⟩; refine ⟨_, rfl, ?_⟩; replace BK723 := kB BK723 hb; replace BK724 := kB BK724 hb; replace HB := sB hb; (try clear hb)))
   go_ret
   exact ⟨eA, bG⟩
  replace c17 := Bool.eq_false_iff.mpr c17
  subst c17
  have H1 : ((coord_Text.f a0_0 a0_1 a0_2).bind fun t726 => ((coord_Parse.f kj3 t726).bind fun bt727 => ((coord_Right.f kj3 a0_0 a0_1 a0_2).bind fun t732 => (if t732 = true then (if bt727.2.2.2 = true then (newellaw09_CoordBack.j1 kj3 a2 (!(bt727.1.toList == a0_0.toList) || (!(bt727.2.1.toList == a0_1.toList) || (!(bt727.2.2.1.toList == a0_2.toList)))) a0_0 a0_1 a0_2 a1_0 a1_1 a1_2) else (newellaw09_CoordBack.j1 kj3 a2 true a0_0 a0_1 a0_2 a1_0 a1_1 a1_2)) else (newellaw09_CoordBack.j1 kj3 a2 false a0_0 a0_1 a0_2 a1_0 a1_1 a1_2))))) = some r := by rw [if_neg (show ¬ (false = true) by decide)] at H; exact H
  clear H
  have H := H1
  clear H1
  replace H := Option.bind_eq_some_iff.mp H
  obtain ⟨t726, A200, H⟩ := H
  try dsimp only at H
  have A20 := Aside0.mk A200
  clear A200
  replace H := Option.bind_eq_some_iff.mp H
  obtain ⟨⟨t727, t728, t729, t730⟩, A210, H⟩ := H
  try dsimp only at H
  have A21 := Aside0.mk A210
  clear A210
  have HC22 := Aside0.mk H
  clear H
  have hnb23 := NB723_724.out
  have hnc23 := NB724_723.out
  obtain ⟨hcz24_0, hcz24_1, hcz24_2, hfz24_0, hfz24_1, hfz24_2⟩ := cells3 BK723
  go_upto_region 4 with (first | (refine gl (some 31) Tryd.func38 #[.agg #[.string a0_0, .string a0_1, .string a0_2]] ?_; (with_reducible refine (coord_Text.calls a0_0 a0_1 a0_2 t726 _ (gS HG) A20.out).mono ?_); rintro e w25 ⟨rfl, hb⟩; refine ⟨_, rfl, ?_⟩; replace BK723 := kB BK723 hb; replace BK724 := kB BK724 hb; replace HB := sB hb; (try clear hb)) | (refine gl (some 32) Tryd.func26 #[.string t726] ?_; (with_reducible refine (coord_Parse.calls kj3 t726 t727 t728 t729 t730 _ (gS HG) A21.out).mono ?_); rintro e w26 ⟨rfl, hb⟩; refine ⟨_, rfl, ?_⟩; replace BK723 := kB BK723 hb; replace BK724 := kB BK724 hb; replace HB := sB hb; (try clear hb)) | ((with_reducible refine gate_dst (N := 7) rfl ?_); (try (refine gate_guard (by rfl) ?_; dsimp only)); refine be 7 #[.string (⟨#[]⟩ : ByteArray), .string (⟨#[]⟩ : ByteArray), .string (⟨#[]⟩ : ByteArray)] 32 ?_; intro gb731 hg w27 hbox hb; have BK731 := Aside0.mk (hbox); have GW731 := gW hg; have GE731 := gW hg; replace HB := sB hb; have NB723_731 := nL BK723 hg; have NB731_723 := nG BK723 hg; replace BK723 := kB BK723 hb; have NB724_731 := nL BK724 hg; have NB731_724 := nG BK724 hg; replace BK724 := kB BK724 hb; clear hb hbox hg; have hnb28 := NB731_723.out; have hnc28 := NB723_731.out; have hnb29 := NB731_724.out; have hnc29 := NB724_731.out; have hcz30_0 : w27.cell? ⟨gb731, 0, none⟩ = some (.string (⟨#[]⟩ : ByteArray)) := (blk_cell BK731.out 0).trans rfl; have hcz30_1 : w27.cell? ⟨gb731, 1, none⟩ = some (.string (⟨#[]⟩ : ByteArray)) := (blk_cell BK731.out 1).trans rfl; have hcz30_2 : w27.cell? ⟨gb731, 2, none⟩ = some (.string (⟨#[]⟩ : ByteArray)) := (blk_cell BK731.out 2).trans rfl; have hfz30_0 := blk_frozen BK731.out 0; have hfz30_1 := blk_frozen BK731.out 1; have hfz30_2 := blk_frozen BK731.out 2))
  (try simp only [Act.put, List.setIfInBounds_toArray, List.set_cons_zero, List.set_cons_succ])
  go_cut [45] (fun v45 wc => ∃ (kq : Nat) (x45_21 : Bool), v45 = .bool x45_21 ∧ Aside0 (newellaw09_CoordBack.j1 kq a2 x45_21 a0_0 a0_1 a0_2 a1_0 a1_1 a1_2 = some r) ∧ Aside0 (kq ≤ kj3) ∧ Aside0 (wc.heap[gb723]? = some (.cells #[.string a0_0, .string a0_1, .string a0_2] 32 (0, 0))) ∧ Aside0 (wc.heap[gb724]? = some (.cells #[.string a1_0, .string a1_1, .string a1_2] 32 (0, 0))) ∧ Aside0 (wc.heap[gb731]? = some (.cells #[.string t727, .string t728, .string t729] 32 (0, 0))) ∧ Aside0 (Below w.heap.size w wc))
  case first =>
   have H := HC22.out
   clear HC22
   replace H := Option.bind_eq_some_iff.mp H
   obtain ⟨t732, A310, H⟩ := H
   try dsimp only at H
   have A31 := Aside0.mk A310
   clear A310
   by_cases c32 : t732 = true
   rotate_left
   ·replace c32 := Bool.eq_false_iff.mpr c32
    subst c32
    have H1 : (newellaw09_CoordBack.j1 kj3 a2 false a0_0 a0_1 a0_2 a1_0 a1_1 a1_2) = some r := by rw [if_neg (show ¬ (false = true) by decide)] at H; exact H
    clear H
    have H := H1
    clear H1
    have H' := Aside0.mk H
    clear H
    have hnb45 := NB723_724.out
    have hnc45 := NB724_723.out
    have hnb46 := NB723_731.out
    have hnc46 := NB731_723.out
    obtain ⟨hcz47_0, hcz47_1, hcz47_2, hfz47_0, hfz47_1, hfz47_2⟩ := cells3 BK723
    go_wp2_with (first | (refine gl (some 36) Tryd.func36 #[.agg #[.string a0_0, .string a0_1, .string a0_2]] ?_; (with_reducible refine (coord_Right.calls kj3 a0_0 a0_1 a0_2 false _ (gS HG) A31.out).mono ?_); rintro e w48 ⟨rfl, hb⟩; refine ⟨_, rfl, ?_⟩; replace BK723 := Aside0.mk (blk_below (g := gb723) (o := .cells #[.string a0_0, .string a0_1, .string a0_2] 32 (0, 0)) (by (with_reducible repeat (first | refine blk_drewN ?_ _ | refine blk_drew ?_ | refine blk_alloc ?_ _)); refine blk_far ?_ NB723_731.out _; (with_reducible repeat (first | refine blk_drewN ?_ _ | refine blk_drew ?_ | refine blk_alloc ?_ _)); refine blk_far ?_ NB723_731.out _; (with_reducible repeat (first | refine blk_drewN ?_ _ | refine blk_drew ?_ | refine blk_alloc ?_ _)); refine blk_far ?_ NB723_731.out _; (with_reducible repeat (first | refine blk_drewN ?_ _ | refine blk_drew ?_ | refine blk_alloc ?_ _)); exact BK723.out) hb); replace BK724 := Aside0.mk (blk_below (g := gb724) (o := .cells #[.string a1_0, .string a1_1, .string a1_2] 32 (0, 0)) (by (with_reducible repeat (first | refine blk_drewN ?_ _ | refine blk_drew ?_ | refine blk_alloc ?_ _)); refine blk_far ?_ NB724_731.out _; (with_reducible repeat (first | refine blk_drewN ?_ _ | refine blk_drew ?_ | refine blk_alloc ?_ _)); refine blk_far ?_ NB724_731.out _; (with_reducible repeat (first | refine blk_drewN ?_ _ | refine blk_drew ?_ | refine blk_alloc ?_ _)); refine blk_far ?_ NB724_731.out _; (with_reducible repeat (first | refine blk_drewN ?_ _ | refine blk_drew ?_ | refine blk_alloc ?_ _)); exact BK724.out) hb); replace BK731 := Aside0.mk (blk_below (g := gb731) (o := .cells #[.string t727, .string t728, .string t729] 32 (0, 0)) (bP BK731) hb); replace HB := sB hb; (try clear hb)))
    go_meet
    case rel => exact ⟨_, (false), cA, H', ⟨by have := HJ3.out; first | omega | exact Nat.le_refl _⟩, ⟨bK BK723⟩, ⟨bK BK724⟩, ⟨bK BK731⟩, ⟨bG⟩⟩
   subst c32
   have H1 : (if t730 = true then (newellaw09_CoordBack.j1 kj3 a2 (!(t727.toList == a0_0.toList) || (!(t728.toList == a0_1.toList) || (!(t729.toList == a0_2.toList)))) a0_0 a0_1 a0_2 a1_0 a1_1 a1_2) else (newellaw09_CoordBack.j1 kj3 a2 true a0_0 a0_1 a0_2 a1_0 a1_1 a1_2)) = some r := by rw [if_pos rfl] at H; exact H
   clear H
   have H := H1
   clear H1
   by_cases c33 : t730 = true
   ·subst c33
    have H1 : (newellaw09_CoordBack.j1 kj3 a2 (!(t727.toList == a0_0.toList) || (!(t728.toList == a0_1.toList) || (!(t729.toList == a0_2.toList)))) a0_0 a0_1 a0_2 a1_0 a1_1 a1_2) = some r := by rw [if_pos rfl] at H; exact H
    clear H
    have H := H1
    clear H1
    have H' := Aside0.mk H
    clear H
    have hnb34 := NB723_724.out
    have hnc34 := NB724_723.out
    have hnb35 := NB723_731.out
    have hnc35 := NB731_723.out
    obtain ⟨hcz36_0, hcz36_1, hcz36_2, hfz36_0, hfz36_1, hfz36_2⟩ := cells3 BK723
    go_wp2_with (first | (refine gl (some 36) Tryd.func36 #[.agg #[.string a0_0, .string a0_1, .string a0_2]] ?_; (with_reducible refine (coord_Right.calls kj3 a0_0 a0_1 a0_2 true _ (gS HG) A31.out).mono ?_); rintro e w37 ⟨rfl, hb⟩; refine ⟨_, rfl, ?_⟩; replace BK723 := Aside0.mk (blk_below (g := gb723) (o := .cells #[.string a0_0, .string a0_1, .string a0_2] 32 (0, 0)) (by (with_reducible repeat (first | refine blk_drewN ?_ _ | refine blk_drew ?_ | refine blk_alloc ?_ _)); refine blk_far ?_ NB723_731.out _; (with_reducible repeat (first | refine blk_drewN ?_ _ | refine blk_drew ?_ | refine blk_alloc ?_ _)); refine blk_far ?_ NB723_731.out _; (with_reducible repeat (first | refine blk_drewN ?_ _ | refine blk_drew ?_ | refine blk_alloc ?_ _)); refine blk_far ?_ NB723_731.out _; (with_reducible repeat (first | refine blk_drewN ?_ _ | refine blk_drew ?_ | refine blk_alloc ?_ _)); exact BK723.out) hb); replace BK724 := Aside0.mk (blk_below (g := gb724) (o := .cells #[.string a1_0, .string a1_1, .string a1_2] 32 (0, 0)) (by (with_reducible repeat (first | refine blk_drewN ?_ _ | refine blk_drew ?_ | refine blk_alloc ?_ _)); refine blk_far ?_ NB724_731.out _; (with_reducible repeat (first | refine blk_drewN ?_ _ | refine blk_drew ?_ | refine blk_alloc ?_ _)); refine blk_far ?_ NB724_731.out _; (with_reducible repeat (first | refine blk_drewN ?_ _ | refine blk_drew ?_ | refine blk_alloc ?_ _)); refine blk_far ?_ NB724_731.out _; (with_reducible repeat (first | refine blk_drewN ?_ _ | refine blk_drew ?_ | refine blk_alloc ?_ _)); exact BK724.out) hb); replace BK731 := Aside0.mk (blk_below (g := gb731) (o := .cells #[.string t727, .string t728, .string t729] 32 (0, 0)) (bP BK731) hb); replace HB := sB hb; (try clear hb); have hnb38 := NB731_724.out; have hnc38 := NB724_731.out; have hcz39_0 : w37.cell? ⟨gb731, 0, none⟩ = some (.string t727) := (blk_cell BK731.out 0).trans rfl; have hcz39_1 : w37.cell? ⟨gb731, 1, none⟩ = some (.string t728) := (blk_cell BK731.out 1).trans rfl; have hcz39_2 : w37.cell? ⟨gb731, 2, none⟩ = some (.string t729) := (blk_cell BK731.out 2).trans rfl; have hfz39_0 := blk_frozen BK731.out 0; have hfz39_1 := blk_frozen BK731.out 1; have hfz39_2 := blk_frozen BK731.out 2; have hcz40_0 : w37.cell? ⟨gb723, 0, none⟩ = some (.string a0_0) := (blk_cell BK723.out 0).trans rfl; have hcz40_1 : w37.cell? ⟨gb723, 1, none⟩ = some (.string a0_1) := (blk_cell BK723.out 1).trans rfl; have hcz40_2 : w37.cell? ⟨gb723, 2, none⟩ = some (.string a0_2) := (blk_cell BK723.out 2).trans rfl; have hfz40_0 := blk_frozen BK723.out 0; have hfz40_1 := blk_frozen BK723.out 1; have hfz40_2 := blk_frozen BK723.out 2))
    go_meet
    case rel => exact ⟨_, ((!(t727.toList == a0_0.toList) || (!(t728.toList == a0_1.toList) || (!(t729.toList == a0_2.toList))))), cA, H', ⟨by have := HJ3.out; first | omega | exact Nat.le_refl _⟩, ⟨bK BK723⟩, ⟨bK BK724⟩, ⟨bK BK731⟩, ⟨bG⟩⟩
   replace c33 := Bool.eq_false_iff.mpr c33
   subst c33
   have H1 : (newellaw09_CoordBack.j1 kj3 a2 true a0_0 a0_1 a0_2 a1_0 a1_1 a1_2) = some r := by rw [if_neg (show ¬ (false = true) by decide)] at H; exact H
   clear H
   have H := H1
   clear H1
   have H' := Aside0.mk H
   clear H
   have hnb41 := NB723_724.out
   have hnc41 := NB724_723.out
   have hnb42 := NB723_731.out
   have hnc42 := NB731_723.out
   obtain ⟨hcz43_0, hcz43_1, hcz43_2, hfz43_0, hfz43_1, hfz43_2⟩ := cells3 BK723
   go_wp2_with (first | (refine gl (some 36) Tryd.func36 #[.agg #[.string a0_0, .string a0_1, .string a0_2]] ?_; (with_reducible refine (coord_Right.calls kj3 a0_0 a0_1 a0_2 true _ (gS HG) A31.out).mono ?_); rintro e w44 ⟨rfl, hb⟩; refine ⟨_, rfl, ?_⟩; replace BK723 := Aside0.mk (blk_below (g := gb723) (o := .cells #[.string a0_0, .string a0_1, .string a0_2] 32 (0, 0)) (by (with_reducible repeat (first | refine blk_drewN ?_ _ | refine blk_drew ?_ | refine blk_alloc ?_ _)); refine blk_far ?_ NB723_731.out _; (with_reducible repeat (first | refine blk_drewN ?_ _ | refine blk_drew ?_ | refine blk_alloc ?_ _)); refine blk_far ?_ NB723_731.out _; (with_reducible repeat (first | refine blk_drewN ?_ _ | refine blk_drew ?_ | refine blk_alloc ?_ _)); refine blk_far ?_ NB723_731.out _; (with_reducible repeat (first | refine blk_drewN ?_ _ | refine blk_drew ?_ | refine blk_alloc ?_ _)); exact BK723.out) hb); replace BK724 := Aside0.mk (blk_below (g := gb724) (o := .cells #[.string a1_0, .string a1_1, .string a1_2] 32 (0, 0)) (by (with_reducible repeat (first | refine blk_drewN ?_ _ | refine blk_drew ?_ | refine blk_alloc ?_ _)); refine blk_far ?_ NB724_731.out _; (with_reducible repeat (first | refine blk_drewN ?_ _ | refine blk_drew ?_ | refine blk_alloc ?_ _)); refine blk_far ?_ NB724_731.out _; (with_reducible repeat (first | refine blk_drewN ?_ _ | refine blk_drew ?_ | refine blk_alloc ?_ _)); refine blk_far ?_ NB724_731.out _; (with_reducible repeat (first | refine blk_drewN ?_ _ | refine blk_drew ?_ | refine blk_alloc ?_ _)); exact BK724.out) hb); replace BK731 := Aside0.mk (blk_below (g := gb731) (o := .cells #[.string t727, .string t728, .string t729] 32 (0, 0)) (bP BK731) hb); replace HB := sB hb; (try clear hb)))
   go_meet
   case rel => exact ⟨_, (true), cA, H', ⟨by have := HJ3.out; first | omega | exact Nat.le_refl _⟩, ⟨bK BK723⟩, ⟨bK BK724⟩, ⟨bK BK731⟩, ⟨bG⟩⟩
  clear HC22
  try clear c1
  try clear c2
  try clear p2
  try clear c3
  try clear c4
  try clear c7
  try clear c7b0
  try clear c7b1
  try clear c8
  try clear c10
  try clear c10b0
  try clear c10b1
  try clear c11
  try clear c12
  try clear c14
  try clear c17
  try clear c23
  try clear c24
  try clear c26
  try clear c28
  try clear c29
  try clear c32
  try clear c33
  try clear c34
  try clear c35
  try clear c36
  try clear c38
  try clear c41
  try clear c42
  try clear c45
  try clear c46
  try clear hcz12_0
  try clear hcz12_1
  try clear hcz12_2
  try clear hcz13_0
  try clear hcz13_1
  try clear hcz13_2
  try clear hcz15_0
  try clear hcz15_1
  try clear hcz15_2
  try clear hcz16_0
  try clear hcz16_1
  try clear hcz16_2
  try clear hcz24_0
  try clear hcz24_1
  try clear hcz24_2
  try clear hcz30_0
  try clear hcz30_1
  try clear hcz30_2
  try clear hcz36_0
  try clear hcz36_1
  try clear hcz36_2
  try clear hcz39_0
  try clear hcz39_1
  try clear hcz39_2
  try clear hcz40_0
  try clear hcz40_1
  try clear hcz40_2
  try clear hcz43_0
  try clear hcz43_1
  try clear hcz43_2
  try clear hcz47_0
  try clear hcz47_1
  try clear hcz47_2
  try clear hcz9_0
  try clear hcz9_1
  try clear hcz9_2
  try clear hfz12_0
  try clear hfz12_1
  try clear hfz12_2
  try clear hfz13_0
  try clear hfz13_1
  try clear hfz13_2
  try clear hfz15_0
  try clear hfz15_1
  try clear hfz15_2
  try clear hfz16_0
  try clear hfz16_1
  try clear hfz16_2
  try clear hfz24_0
  try clear hfz24_1
  try clear hfz24_2
  try clear hfz30_0
  try clear hfz30_1
  try clear hfz30_2
  try clear hfz36_0
  try clear hfz36_1
  try clear hfz36_2
  try clear hfz39_0
  try clear hfz39_1
  try clear hfz39_2
  try clear hfz40_0
  try clear hfz40_1
  try clear hfz40_2
  try clear hfz43_0
  try clear hfz43_1
  try clear hfz43_2
  try clear hfz47_0
  try clear hfz47_1
  try clear hfz47_2
  try clear hfz9_0
  try clear hfz9_1
  try clear hfz9_2
  try clear p2
  obtain ⟨kq, x45_21, rfl, HA, HJ21, BK723, BK724, BK731, HB⟩ := hcut
  cases kq with
  | zero => exact absurd HA.out (by simp [newellaw09_CoordBack.j1])
  | succ kj21 =>
   have H := HA.out
   clear HA
   simp only [newellaw09_CoordBack.j1] at H
   by_cases c49 : x45_21 = true
   ·subst c49
    have H1 : (some false) = some r := by rw [if_pos rfl] at H; exact H
    clear H
    have H := H1
    clear H1
    exfalso
    obtain rfl := Option.some.inj H
    exact absurd hr_ (by decide)
   replace c49 := Bool.eq_false_iff.mpr c49
   subst c49
   have H1 : ((coord_Parse.f kj21 a2).bind fun bt733 => (if bt733.2.2.2 = true then ((coord_Text.f bt733.1 bt733.2.1 bt733.2.2.1).bind fun t738 => (if t738.toList = a2.toList then ((coord_Right.f kj21 bt733.1 bt733.2.1 bt733.2.2.1).bind fun t739 => (newellaw09_CoordBack.j2 kj21 (!t739) a0_0 a0_1 a0_2 a1_0 a1_1 a1_2)) else (newellaw09_CoordBack.j2 kj21 true a0_0 a0_1 a0_2 a1_0 a1_1 a1_2))) else (newellaw09_CoordBack.j2 kj21 false a0_0 a0_1 a0_2 a1_0 a1_1 a1_2))) = some r := by rw [if_neg (show ¬ (false = true) by decide)] at H; exact H
   clear H
   have H := H1
   clear H1
   replace H := Option.bind_eq_some_iff.mp H
   obtain ⟨⟨t733, t734, t735, t736⟩, A500, H⟩ := H
   try dsimp only at H
   have A50 := Aside0.mk A500
   clear A500
   have HC51 := Aside0.mk H
   clear H
   go_upto_region 7 with (first | (refine gl (some 48) Tryd.func26 #[.string a2] ?_; (with_reducible refine (coord_Parse.calls kj21 a2 t733 t734 t735 t736 _ (gS HG) A50.out).mono ?_); rintro e w52 ⟨rfl, hb⟩; refine ⟨_, rfl, ?_⟩; replace BK723 := kB BK723 hb; replace BK724 := kB BK724 hb; replace BK731 := kB BK731 hb; replace HB := sB hb; (try clear hb)) | ((with_reducible refine gate_dst (N := 9) rfl ?_); (try (refine gate_guard (by rfl) ?_; dsimp only)); refine be 9 #[.string (⟨#[]⟩ : ByteArray), .string (⟨#[]⟩ : ByteArray), .string (⟨#[]⟩ : ByteArray)] 32 ?_; intro gb737 hg w53 hbox hb; have BK737 := Aside0.mk (hbox); have GW737 := gW hg; have GE737 := gW hg; replace HB := sB hb; have NB723_737 := nL BK723 hg; have NB737_723 := nG BK723 hg; replace BK723 := kB BK723 hb; have NB724_737 := nL BK724 hg; have NB737_724 := nG BK724 hg; replace BK724 := kB BK724 hb; have NB731_737 := nL BK731 hg; have NB737_731 := nG BK731 hg; replace BK731 := kB BK731 hb; clear hb hbox hg; have hnb54 := NB737_723.out; have hnc54 := NB723_737.out; have hnb55 := NB737_724.out; have hnc55 := NB724_737.out; have hnb56 := NB737_731.out; have hnc56 := NB731_737.out; have hcz57_0 : w53.cell? ⟨gb737, 0, none⟩ = some (.string (⟨#[]⟩ : ByteArray)) := (blk_cell BK737.out 0).trans rfl; have hcz57_1 : w53.cell? ⟨gb737, 1, none⟩ = some (.string (⟨#[]⟩ : ByteArray)) := (blk_cell BK737.out 1).trans rfl; have hcz57_2 : w53.cell? ⟨gb737, 2, none⟩ = some (.string (⟨#[]⟩ : ByteArray)) := (blk_cell BK737.out 2).trans rfl; have hfz57_0 := blk_frozen BK737.out 0; have hfz57_1 := blk_frozen BK737.out 1; have hfz57_2 := blk_frozen BK737.out 2))
   (try simp only [Act.put, List.setIfInBounds_toArray, List.set_cons_zero, List.set_cons_succ])
   go_cut [62] (fun v62 wc => ∃ (kq : Nat) (x62_50 : Bool), v62 = .bool x62_50 ∧ Aside0 (newellaw09_CoordBack.j2 kq x62_50 a0_0 a0_1 a0_2 a1_0 a1_1 a1_2 = some r) ∧ Aside0 (kq ≤ kj21) ∧ Aside0 (wc.heap[gb723]? = some (.cells #[.string a0_0, .string a0_1, .string a0_2] 32 (0, 0))) ∧ Aside0 (wc.heap[gb724]? = some (.cells #[.string a1_0, .string a1_1, .string a1_2] 32 (0, 0))) ∧ Aside0 (wc.heap[gb731]? = some (.cells #[.string t727, .string t728, .string t729] 32 (0, 0))) ∧ Aside0 (wc.heap[gb737]? = some (.cells #[.string t733, .string t734, .string t735] 32 (0, 0))) ∧ Aside0 (Below w.heap.size w wc))
   case first =>
    have H := HC51.out
    clear HC51
    by_cases c58 : t736 = true
    rotate_left
    ·replace c58 := Bool.eq_false_iff.mpr c58
     subst c58
     have H1 : (newellaw09_CoordBack.j2 kj21 false a0_0 a0_1 a0_2 a1_0 a1_1 a1_2) = some r := by rw [if_neg (show ¬ (false = true) by decide)] at H; exact H
     clear H
     have H := H1
     clear H1
     have H' := Aside0.mk H
     clear H
     go_wp2
     go_meet
     case rel => exact ⟨_, (false), cA, H', ⟨by have := HJ3.out; have := HJ21.out; first | omega | exact Nat.le_refl _⟩, ⟨by (with_reducible repeat (first | refine blk_drewN ?_ _ | refine blk_drew ?_ | refine blk_alloc ?_ _)); refine blk_far ?_ NB723_737.out _; (with_reducible repeat (first | refine blk_drewN ?_ _ | refine blk_drew ?_ | refine blk_alloc ?_ _)); refine blk_far ?_ NB723_737.out _; (with_reducible repeat (first | refine blk_drewN ?_ _ | refine blk_drew ?_ | refine blk_alloc ?_ _)); refine blk_far ?_ NB723_737.out _; (with_reducible repeat (first | refine blk_drewN ?_ _ | refine blk_drew ?_ | refine blk_alloc ?_ _)); exact BK723.out⟩, ⟨by (with_reducible repeat (first | refine blk_drewN ?_ _ | refine blk_drew ?_ | refine blk_alloc ?_ _)); refine blk_far ?_ NB724_737.out _; (with_reducible repeat (first | refine blk_drewN ?_ _ | refine blk_drew ?_ | refine blk_alloc ?_ _)); refine blk_far ?_ NB724_737.out _; (with_reducible repeat (first | refine blk_drewN ?_ _ | refine blk_drew ?_ | refine blk_alloc ?_ _)); refine blk_far ?_ NB724_737.out _; (with_reducible repeat (first | refine blk_drewN ?_ _ | refine blk_drew ?_ | refine blk_alloc ?_ _)); exact BK724.out⟩, ⟨by (with_reducible repeat (first | refine blk_drewN ?_ _ | refine blk_drew ?_ | refine blk_alloc ?_ _)); refine blk_far ?_ NB731_737.out _; (with_reducible repeat (first | refine blk_drewN ?_ _ | refine blk_drew ?_ | refine blk_alloc ?_ _)); refine blk_far ?_ NB731_737.out _; (with_reducible repeat (first | refine blk_drewN ?_ _ | refine blk_drew ?_ | refine blk_alloc ?_ _)); refine blk_far ?_ NB731_737.out _; (with_reducible repeat (first | refine blk_drewN ?_ _ | refine blk_drew ?_ | refine blk_alloc ?_ _)); exact BK731.out⟩, ⟨bP BK737⟩, ⟨bG⟩⟩
    subst c58
    have H1 : ((coord_Text.f t733 t734 t735).bind fun t738 => (if t738.toList = a2.toList then ((coord_Right.f kj21 t733 t734 t735).bind fun t739 => (newellaw09_CoordBack.j2 kj21 (!t739) a0_0 a0_1 a0_2 a1_0 a1_1 a1_2)) else (newellaw09_CoordBack.j2 kj21 true a0_0 a0_1 a0_2 a1_0 a1_1 a1_2))) = some r := by rw [if_pos rfl] at H; exact H
    clear H
    have H := H1
    clear H1
    replace H := Option.bind_eq_some_iff.mp H
    obtain ⟨t738, A590, H⟩ := H
    try dsimp only at H
    have A59 := Aside0.mk A590
    clear A590
    by_cases c60 : t738.toList = a2.toList
    rotate_left
    ·rw [if_neg c60] at H
     obtain ⟨c60b0, c60b1⟩ := eqF c60
     (first | rw [c60b0] | (simp only [i64_w, i32_w]; rw [c60b0]) | skip)
     have H' := Aside0.mk H
     clear H
     have hnb69 := NB737_723.out
     have hnc69 := NB723_737.out
     have hnb70 := NB737_724.out
     have hnc70 := NB724_737.out
     have hnb71 := NB737_731.out
     have hnc71 := NB731_737.out
     obtain ⟨hcz72_0, hcz72_1, hcz72_2, hfz72_0, hfz72_1, hfz72_2⟩ := cells3 BK737
     go_wp2_with (first | (go_at_call 38; (with_reducible refine (coord_Text.calls t733 t734 t735 t738 _ (gS HG) A59.out).mono ?_); rintro e w73 ⟨rfl, hb⟩; replace BK723 := Aside0.mk (blk_below (g := gb723) (o := .cells #[.string a0_0, .string a0_1, .string a0_2] 32 (0, 0)) (by (with_reducible repeat (first | refine blk_drewN ?_ _ | refine blk_drew ?_ | refine blk_alloc ?_ _)); refine blk_far ?_ NB723_737.out _; (with_reducible repeat (first | refine blk_drewN ?_ _ | refine blk_drew ?_ | refine blk_alloc ?_ _)); refine blk_far ?_ NB723_737.out _; (with_reducible repeat (first | refine blk_drewN ?_ _ | refine blk_drew ?_ | refine blk_alloc ?_ _)); refine blk_far ?_ NB723_737.out _; (with_reducible repeat (first | refine blk_drewN ?_ _ | refine blk_drew ?_ | refine blk_alloc ?_ _)); exact BK723.out) hb); replace BK724 := Aside0.mk (blk_below (g := gb724) (o := .cells #[.string a1_0, .string a1_1, .string a1_2] 32 (0, 0)) (by (with_reducible repeat (first | refine blk_drewN ?_ _ | refine blk_drew ?_ | refine blk_alloc ?_ _)); refine blk_far ?_ NB724_737.out _; (with_reducible repeat (first | refine blk_drewN ?_ _ | refine blk_drew ?_ | refine blk_alloc ?_ _)); refine blk_far ?_ NB724_737.out _; (with_reducible repeat (first | refine blk_drewN ?_ _ | refine blk_drew ?_ | refine blk_alloc ?_ _)); refine blk_far ?_ NB724_737.out _; (with_reducible repeat (first | refine blk_drewN ?_ _ | refine blk_drew ?_ | refine blk_alloc ?_ _)); exact BK724.out) hb); replace BK731 := Aside0.mk (blk_below (g := gb731) (o := .cells #[.string t727, .string t728, .string t729] 32 (0, 0)) (by (with_reducible repeat (first | refine blk_drewN ?_ _ | refine blk_drew ?_ | refine blk_alloc ?_ _)); refine blk_far ?_ NB731_737.out _; (with_reducible repeat (first | refine blk_drewN ?_ _ | refine blk_drew ?_ | refine blk_alloc ?_ _)); refine blk_far ?_ NB731_737.out _; (with_reducible repeat (first | refine blk_drewN ?_ _ | refine blk_drew ?_ | refine blk_alloc ?_ _)); refine blk_far ?_ NB731_737.out _; (with_reducible repeat (first | refine blk_drewN ?_ _ | refine blk_drew ?_ | refine blk_alloc ?_ _)); exact BK731.out) hb); replace BK737 := Aside0.mk (blk_below (g := gb737) (o := .cells #[.string t733, .string t734, .string t735] 32 (0, 0)) (bP BK737) hb); replace HB := sB hb; (try clear hb)))
     go_meet
     case rel => exact ⟨_, (true), cA, H', ⟨by have := HJ3.out; have := HJ21.out; first | omega | exact Nat.le_refl _⟩, ⟨bK BK723⟩, ⟨bK BK724⟩, ⟨bK BK731⟩, ⟨bK BK737⟩, ⟨bG⟩⟩
    rw [if_pos c60] at H
    obtain ⟨c60b0, c60b1⟩ := eqT c60
    clear c60
    (first | rw [c60b0] | (simp only [i64_w, i32_w]; rw [c60b0]) | skip)
    replace H := Option.bind_eq_some_iff.mp H
    obtain ⟨t739, A610, H⟩ := H
    try dsimp only at H
    have A61 := Aside0.mk A610
    clear A610
    have H' := Aside0.mk H
    clear H
    have hnb62 := NB737_723.out
    have hnc62 := NB723_737.out
    have hnb63 := NB737_724.out
    have hnc63 := NB724_737.out
    have hnb64 := NB737_731.out
    have hnc64 := NB731_737.out
    obtain ⟨hcz65_0, hcz65_1, hcz65_2, hfz65_0, hfz65_1, hfz65_2⟩ := cells3 BK737
    go_wp2_with (first | (go_at_call 38; (with_reducible refine (coord_Text.calls t733 t734 t735 t738 _ (gS HG) A59.out).mono ?_); rintro e w66 ⟨rfl, hb⟩; replace BK723 := Aside0.mk (blk_below (g := gb723) (o := .cells #[.string a0_0, .string a0_1, .string a0_2] 32 (0, 0)) (by (with_reducible repeat (first | refine blk_drewN ?_ _ | refine blk_drew ?_ | refine blk_alloc ?_ _)); refine blk_far ?_ NB723_737.out _; (with_reducible repeat (first | refine blk_drewN ?_ _ | refine blk_drew ?_ | refine blk_alloc ?_ _)); refine blk_far ?_ NB723_737.out _; (with_reducible repeat (first | refine blk_drewN ?_ _ | refine blk_drew ?_ | refine blk_alloc ?_ _)); refine blk_far ?_ NB723_737.out _; (with_reducible repeat (first | refine blk_drewN ?_ _ | refine blk_drew ?_ | refine blk_alloc ?_ _)); exact BK723.out) hb); replace BK724 := Aside0.mk (blk_below (g := gb724) (o := .cells #[.string a1_0, .string a1_1, .string a1_2] 32 (0, 0)) (by (with_reducible repeat (first | refine blk_drewN ?_ _ | refine blk_drew ?_ | refine blk_alloc ?_ _)); refine blk_far ?_ NB724_737.out _; (with_reducible repeat (first | refine blk_drewN ?_ _ | refine blk_drew ?_ | refine blk_alloc ?_ _)); refine blk_far ?_ NB724_737.out _; (with_reducible repeat (first | refine blk_drewN ?_ _ | refine blk_drew ?_ | refine blk_alloc ?_ _)); refine blk_far ?_ NB724_737.out _; (with_reducible repeat (first | refine blk_drewN ?_ _ | refine blk_drew ?_ | refine blk_alloc ?_ _)); exact BK724.out) hb); replace BK731 := Aside0.mk (blk_below (g := gb731) (o := .cells #[.string t727, .string t728, .string t729] 32 (0, 0)) (by (with_reducible repeat (first | refine blk_drewN ?_ _ | refine blk_drew ?_ | refine blk_alloc ?_ _)); refine blk_far ?_ NB731_737.out _; (with_reducible repeat (first | refine blk_drewN ?_ _ | refine blk_drew ?_ | refine blk_alloc ?_ _)); refine blk_far ?_ NB731_737.out _; (with_reducible repeat (first | refine blk_drewN ?_ _ | refine blk_drew ?_ | refine blk_alloc ?_ _)); refine blk_far ?_ NB731_737.out _; (with_reducible repeat (first | refine blk_drewN ?_ _ | refine blk_drew ?_ | refine blk_alloc ?_ _)); exact BK731.out) hb); replace BK737 := Aside0.mk (blk_below (g := gb737) (o := .cells #[.string t733, .string t734, .string t735] 32 (0, 0)) (bP BK737) hb); replace HB := sB hb; (try clear hb); have hcz67_0 : w66.cell? ⟨gb737, 0, none⟩ = some (.string t733) := (blk_cell BK737.out 0).trans rfl; have hcz67_1 : w66.cell? ⟨gb737, 1, none⟩ = some (.string t734) := (blk_cell BK737.out 1).trans rfl; have hcz67_2 : w66.cell? ⟨gb737, 2, none⟩ = some (.string t735) := (blk_cell BK737.out 2).trans rfl; have hfz67_0 := blk_frozen BK737.out 0; have hfz67_1 := blk_frozen BK737.out 1; have hfz67_2 := blk_frozen BK737.out 2) | (go_at_call 36; (with_reducible refine (coord_Right.calls kj21 t733 t734 t735 t739 _ (gS HG) A61.out).mono ?_); rintro e w68 ⟨rfl, hb⟩; replace BK723 := kB BK723 hb; replace BK724 := kB BK724 hb; replace BK731 := kB BK731 hb; replace BK737 := kB BK737 hb; replace HB := sB hb; (try clear hb)))
    go_meet
    case rel => exact ⟨_, (!t739), cA, H', ⟨by have := HJ3.out; have := HJ21.out; first | omega | exact Nat.le_refl _⟩, ⟨bK BK723⟩, ⟨bK BK724⟩, ⟨bK BK731⟩, ⟨bK BK737⟩, ⟨bG⟩⟩
   clear HC51
   try clear c1
   try clear c2
   try clear p2
   try clear c3
   try clear c4
   try clear c5
   try clear c6
   try clear c7
   try clear c7b0
   try clear c7b1
   try clear c8
   try clear c10
   try clear c10b0
   try clear c10b1
   try clear c11
   try clear c12
   try clear c14
   try clear c17
   try clear c23
   try clear c24
   try clear c26
   try clear c28
   try clear c29
   try clear c32
   try clear c33
   try clear c34
   try clear c35
   try clear c36
   try clear c38
   try clear c41
   try clear c42
   try clear c45
   try clear c46
   try clear c49
   try clear c54
   try clear c55
   try clear c56
   try clear c58
   try clear c60
   try clear c60b0
   try clear c60b1
   try clear c62
   try clear c63
   try clear c64
   try clear c69
   try clear c70
   try clear c71
   try clear hcz12_0
   try clear hcz12_1
   try clear hcz12_2
   try clear hcz13_0
   try clear hcz13_1
   try clear hcz13_2
   try clear hcz15_0
   try clear hcz15_1
   try clear hcz15_2
   try clear hcz16_0
   try clear hcz16_1
   try clear hcz16_2
   try clear hcz24_0
   try clear hcz24_1
   try clear hcz24_2
   try clear hcz30_0
   try clear hcz30_1
   try clear hcz30_2
   try clear hcz36_0
   try clear hcz36_1
   try clear hcz36_2
   try clear hcz39_0
   try clear hcz39_1
   try clear hcz39_2
   try clear hcz40_0
   try clear hcz40_1
   try clear hcz40_2
   try clear hcz43_0
   try clear hcz43_1
   try clear hcz43_2
   try clear hcz47_0
   try clear hcz47_1
   try clear hcz47_2
   try clear hcz57_0
   try clear hcz57_1
   try clear hcz57_2
   try clear hcz65_0
   try clear hcz65_1
   try clear hcz65_2
   try clear hcz67_0
   try clear hcz67_1
   try clear hcz67_2
   try clear hcz72_0
   try clear hcz72_1
   try clear hcz72_2
   try clear hcz9_0
   try clear hcz9_1
   try clear hcz9_2
   try clear hfz12_0
   try clear hfz12_1
   try clear hfz12_2
   try clear hfz13_0
   try clear hfz13_1
   try clear hfz13_2
   try clear hfz15_0
   try clear hfz15_1
   try clear hfz15_2
   try clear hfz16_0
   try clear hfz16_1
   try clear hfz16_2
   try clear hfz24_0
   try clear hfz24_1
   try clear hfz24_2
   try clear hfz30_0
   try clear hfz30_1
   try clear hfz30_2
   try clear hfz36_0
   try clear hfz36_1
   try clear hfz36_2
   try clear hfz39_0
   try clear hfz39_1
   try clear hfz39_2
   try clear hfz40_0
   try clear hfz40_1
   try clear hfz40_2
   try clear hfz43_0
   try clear hfz43_1
   try clear hfz43_2
   try clear hfz47_0
   try clear hfz47_1
   try clear hfz47_2
   try clear hfz57_0
   try clear hfz57_1
   try clear hfz57_2
   try clear hfz65_0
   try clear hfz65_1
   try clear hfz65_2
   try clear hfz67_0
   try clear hfz67_1
   try clear hfz67_2
   try clear hfz72_0
   try clear hfz72_1
   try clear hfz72_2
   try clear hfz9_0
   try clear hfz9_1
   try clear hfz9_2
   try clear p2
   obtain ⟨kq, x62_50, rfl, HA, HJ50, BK723, BK724, BK731, BK737, HB⟩ := hcut
   cases kq with
   | zero => exact absurd HA.out (by simp [newellaw09_CoordBack.j2])
   | succ kj50 =>
    have H := HA.out
    clear HA
    simp only [newellaw09_CoordBack.j2] at H
    by_cases c74 : x62_50 = true
    ·subst c74
     have H1 : (some false) = some r := by rw [if_pos rfl] at H; exact H
     clear H
     have H := H1
     clear H1
     exfalso
     obtain rfl := Option.some.inj H
     exact absurd hr_ (by decide)
    replace c74 := Bool.eq_false_iff.mpr c74
    subst c74
    have H1 : ((coord_Less.f kj50 a0_0 a0_1 a0_2 a1_0 a1_1 a1_2).bind fun t740 => ((coord_Less.f kj50 a1_0 a1_1 a1_2 a0_0 a0_1 a0_2).bind fun t741 => ((newellaw09_awake.f kj50).bind fun t742 => (if t742 = true then (if t740 = true then (if t741 = true then (some false) else (some (true == (!(a0_0.toList == a1_0.toList) || (!(a0_1.toList == a1_1.toList) || (!(a0_2.toList == a1_2.toList))))))) else (some (t741 == (!(a0_0.toList == a1_0.toList) || (!(a0_1.toList == a1_1.toList) || (!(a0_2.toList == a1_2.toList))))))) else (some false))))) = some r := by rw [if_neg (show ¬ (false = true) by decide)] at H; exact H
    clear H
    have H := H1
    clear H1
    replace H := Option.bind_eq_some_iff.mp H
    obtain ⟨t740, A750, H⟩ := H
    try dsimp only at H
    have A75 := Aside0.mk A750
    clear A750
    replace H := Option.bind_eq_some_iff.mp H
    obtain ⟨t741, A760, H⟩ := H
    try dsimp only at H
    have A76 := Aside0.mk A760
    clear A760
    replace H := Option.bind_eq_some_iff.mp H
    obtain ⟨t742, A770, H⟩ := H
    try dsimp only at H
    have A77 := Aside0.mk A770
    clear A770
    by_cases c78 : t742 = true
    rotate_left
    ·replace c78 := Bool.eq_false_iff.mpr c78
     subst c78
     have H1 : (some false) = some r := by rw [if_neg (show ¬ (false = true) by decide)] at H; exact H
     clear H
     have H := H1
     clear H1
     exfalso
     obtain rfl := Option.some.inj H
     exact absurd hr_ (by decide)
    subst c78
    have H1 : (if t740 = true then (if t741 = true then (some false) else (some (true == (!(a0_0.toList == a1_0.toList) || (!(a0_1.toList == a1_1.toList) || (!(a0_2.toList == a1_2.toList))))))) else (some (t741 == (!(a0_0.toList == a1_0.toList) || (!(a0_1.toList == a1_1.toList) || (!(a0_2.toList == a1_2.toList))))))) = some r := by rw [if_pos rfl] at H; exact H
    clear H
    have H := H1
    clear H1
    by_cases c79 : t740 = true
    rotate_left
    ·replace c79 := Bool.eq_false_iff.mpr c79
     subst c79
     have H1 : (some (t741 == (!(a0_0.toList == a1_0.toList) || (!(a0_1.toList == a1_1.toList) || (!(a0_2.toList == a1_2.toList)))))) = some r := by rw [if_neg (show ¬ (false = true) by decide)] at H; exact H
     clear H
     have H := H1
     clear H1
     obtain rfl := Option.some.inj H
     try go_wp2
     replace BK723 := Aside0.mk (blk_drew BK723.out)
     replace BK724 := Aside0.mk (blk_drew BK724.out)
     replace BK731 := Aside0.mk (blk_drew BK731.out)
     replace BK737 := Aside0.mk (blk_drew BK737.out)
     replace HB := Aside0.mk (below_drew1 HB.out)
     refine start_ (n := 8) (S := fun w' => w'.cell? ⟨gb723, 0, none⟩ = some (.string a0_0) ∧ w'.cell? ⟨gb723, 1, none⟩ = some (.string a0_1) ∧ w'.cell? ⟨gb723, 2, none⟩ = some (.string a0_2) ∧ w'.cell? ⟨gb724, 0, none⟩ = some (.string a1_0) ∧ w'.cell? ⟨gb724, 1, none⟩ = some (.string a1_1) ∧ w'.cell? ⟨gb724, 2, none⟩ = some (.string a1_2)) (ds := []) #[false, false, false, false, false, false, false, false] (by kernel_rfl) rfl rfl ⟨(blk_cell BK723.out 0).trans rfl, (blk_cell BK723.out 1).trans rfl, (blk_cell BK723.out 2).trans rfl, (blk_cell BK724.out 0).trans rfl, (blk_cell BK724.out 1).trans rfl, (blk_cell BK724.out 2).trans rfl⟩ (fun hHeld => ?_); refine with_tabW newellaw09_CoordBack.tab9 newellaw09_CoordBack.bits9 (fun HT_ HW_ => ?_)
     generalize wc.drew = w92 at BK723 BK724 BK731 BK737 HB hHeld ⊢
     refine tm 0 (some 63) HT_ HW_ hHeld ?_
     refine tm 1 (some 64) HT_ HW_ hHeld ?_
     refine tm 3 (some 66) HT_ HW_ hHeld ?_
     refine tm 4 (some 67) HT_ HW_ hHeld ?_
     refine on 2 (some 65) HT_ (fun K hK => ?_)
     refine goes_ Tryd.func41 (by kernel_rfl) rfl #[.agg #[.string a0_0, .string a0_1, .string a0_2], .agg #[.string a1_0, .string a1_1, .string a1_2]] (by rfl) rfl rfl mA ?_
     with_reducible refine (coord_Less.calls kj50 a0_0 a0_1 a0_2 a1_0 a1_1 a1_2 false _ (gS HG) A75.out).mono ?_
     rintro e w93 ⟨rfl, hb⟩
     refine ⟨_, rfl, ?_⟩
     replace BK723 := kB BK723 hb
     replace BK724 := kB BK724 hb
     replace BK731 := kB BK731 hb
     replace BK737 := kB BK737 hb
     replace HB := sB hb
     (try clear hb)
     refine hK.out _ _ ⟨(blk_cell BK723.out 0).trans rfl, (blk_cell BK723.out 1).trans rfl, (blk_cell BK723.out 2).trans rfl, (blk_cell BK724.out 0).trans rfl, (blk_cell BK724.out 1).trans rfl, (blk_cell BK724.out 2).trans rfl⟩ (fun hHeld => ?_)
     clear hK K
     refine nz (some 65) ?_
     refine on 5 (some 68) HT_ (fun K hK => ?_)
     refine goes_ Tryd.func41 (by kernel_rfl) rfl #[.agg #[.string a1_0, .string a1_1, .string a1_2], .agg #[.string a0_0, .string a0_1, .string a0_2]] (by rfl) rfl rfl mA ?_
     with_reducible refine (coord_Less.calls kj50 a1_0 a1_1 a1_2 a0_0 a0_1 a0_2 t741 _ (gS HG) A76.out).mono ?_
     rintro e w94 ⟨rfl, hb⟩
     refine ⟨_, rfl, ?_⟩
     replace BK723 := kB BK723 hb
     replace BK724 := kB BK724 hb
     replace BK731 := kB BK731 hb
     replace BK737 := kB BK737 hb
     replace HB := sB hb
     (try clear hb)
     refine hK.out _ _ ⟨(blk_cell BK723.out 0).trans rfl, (blk_cell BK723.out 1).trans rfl, (blk_cell BK723.out 2).trans rfl, (blk_cell BK724.out 0).trans rfl, (blk_cell BK724.out 1).trans rfl, (blk_cell BK724.out 2).trans rfl⟩ (fun hHeld => ?_)
     clear hK K
     refine nz (some 68) ?_
     refine pz 6 (some 11) HT_ ?_
     refine pz 7 (some 12) HT_ ?_
     refine done_ (done_of HT_.out (by kernel_rfl)) ?_
     try go_wp2_with (first | (refine gl (some 69) Tryd.func24 #[] ?_; (with_reducible refine (newellaw09_awake.calls kj50  true _ (gS HG) A77.out).mono ?_); rintro e w95 ⟨rfl, hb⟩; refine ⟨_, rfl, ?_⟩; replace BK723 := kB BK723 hb; replace BK724 := kB BK724 hb; replace BK731 := kB BK731 hb; replace BK737 := kB BK737 hb; replace HB := sB hb; (try clear hb); have hnb96 := NB723_724.out; have hnc96 := NB724_723.out; have hnb97 := NB723_731.out; have hnc97 := NB731_723.out; have hnb98 := NB723_737.out; have hnc98 := NB737_723.out; have hcz99_0 : w95.cell? ⟨gb723, 0, none⟩ = some (.string a0_0) := (blk_cell BK723.out 0).trans rfl; have hcz99_1 : w95.cell? ⟨gb723, 1, none⟩ = some (.string a0_1) := (blk_cell BK723.out 1).trans rfl; have hcz99_2 : w95.cell? ⟨gb723, 2, none⟩ = some (.string a0_2) := (blk_cell BK723.out 2).trans rfl; have hfz99_0 := blk_frozen BK723.out 0; have hfz99_1 := blk_frozen BK723.out 1; have hfz99_2 := blk_frozen BK723.out 2; have hnb100 := NB724_731.out; have hnc100 := NB731_724.out; have hnb101 := NB724_737.out; have hnc101 := NB737_724.out; have hcz102_0 : w95.cell? ⟨gb724, 0, none⟩ = some (.string a1_0) := (blk_cell BK724.out 0).trans rfl; have hcz102_1 : w95.cell? ⟨gb724, 1, none⟩ = some (.string a1_1) := (blk_cell BK724.out 1).trans rfl; have hcz102_2 : w95.cell? ⟨gb724, 2, none⟩ = some (.string a1_2) := (blk_cell BK724.out 2).trans rfl; have hfz102_0 := blk_frozen BK724.out 0; have hfz102_1 := blk_frozen BK724.out 1; have hfz102_2 := blk_frozen BK724.out 2))
     go_ret
     exact ⟨eA, bG⟩
    subst c79
    have H1 : (if t741 = true then (some false) else (some (true == (!(a0_0.toList == a1_0.toList) || (!(a0_1.toList == a1_1.toList) || (!(a0_2.toList == a1_2.toList))))))) = some r := by rw [if_pos rfl] at H; exact H
    clear H
    have H := H1
    clear H1
    by_cases c80 : t741 = true
    ·subst c80
     have H1 : (some false) = some r := by rw [if_pos rfl] at H; exact H
     clear H
     have H := H1
     clear H1
     exfalso
     obtain rfl := Option.some.inj H
     exact absurd hr_ (by decide)
    replace c80 := Bool.eq_false_iff.mpr c80
    subst c80
    have H1 : (some (true == (!(a0_0.toList == a1_0.toList) || (!(a0_1.toList == a1_1.toList) || (!(a0_2.toList == a1_2.toList)))))) = some r := by rw [if_neg (show ¬ (false = true) by decide)] at H; exact H
    clear H
    have H := H1
    clear H1
    obtain rfl := Option.some.inj H
    try go_wp2
    replace BK723 := Aside0.mk (blk_drew BK723.out)
    replace BK724 := Aside0.mk (blk_drew BK724.out)
    replace BK731 := Aside0.mk (blk_drew BK731.out)
    replace BK737 := Aside0.mk (blk_drew BK737.out)
    replace HB := Aside0.mk (below_drew1 HB.out)
    refine start_ (n := 8) (S := fun w' => w'.cell? ⟨gb723, 0, none⟩ = some (.string a0_0) ∧ w'.cell? ⟨gb723, 1, none⟩ = some (.string a0_1) ∧ w'.cell? ⟨gb723, 2, none⟩ = some (.string a0_2) ∧ w'.cell? ⟨gb724, 0, none⟩ = some (.string a1_0) ∧ w'.cell? ⟨gb724, 1, none⟩ = some (.string a1_1) ∧ w'.cell? ⟨gb724, 2, none⟩ = some (.string a1_2)) (ds := []) #[false, false, false, false, false, false, false, false] (by kernel_rfl) rfl rfl ⟨(blk_cell BK723.out 0).trans rfl, (blk_cell BK723.out 1).trans rfl, (blk_cell BK723.out 2).trans rfl, (blk_cell BK724.out 0).trans rfl, (blk_cell BK724.out 1).trans rfl, (blk_cell BK724.out 2).trans rfl⟩ (fun hHeld => ?_); refine with_tabW newellaw09_CoordBack.tab9 newellaw09_CoordBack.bits9 (fun HT_ HW_ => ?_)
    generalize wc.drew = w81 at BK723 BK724 BK731 BK737 HB hHeld ⊢
    refine tm 0 (some 63) HT_ HW_ hHeld ?_
    refine tm 1 (some 64) HT_ HW_ hHeld ?_
    refine tm 3 (some 66) HT_ HW_ hHeld ?_
    refine tm 4 (some 67) HT_ HW_ hHeld ?_
    refine on 2 (some 65) HT_ (fun K hK => ?_)
    refine goes_ Tryd.func41 (by kernel_rfl) rfl #[.agg #[.string a0_0, .string a0_1, .string a0_2], .agg #[.string a1_0, .string a1_1, .string a1_2]] (by rfl) rfl rfl mA ?_
    with_reducible refine (coord_Less.calls kj50 a0_0 a0_1 a0_2 a1_0 a1_1 a1_2 true _ (gS HG) A75.out).mono ?_
    rintro e w82 ⟨rfl, hb⟩
    refine ⟨_, rfl, ?_⟩
    replace BK723 := kB BK723 hb
    replace BK724 := kB BK724 hb
    replace BK731 := kB BK731 hb
    replace BK737 := kB BK737 hb
    replace HB := sB hb
    (try clear hb)
    refine hK.out _ _ ⟨(blk_cell BK723.out 0).trans rfl, (blk_cell BK723.out 1).trans rfl, (blk_cell BK723.out 2).trans rfl, (blk_cell BK724.out 0).trans rfl, (blk_cell BK724.out 1).trans rfl, (blk_cell BK724.out 2).trans rfl⟩ (fun hHeld => ?_)
    clear hK K
    refine nz (some 65) ?_
    refine on 5 (some 68) HT_ (fun K hK => ?_)
    refine goes_ Tryd.func41 (by kernel_rfl) rfl #[.agg #[.string a1_0, .string a1_1, .string a1_2], .agg #[.string a0_0, .string a0_1, .string a0_2]] (by rfl) rfl rfl mA ?_
    with_reducible refine (coord_Less.calls kj50 a1_0 a1_1 a1_2 a0_0 a0_1 a0_2 false _ (gS HG) A76.out).mono ?_
    rintro e w83 ⟨rfl, hb⟩
    refine ⟨_, rfl, ?_⟩
    replace BK723 := kB BK723 hb
    replace BK724 := kB BK724 hb
    replace BK731 := kB BK731 hb
    replace BK737 := kB BK737 hb
    replace HB := sB hb
    (try clear hb)
    refine hK.out _ _ ⟨(blk_cell BK723.out 0).trans rfl, (blk_cell BK723.out 1).trans rfl, (blk_cell BK723.out 2).trans rfl, (blk_cell BK724.out 0).trans rfl, (blk_cell BK724.out 1).trans rfl, (blk_cell BK724.out 2).trans rfl⟩ (fun hHeld => ?_)
    clear hK K
    refine nz (some 68) ?_
    refine pz 6 (some 11) HT_ ?_
    refine pz 7 (some 12) HT_ ?_
    refine done_ (done_of HT_.out (by kernel_rfl)) ?_
    try go_wp2_with (first | (refine gl (some 69) Tryd.func24 #[] ?_; (with_reducible refine (newellaw09_awake.calls kj50  true _ (gS HG) A77.out).mono ?_); rintro e w84 ⟨rfl, hb⟩; refine ⟨_, rfl, ?_⟩; replace BK723 := kB BK723 hb; replace BK724 := kB BK724 hb; replace BK731 := kB BK731 hb; replace BK737 := kB BK737 hb; replace HB := sB hb; (try clear hb); have hnb85 := NB723_724.out; have hnc85 := NB724_723.out; have hnb86 := NB723_731.out; have hnc86 := NB731_723.out; have hnb87 := NB723_737.out; have hnc87 := NB737_723.out; have hcz88_0 : w84.cell? ⟨gb723, 0, none⟩ = some (.string a0_0) := (blk_cell BK723.out 0).trans rfl; have hcz88_1 : w84.cell? ⟨gb723, 1, none⟩ = some (.string a0_1) := (blk_cell BK723.out 1).trans rfl; have hcz88_2 : w84.cell? ⟨gb723, 2, none⟩ = some (.string a0_2) := (blk_cell BK723.out 2).trans rfl; have hfz88_0 := blk_frozen BK723.out 0; have hfz88_1 := blk_frozen BK723.out 1; have hfz88_2 := blk_frozen BK723.out 2; have hnb89 := NB724_731.out; have hnc89 := NB731_724.out; have hnb90 := NB724_737.out; have hnc90 := NB737_724.out; have hcz91_0 : w84.cell? ⟨gb724, 0, none⟩ = some (.string a1_0) := (blk_cell BK724.out 0).trans rfl; have hcz91_1 : w84.cell? ⟨gb724, 1, none⟩ = some (.string a1_1) := (blk_cell BK724.out 1).trans rfl; have hcz91_2 : w84.cell? ⟨gb724, 2, none⟩ = some (.string a1_2) := (blk_cell BK724.out 2).trans rfl; have hfz91_0 := blk_frozen BK724.out 0; have hfz91_1 := blk_frozen BK724.out 1; have hfz91_2 := blk_frozen BK724.out 2))
    go_ret
    exact ⟨eA, bG⟩
end
end Go.Proofs.YtgdjfcmmpjcaaaaDoor.Q
namespace Go.Proofs.YtgdjfcmmpjcaaaaDoor.Q
open Go.RowKit Go.Proofs.YtgdjfcmmpjcaaaaDoorW.PrintWords Go.Proofs.YtgdjfcmmpjcaaaaDoorW.PrintLast Go.Proofs.YtgdjfcmmpjcaaaaDoorW.Own Go.Proofs.YtgdjfcmmpjcaaaaDoorW.PrintMore
set_option linter.unusedVariables false
set_option linter.unusedSimpArgs false
namespace Rd
open Go Go.RowKit
def Opens {α : Type} (t : TypeId) (d : Kd α) (wf : α → Prop) (bulk : α → Nat) : Prop :=
  Tryd.prog.cellsOf t = d.sz ∧ ∀ (H : Type) (enc : TypeId × Value → H) (W : World) (fuel : Nat) (cs : List Value) (dd : DataW H) (ps : List MemPlace),
    DataW.trod enc Tryd.prog W 0 (fun _ => true) true fuel t cs = some (dd, ps) → ∃ x, d.K W x cs ∧ wf x ∧ bulk x ≤ Rows.uptoBulk dd
theorem opens_string {t : TypeId} (hu : Tryd.prog.underlying t = some .string) (hc : Tryd.prog.cellsOf t = 1) : Opens t Kd.string (fun s => s.size ≤ maxLen) (fun s => s.size + 1) := by
  refine ⟨hc, fun H enc W fuel cs dd ps h => ?_⟩
  obtain ⟨s, rfl, hx, hw⟩ := DataW.trod_string hu h
  obtain ⟨rfl, rfl⟩ := Prod.mk.inj hx
  refine ⟨s, rfl, hw, ?_⟩
  have e : s.data.toList.length = s.size := by rw [Array.length_toList]; rfl
  simp only [Rows.uptoBulk]
  omega
def OpensF {β : Type} (fs : List Field) (off : Nat) (d : Kd β) (wf : β → Prop) (bulk : β → Nat) : Prop :=
  ∀ (H : Type) (enc : TypeId × Value → H) (W : World) (n : Nat) (cs : List Value) (xs : List (DataW H × List MemPlace)), xs.length = fs.length →
    (∀ (i : Nat) (f : Field), fs[i]? = some f → DataW.trod enc Tryd.prog W 0 (fun _ => true) true n f.type ((cs.drop f.offset).take (Tryd.prog.cellsOf f.type)) = xs[i]?) → cs.length = off + d.sz →
    ∃ x, d.K W x (cs.drop off) ∧ wf x ∧ bulk x ≤ Rows.uptoBulkAll (xs.map (·.1))
theorem OpensF.single {α : Type} {f : Field} {off : Nat} {d : Kd α} {wf : α → Prop} {bulk : α → Nat} (ho : f.offset = off) (h : Opens f.type d wf bulk) : OpensF [f] off d wf bulk := by
  intro H enc W n cs xs hl ht hc
  obtain ⟨hsz, hop⟩ := h
  obtain ⟨x0, rfl⟩ : ∃ x0, xs = [x0] := by
    match xs, hl with
    | [x0], _ => exact ⟨x0, rfl⟩
  have h0 := ht 0 f rfl
  rw [ho, hsz, List.take_of_length_le (by rw [List.length_drop]; omega)] at h0
  obtain ⟨x, hk, hw, hb⟩ := hop H enc W n _ _ _ h0
  exact ⟨x, hk, hw, by simpa [Rows.uptoBulkAll] using hb⟩
theorem OpensF.cons {α β : Type} {f : Field} {fs : List Field} {off off' : Nat} {a : Kd α} {b : Kd β} {wf : α → Prop} {bulk : α → Nat} {wf' : β → Prop} {bulk' : β → Nat} (ho : f.offset = off) (ho' : off' = off + a.sz) (h : Opens f.type a wf bulk) (hr : OpensF fs off' b wf' bulk') :
    OpensF (f :: fs) off (Kd.pair a b) (fun x => wf x.1 ∧ wf' x.2) (fun x => bulk x.1 + bulk' x.2) := by
  intro H enc W n cs xs hl ht hc
  subst ho'
  obtain ⟨hsz, hop⟩ := h
  obtain ⟨x0, xs', rfl⟩ : ∃ x0 xs', xs = x0 :: xs' := by
    match xs, hl with
    | x0 :: xs', _ => exact ⟨x0, xs', rfl⟩
  have h0 := ht 0 f rfl
  rw [ho, hsz] at h0
  obtain ⟨x, hk, hw, hb⟩ := hop H enc W n _ _ _ h0
  have hc' : cs.length = off + a.sz + b.sz := by
    have e : (Kd.pair a b).sz = a.sz + b.sz := rfl
    rw [e] at hc
    omega
  obtain ⟨y, hk', hw', hb'⟩ := hr H enc W n cs xs' (by simpa using hl) (fun i g hg => by have := ht (i + 1) g (by simpa using hg); simpa using this) hc'
  refine ⟨(x, y), ⟨(cs.drop off).take a.sz, cs.drop (off + a.sz), ?_, hk, hk'⟩, ⟨hw, hw'⟩, ?_⟩
  · rw [← List.drop_drop, List.take_append_drop]
  · simp only [List.map_cons, Rows.uptoBulkAll]
    omega
theorem opens_struct {α β : Type} {t : TypeId} {fs : Array Field} {d : Kd β} {wf : β → Prop} {bulk : β → Nat} (hu : Tryd.prog.underlying t = some (.struct fs)) (h : OpensF fs.toList 0 d wf bulk) (hc : Tryd.prog.cellsOf t = d.sz) (f : α → β) (g : β → α) (hg : ∀ x, f (g x) = x) :
    Opens t (Kd.iso d f) (fun x => wf (f x)) (fun x => bulk (f x) + 1) := by
  refine ⟨hc, fun H enc W fuel cs dd ps hh => ?_⟩
  obtain ⟨xs, n, rfl, hx, hcl, hlen, ht⟩ := DataW.trod_struct hu hh
  obtain ⟨rfl, rfl⟩ := Prod.mk.inj hx
  obtain ⟨x, hk, hw, hb⟩ := h H enc W n cs xs (by simpa using hlen) (fun i f hf => ht i f (by simpa using hf)) (by omega)
  refine ⟨g x, ?_, ?_, ?_⟩
  · show d.K W (f (g x)) cs
    rw [hg]
    exact hk
  · show wf (f (g x))
    rw [hg]
    exact hw
  · show bulk (f (g x)) + 1 ≤ _
    rw [hg]
    simp only [Rows.uptoBulk]
    omega
theorem glob {W : World} (h : W.ShapedOpen Tryd.prog) : Glob W :=
  cell_of_shapedOpen_int (g := 0) (t := 3) (zero := #[.int .i64 0]) (k := .i64) h (of_decide_eq_true (by kernel_rfl)) (by kernel_rfl) rfl (by kernel_rfl) (by kernel_rfl) Tryd.underlying3
end Rd
end Go.Proofs.YtgdjfcmmpjcaaaaDoor.Q
namespace Go.Proofs.YtgdjfcmmpjcaaaaDoor.Q
open Go.RowKit Go.Proofs.YtgdjfcmmpjcaaaaDoorW.PrintWords Go.Proofs.YtgdjfcmmpjcaaaaDoorW.PrintLast Go.Proofs.YtgdjfcmmpjcaaaaDoorW.Own Go.Proofs.YtgdjfcmmpjcaaaaDoorW.PrintMore
set_option linter.unusedVariables false
set_option linter.unusedSimpArgs false
theorem opensP32 : Rd.Opens 32 (Kd.iso (Kd.pair Kd.string (Kd.pair Kd.string Kd.string)) (fun x => x)) (fun x => (x.1.size ≤ maxLen ∧ (x.2.1.size ≤ maxLen ∧ x.2.2.size ≤ maxLen))) (fun x => ((x.1.size + 1) + ((x.2.1.size + 1) + (x.2.2.size + 1))) + 1) :=
  Rd.opens_struct (t := 32) Tryd.underlying32 (show Rd.OpensF _ 0 _ _ _ from (Rd.OpensF.cons (off' := 1) rfl (by kernel_rfl) (Rd.opens_string Tryd.underlying9 (by kernel_rfl)) (Rd.OpensF.cons (off' := 2) rfl (by kernel_rfl) (Rd.opens_string Tryd.underlying9 (by kernel_rfl)) (Rd.OpensF.single rfl (Rd.opens_string Tryd.underlying9 (by kernel_rfl)))))) (by kernel_rfl) (fun x => x) (fun x => x) (fun _ => rfl)
def newellaw09_CoordBack.PureUpto : Prop := ∀ (a0_0 : ByteArray) (a0_1 : ByteArray) (a0_2 : ByteArray) (a1_0 : ByteArray) (a1_1 : ByteArray) (a1_2 : ByteArray) (a2 : ByteArray), (a0_0.size ≤ maxLen) → (a0_1.size ≤ maxLen) → (a0_2.size ≤ maxLen) → (a1_0.size ≤ maxLen) → (a1_1.size ≤ maxLen) → (a1_2.size ≤ maxLen) → (a2.size ≤ 140737488351232) → ((((a0_0.size + 1) + ((a0_1.size + 1) + (a0_2.size + 1))) + 1) + (((a1_0.size + 1) + ((a1_1.size + 1) + (a1_2.size + 1))) + 1) + (a2.size + 1) ≤ 1048576) → ∃ k, newellaw09_CoordBack.f k a0_0 a0_1 a0_2 a1_0 a1_1 a1_2 a2 = some true
end Go.Proofs.YtgdjfcmmpjcaaaaDoor.Q
namespace Go.Proofs.YtgdjfcmmpjcaaaaDoor.Q
open Go.RowKit Go.Proofs.YtgdjfcmmpjcaaaaDoorW.PrintWords Go.Proofs.YtgdjfcmmpjcaaaaDoorW.PrintLast Go.Proofs.YtgdjfcmmpjcaaaaDoorW.Own Go.Proofs.YtgdjfcmmpjcaaaaDoorW.PrintMore
attribute [local go_sem] max2_int min2_int max_two min_two max_three min_three max_four min_four   -- for this text's walks alone
set_option linter.unusedVariables false
set_option linter.unusedSimpArgs false
def strings_IndexAny.f (a0 a1 : ByteArray) : Option Int := if a0.size < 4294967281 ∧ 2 ≤ a1.size ∧ a1.size < 4294967281 ∧ (a1.data.toList.all fun b => decide (b.toNat < 128)) = true then some (Lib.indexAny a0.data.toList a1.data.toList) else none
end Go.Proofs.YtgdjfcmmpjcaaaaDoor.Q
namespace Go.Proofs.YtgdjfcmmpjcaaaaDoor.Q
open Go.RowKit Go.Proofs.YtgdjfcmmpjcaaaaDoorW.PrintWords Go.Proofs.YtgdjfcmmpjcaaaaDoorW.PrintLast Go.Proofs.YtgdjfcmmpjcaaaaDoorW.Own Go.Proofs.YtgdjfcmmpjcaaaaDoorW.PrintMore
attribute [local go_sem] max2_int min2_int max_two min_two max_three min_three max_four min_four   -- for this text's walks alone
set_option linter.unusedVariables false
set_option linter.unusedSimpArgs false
set_option maxHeartbeats 8000000
set_option maxRecDepth 100000
def strings_Cut.f (a0 a1 : ByteArray) : Option (ByteArray × ByteArray × Bool) := if a0.size < 4294967281 then some (⟨(Lib.cut a0.data.toList a1.data.toList).1.toArray⟩, ⟨(Lib.cut a0.data.toList a1.data.toList).2.1.toArray⟩, (Lib.cut a0.data.toList a1.data.toList).2.2) else none
def strings_Trim.f (a0 a1 : ByteArray) : Option ByteArray := if a1.size = 1 ∧ (a1.data.toList.getD 0 0).toNat < 128 ∧ a0.size ≤ 9223372036854775807 then some ⟨(Lib.trimB a0.data.toList (a1.data.toList.getD 0 0)).toArray⟩ else none
def span_bound.f (k : Nat) (a0 : ByteArray) (a1 : Bool) : Option (Bool) := (words_Right.f k a0).bind fun t311 => (if t311 = true then (some true) else (if a0.toList = ([] : List UInt8) then (some (!a1)) else (some false)))
theorem span_bound.mono : ∀ a0 a1 k, LeO (span_bound.f k a0 a1) (span_bound.f (k + 1) a0 a1) := by
 intro a0 a1 k
 unfold span_bound.f
 have m0 := @words_Right.mono
 exact mo
def span_may.j0 : Nat → Bool → ByteArray → ByteArray → Bool → Bool → Option (Bool)
 | 0, _, _, _, _, _ => none
 | k + 1, x17, x342000, x342001, x342002, x342003 => if x17 = true then (some false) else (if x342000.toList = ([] : List UInt8) then (some true) else (if x342001.toList = ([] : List UInt8) then (some true) else ((order_Compare.f k x342000 x342001).bind fun t344 => (if t344 < 0 then (some true) else (if t344 = 0 then (if x342002 = true then (some x342003) else (some false)) else (some false))))))
def span_may.f (k : Nat) (a0_0 : ByteArray) (a0_1 : ByteArray) (a0_2 : Bool) (a0_3 : Bool) : Option (Bool) := (span_bound.f k a0_0 a0_2).bind fun t342 => (if t342 = true then ((span_bound.f k a0_1 a0_3).bind fun t343 => (span_may.j0 k (!t343) a0_0 a0_1 a0_2 a0_3)) else (span_may.j0 k true a0_0 a0_1 a0_2 a0_3))
theorem span_may.mono_l : ∀ k, (∀ y0 y1 y2 y3 y4, LeO (span_may.j0 k y0 y1 y2 y3 y4) (span_may.j0 (k + 1) y0 y1 y2 y3 y4))
 | 0 => fun _ _ _ _ _ r h => by simp [span_may.j0] at h
 | k + 1 => by
  have ih0 := span_may.mono_l k
  ·intro y0 y1 y2 y3 y4
   unfold span_may.j0
   have m0 := @order_Compare.mono
   have m1 := @span_bound.mono
   exact mo
theorem span_may.mono : ∀ a0 a1 a2 a3 k, LeO (span_may.f k a0 a1 a2 a3) (span_may.f (k + 1) a0 a1 a2 a3) := by
 intro a0 a1 a2 a3 k
 have ih0 := span_may.mono_l k
 unfold span_may.f
 have m0 := @order_Compare.mono
 have m1 := @span_bound.mono
 exact mo
def stringslite_HasPrefix.f (a0 : ByteArray) (a1 : ByteArray) : Option (Bool) := if (a0.size : Int) ≥ (a1.size : Int) then (if 0 ≤ (a1.size : Int) then (if (a1.size : Int) ≤ (a0.size : Int) then (some ((a0.extract 0 ((a1.size : Int) : Int).toNat).toList == a1.toList)) else (none)) else (none)) else (some false)
def strings_HasPrefix.f (a0 : ByteArray) (a1 : ByteArray) : Option (Bool) := (stringslite_HasPrefix.f a0 a1).bind fun t308 => (some t308)
def span_Is.f (a0 : ByteArray) : Option (Bool) := (strings_HasPrefix.f a0 (⟨#[91]⟩ : ByteArray)).bind fun t309 => (if t309 = true then (some true) else ((strings_HasPrefix.f a0 (⟨#[40]⟩ : ByteArray)).bind fun t310 => (some t310)))
def span_one.j0 : Nat → ByteArray → Int → ByteArray → ByteArray → Bool → ByteArray → ByteArray → Bool → Bool → Option (ByteArray × ByteArray × Bool × Bool × ByteArray × Bool)
 | 0, _, _, _, _, _, _, _, _, _ => none
 | k + 1, x0, x5, x7, x8, x9, x349000, x349001, x349002, x349003 => (strings_Trim.f x7 (⟨#[32]⟩ : ByteArray)).bind fun t352 => ((strings_Trim.f x8 (⟨#[32]⟩ : ByteArray)).bind fun t353 => (if x9 = true then (if 0 ≤ (wrap64 (x5 + 1)) then (if (wrap64 (x5 + 1)) ≤ (x0.size : Int) then ((span_may.f k t352 t353 x349002 x349003).bind fun t354 => (some (t352, t353, x349002, x349003, x0.extract ((wrap64 (x5 + 1)) : Int).toNat x0.size, t354))) else (none)) else (none)) else (if x349002 = true then (if x349003 = true then (if 0 ≤ (wrap64 (x5 + 1)) then (if (wrap64 (x5 + 1)) ≤ (x0.size : Int) then ((span_may.f k t352 t353 x349002 x349003).bind fun t355 => (some (t352, t353, x349002, x349003, x0.extract ((wrap64 (x5 + 1)) : Int).toNat x0.size, t355))) else (none)) else (none)) else (some ((⟨#[]⟩ : ByteArray), (⟨#[]⟩ : ByteArray), false, false, (⟨#[]⟩ : ByteArray), false))) else (some ((⟨#[]⟩ : ByteArray), (⟨#[]⟩ : ByteArray), false, false, (⟨#[]⟩ : ByteArray), false)))))
def span_one.f (k : Nat) (a0 : ByteArray) : Option (ByteArray × ByteArray × Bool × Bool × ByteArray × Bool) := (span_Is.f a0).bind fun t346 => (if t346 = true then ((strings_IndexAny.f a0 (⟨#[93, 41]⟩ : ByteArray)).bind fun t347 => (if t347 < 0 then (some ((⟨#[]⟩ : ByteArray), (⟨#[]⟩ : ByteArray), false, false, (⟨#[]⟩ : ByteArray), false)) else (if 0 < (a0.size : Int) then (if 0 ≤ t347 then (if t347 < (a0.size : Int) then (if 1 ≤ t347 then (if t347 ≤ (a0.size : Int) then ((strings_Cut.f (a0.extract 1 (t347 : Int).toNat) (⟨#[44]⟩ : ByteArray)).bind fun bt349 => (if bt349.2.2 = true then (span_one.j0 k a0 t347 bt349.1 bt349.2.1 bt349.2.2 (⟨#[]⟩ : ByteArray) (⟨#[]⟩ : ByteArray) ((bt a0 0) == 91) ((bt a0 t347) == 93)) else (span_one.j0 k a0 t347 bt349.1 bt349.1 bt349.2.2 (⟨#[]⟩ : ByteArray) (⟨#[]⟩ : ByteArray) ((bt a0 0) == 91) ((bt a0 t347) == 93)))) else (none)) else (none)) else (none)) else (none)) else (none)))) else (some ((⟨#[]⟩ : ByteArray), (⟨#[]⟩ : ByteArray), false, false, (⟨#[]⟩ : ByteArray), false)))
theorem span_one.mono_l : ∀ k, (∀ y0 y1 y2 y3 y4 y5 y6 y7 y8, LeO (span_one.j0 k y0 y1 y2 y3 y4 y5 y6 y7 y8) (span_one.j0 (k + 1) y0 y1 y2 y3 y4 y5 y6 y7 y8))
 | 0 => fun _ _ _ _ _ _ _ _ _ r h => by simp [span_one.j0] at h
 | k + 1 => by
  have ih0 := span_one.mono_l k
  ·intro y0 y1 y2 y3 y4 y5 y6 y7 y8
   unfold span_one.j0
   have m0 := @span_may.mono
   exact mo
theorem span_one.mono : ∀ a0 k, LeO (span_one.f k a0) (span_one.f (k + 1) a0) := by
 intro a0 k
 have ih0 := span_one.mono_l k
 unfold span_one.f
 have m0 := @span_may.mono
 exact mo
def span_behind.f (k : Nat) (a0_0 : ByteArray) (a0_1 : ByteArray) (a0_2 : Bool) (a0_3 : Bool) (a1_0 : ByteArray) (a1_1 : ByteArray) (a1_2 : Bool) (a1_3 : Bool) : Option (Bool) := if a0_1.toList = ([] : List UInt8) then (some false) else (if a1_0.toList = ([] : List UInt8) then (some false) else ((order_Compare.f k a0_1 a1_0).bind fun t358 => (if t358 < 0 then (some true) else (if t358 = 0 then (if a0_3 = true then (some (!a1_2)) else (some (!false))) else (some false)))))
theorem span_behind.mono : ∀ a0 a1 a2 a3 a4 a5 a6 a7 k, LeO (span_behind.f k a0 a1 a2 a3 a4 a5 a6 a7) (span_behind.f (k + 1) a0 a1 a2 a3 a4 a5 a6 a7) := by
 intro a0 a1 a2 a3 a4 a5 a6 a7 k
 unfold span_behind.f
 have m0 := @order_Compare.mono
 exact mo
def stringslite_CutPrefix.f (a0 : ByteArray) (a1 : ByteArray) : Option (ByteArray × Bool) := (stringslite_HasPrefix.f a0 a1).bind fun t359 => (if t359 = true then (if 0 ≤ (a1.size : Int) then (if (a1.size : Int) ≤ (a0.size : Int) then (some (a0.extract ((a1.size : Int) : Int).toNat a0.size, true)) else (none)) else (none)) else (some (a0, false)))
def strings_CutPrefix.f (a0 : ByteArray) (a1 : ByteArray) : Option (ByteArray × Bool) := (stringslite_CutPrefix.f a0 a1).bind fun bt360 => (some (bt360.1, bt360.2))
mutual
def span_Parse.l0 : Nat → ByteArray → List (S58) → Option ((List (S58)) × Int)
 | 0, _, _ => none
 | k + 1, x0, x4 => (span_one.f k x0).bind fun bt362 => (if bt362.2.2.2.2.2 = true then (if (x4.length : Int) ≥ 20 then (span_Parse.j1 k x4 bt362.2.2.2.2.1 true bt362.1 bt362.2.1 bt362.2.2.1 bt362.2.2.2.1) else (if (x4.length : Int) > 0 then (if 0 ≤ (wrap64 ((x4.length : Int) - 1)) then (if (wrap64 ((x4.length : Int) - 1)) < (x4.length : Int) then ((span_behind.f k ((rd_T58 x4 (wrap64 ((x4.length : Int) - 1))).f0) ((rd_T58 x4 (wrap64 ((x4.length : Int) - 1))).f1) ((rd_T58 x4 (wrap64 ((x4.length : Int) - 1))).f2) ((rd_T58 x4 (wrap64 ((x4.length : Int) - 1))).f3) bt362.1 bt362.2.1 bt362.2.2.1 bt362.2.2.2.1).bind fun t370 => (span_Parse.j1 k x4 bt362.2.2.2.2.1 (!t370) bt362.1 bt362.2.1 bt362.2.2.1 bt362.2.2.2.1)) else (none)) else (none)) else (span_Parse.j1 k x4 bt362.2.2.2.2.1 false bt362.1 bt362.2.1 bt362.2.2.1 bt362.2.2.2.1))) else (span_Parse.j1 k x4 bt362.2.2.2.2.1 true bt362.1 bt362.2.1 bt362.2.2.1 bt362.2.2.2.1))
def span_Parse.j1 : Nat → List (S58) → ByteArray → Bool → ByteArray → ByteArray → Bool → Bool → Option ((List (S58)) × Int)
 | 0, _, _, _, _, _, _, _ => none
 | k + 1, x4, x6, x38, x369000, x369001, x369002, x369003 => if x38 = true then (some (([] : List (S58)), 12)) else (if x4.length < 3518437208883 then ((some (x4 ++ [(⟨x369000, x369001, x369002, x369003⟩ : S58)] : List (S58))).bind fun y371 => (if x6.toList = ([] : List UInt8) then (some (y371, 0)) else ((strings_CutPrefix.f x6 (⟨#[44]⟩ : ByteArray)).bind fun bt374 => (if bt374.2 = true then (span_Parse.l0 k bt374.1 y371) else (some (([] : List (S58)), 12)))))) else (none))
end
theorem span_Parse.mono_l : ∀ k, (∀ y0 y1, LeO (span_Parse.l0 k y0 y1) (span_Parse.l0 (k + 1) y0 y1)) ∧ (∀ y0 y1 y2 y3 y4 y5 y6, LeO (span_Parse.j1 k y0 y1 y2 y3 y4 y5 y6) (span_Parse.j1 (k + 1) y0 y1 y2 y3 y4 y5 y6))
 | 0 => ⟨fun _ _ r h => by simp [span_Parse.l0] at h, fun _ _ _ _ _ _ _ r h => by simp [span_Parse.j1] at h⟩
 | k + 1 => by
  obtain ⟨ih0, ih1⟩ := span_Parse.mono_l k
  refine ⟨?_, ?_⟩
  ·intro y0 y1
   unfold span_Parse.l0
   have m0 := @span_behind.mono
   have m1 := @span_one.mono
   exact mo
  ·intro y0 y1 y2 y3 y4 y5 y6
   unfold span_Parse.j1
   have m0 := @span_behind.mono
   have m1 := @span_one.mono
   exact mo
def span_Parse.T3 : Bool × List (List Nat × List Nat) := (true, [([], []), ([0], [0]), ([1], [1]), ([2], [2]), ([3, 2], [2, 3]), ([4, 2], [2, 4]), ([2, 5], [2, 5]), ([6, 2], [6]), ([7], [7]), ([8, 7], [7, 8]), ([9, 7], [7, 9]), ([10, 7, 7], [7, 10]), ([11], [11]), ([11], [11]), ([13, 11], [11, 13]), ([14, 11], [11, 14]), ([12, 15, 11], [11, 12, 15]), ([16, 11], [11, 16]), ([11], [11]), ([17, 18, 11, 11], [11, 17, 18]), ([19, 11], [11, 19]), ([11, 20, 7], [7, 11, 20]), ([7, 21], [7, 21])])
def span_Parse.B3 : List Nat := [0, 1, 3, 7, 15, 31, 63, 127, 255, 511, 1023, 2047, 4095, 4095, 12287, 28671, 65535, 131071, 4095, 524287, 1048575, 2097151, 4194303]
theorem span_Parse.tab3 : rtab .any (opsOf Tryd.f56 3) = span_Parse.T3 := by kernel_rfl
theorem span_Parse.bits3 : waitsOk span_Parse.T3.2 span_Parse.B3 = true := by kernel_rfl
def span_holds.j0 : Nat → ByteArray → ByteArray → ByteArray → Bool → Bool → Option (Bool)
 | 0, _, _, _, _, _ => none
 | k + 1, x1, x377000, x377001, x377002, x377003 => if x377001.toList = ([] : List UInt8) then (some true) else ((order_Compare.f k x1 x377001).bind fun t378 => (if t378 > 0 then (some false) else (if t378 = 0 then (if x377003 = true then (some true) else (some false)) else (some true))))
def span_holds.f (k : Nat) (a0_0 : ByteArray) (a0_1 : ByteArray) (a0_2 : Bool) (a0_3 : Bool) (a1 : ByteArray) : Option (Bool) := if a0_0.toList = ([] : List UInt8) then (span_holds.j0 k a1 a0_0 a0_1 a0_2 a0_3) else ((order_Compare.f k a1 a0_0).bind fun t377 => (if t377 < 0 then (some false) else (if t377 = 0 then (if a0_2 = true then (span_holds.j0 k a1 a0_0 a0_1 a0_2 a0_3) else (some false)) else (span_holds.j0 k a1 a0_0 a0_1 a0_2 a0_3))))
theorem span_holds.mono_l : ∀ k, (∀ y0 y1 y2 y3 y4, LeO (span_holds.j0 k y0 y1 y2 y3 y4) (span_holds.j0 (k + 1) y0 y1 y2 y3 y4))
 | 0 => fun _ _ _ _ _ r h => by simp [span_holds.j0] at h
 | k + 1 => by
  have ih0 := span_holds.mono_l k
  ·intro y0 y1 y2 y3 y4
   unfold span_holds.j0
   have m0 := @order_Compare.mono
   exact mo
theorem span_holds.mono : ∀ a0 a1 a2 a3 a4 k, LeO (span_holds.f k a0 a1 a2 a3 a4) (span_holds.f (k + 1) a0 a1 a2 a3 a4) := by
 intro a0 a1 a2 a3 a4 k
 have ih0 := span_holds.mono_l k
 unfold span_holds.f
 have m0 := @order_Compare.mono
 exact mo
end Go.Proofs.YtgdjfcmmpjcaaaaDoor.Q
namespace Go.Proofs.YtgdjfcmmpjcaaaaDoor.Q
open Go.RowKit Go.Proofs.YtgdjfcmmpjcaaaaDoorW.PrintWords Go.Proofs.YtgdjfcmmpjcaaaaDoorW.PrintLast Go.Proofs.YtgdjfcmmpjcaaaaDoorW.Own Go.Proofs.YtgdjfcmmpjcaaaaDoorW.PrintMore
attribute [local go_sem] max2_int min2_int max_two min_two max_three min_three max_four min_four   -- for this text's walks alone
set_option linter.unusedVariables false
set_option linter.unusedSimpArgs false
def span_Holds.one (k : Nat) (v : ByteArray) (s : S58) : Option Bool := span_holds.f k s.f0 s.f1 s.f2 s.f3 v
def span_Holds.l0 : Nat → List S58 → ByteArray → Int → Option Int
 | 0, _, _, _ => none
 | k + 1, l, v, i => if i < (l.length : Int) then (if 0 ≤ i then ((span_Holds.one k v (rd_T58 l i)).bind fun b => if b = true then some i else span_Holds.l0 k l v (wrap64 (i + 1))) else none) else some (-1)
theorem span_Holds.mono_l : ∀ k, (∀ y0 y1 y2, LeO (span_Holds.l0 k y0 y1 y2) (span_Holds.l0 (k + 1) y0 y1 y2))
 | 0 => fun _ _ _ r h => by simp [span_Holds.l0] at h
 | k + 1 => by
  have ih0 := span_Holds.mono_l k
  ·intro y0 y1 y2
   unfold span_Holds.l0
   unfold span_Holds.one
   repeat' first
   | (with_reducible exact ih0 _ _ _)
   | (with_reducible exact span_holds.mono _ _ _ _ _ _)
   | (with_reducible exact LeO.refl _)
   | (with_reducible exact LeO.none _)
   | (with_reducible refine LeO.ite ?_ ?_)
   | (with_reducible refine LeO.bind ?_ (fun _ => ?_))
end Go.Proofs.YtgdjfcmmpjcaaaaDoor.Q
namespace Go.Proofs.YtgdjfcmmpjcaaaaDoorW.Px
open Go
theorem ba_ext {a b : ByteArray} (h : a.data.toList = b.data.toList) : a = b := by
  cases a; cases b; simp at h; subst h; rfl
theorem ba_size (a : ByteArray) : a.size = a.data.toList.length := Array.length_toList.symm
theorem ba_append (a b : ByteArray) : (a ++ b).data.toList = a.data.toList ++ b.data.toList := by simp [ByteArray.data_append]
theorem ba_toList (a : ByteArray) : a.toList = a.data.toList := Lib.toList_data a
theorem ba_extract (a : ByteArray) (i j : Nat) : (a.extract i j).data.toList = (a.data.toList.take j).drop i := by
  simp [ByteArray.data_extract, List.extract_eq_take_drop, List.drop_take]
end Go.Proofs.YtgdjfcmmpjcaaaaDoorW.Px
namespace Go.Proofs.YtgdjfcmmpjcaaaaDoor.Pure
open Go Go.RowKit Go.Proofs.YtgdjfcmmpjcaaaaDoor.Q Go.Proofs.YtgdjfcmmpjcaaaaDoorW.PrintWords Go.Proofs.YtgdjfcmmpjcaaaaDoorW.PrintLast Go.Proofs.YtgdjfcmmpjcaaaaDoorW.Own Go.Proofs.YtgdjfcmmpjcaaaaDoorW.PrintMore Go.Proofs.YtgdjfcmmpjcaaaaDoorW.Px
set_option linter.unusedSimpArgs false
set_option linter.unusedVariables false
def sign (n : Int) : Bool := decide (33 ≤ n) && decide (n ≤ 126) && n != 91 && n != 93 && n != 40 && n != 41 && n != 44
def sign8 (c : UInt8) : Bool := sign (c.toNat : Int)
theorem bad_all : (List.range 256).all (fun n => words_Right_1.f (n : Int) == some (!sign (n : Int))) = true := by kernel_rfl
theorem bad_told (n : Int) (h0 : 0 ≤ n) (h1 : n < 256) : words_Right_1.f n = some (!sign n) := by
  have := List.all_eq_true.1 bad_all n.toNat (by simp; omega)
  rw [Int.toNat_of_nonneg h0] at this
  exact beq_iff_eq.1 this
theorem find_loop (s : ByteArray) (hs : s.size ≤ 1000000) : ∀ (d i k : Nat), i + d = s.size → slices_IndexFunc_byte_byte.l0 (k + d + 1) (bytesOf s) (s.size : Int) (i : Int) = some (if (s.data.toList.drop i).all sign8 then -1 else ((i + ((s.data.toList.drop i).takeWhile sign8).length : Nat) : Int)) := by
  intro d
  induction d with
  | zero =>
    intro i k h
    rw [slices_IndexFunc_byte_byte.l0, if_neg (by omega), show s.data.toList.drop i = [] from List.drop_eq_nil_of_le (by rw [← ba_size]; omega)]
    rfl
  | succ d ih =>
    intro i k h
    have hw : wrap64 ((i : Int) + 1) = ((i + 1 : Nat) : Int) := by unfold wrap64; omega
    have hl : i < s.data.toList.length := by rw [← ba_size]; omega
    have hr : rd (bytesOf s) (i : Int) = (((s.data.toList[i]'hl).toNat : Nat) : Int) := by
      unfold rd bytesOf
      simp [List.getD_eq_getElem?_getD, List.getElem?_map, List.getElem?_eq_getElem hl]
    have hc := (s.data.toList[i]'hl).toNat_lt
    have p0 : (i : Int) < (s.size : Int) := by omega
    have p1 : (0 : Int) ≤ (i : Int) := by omega
    have p2 : (i : Int) < ((bytesOf s).length : Int) := by rw [bytesOf_length]; omega
    rw [show k + (d + 1) + 1 = (k + d + 1) + 1 from by omega, slices_IndexFunc_byte_byte.l0, if_pos p0, if_pos p1, if_pos p2, hr, bad_told _ (by omega) (by omega), Option.bind_some, List.drop_eq_getElem_cons hl]
    by_cases c : sign8 (s.data.toList[i]'hl) = true
    · rw [if_neg (by unfold sign8 at c; rw [c]; decide), hw, ih _ _ (by omega), List.all_cons, c, Bool.true_and, List.takeWhile_cons, if_pos c, List.length_cons]
      congr 1
      by_cases e : (s.data.toList.drop (i + 1)).all sign8 = true
      · rw [if_pos e, if_pos e]
      · rw [if_neg e, if_neg e]; omega
    · have cf : sign8 (s.data.toList[i]'hl) = false := by simpa using c
      rw [if_pos (by unfold sign8 at cf; rw [cf]; rfl), List.all_cons, cf, Bool.false_and, List.takeWhile_cons, if_neg c]
      simp
def rightB (l : List UInt8) : Bool := decide (1 ≤ l.length) && decide (l.length ≤ 100) && l.all sign8
theorem right_told (s : ByteArray) (k : Nat) (hk : 101 ≤ k) : words_Right.f k s = some (rightB s.data.toList) := by
  unfold words_Right.f rightB
  have hz := ba_size s
  by_cases h : 1 ≤ s.size ∧ s.size ≤ 100
  · rw [if_pos h, decide_eq_true (show 1 ≤ s.data.toList.length by omega), decide_eq_true (show s.data.toList.length ≤ 100 by omega)]
    unfold slices_ContainsFunc_byte_byte.f slices_IndexFunc_byte_byte.f
    have := find_loop s (by omega) s.size 0 (k - s.size - 1) (by omega)
    rw [show k - s.size - 1 + s.size + 1 = k from by omega, show ((0 : Nat) : Int) = 0 from rfl, List.drop_zero] at this
    rw [bytesOf_length, this, Option.bind_some, Option.bind_some]
    by_cases e : s.data.toList.all sign8 = true
    · rw [if_pos e, e]; rfl
    · rw [if_neg e, Bool.eq_false_iff.2 e, decide_eq_true (by omega)]; rfl
  · rw [if_neg h]
    by_cases a : 1 ≤ s.size
    · rw [decide_eq_false (show ¬ s.data.toList.length ≤ 100 by omega)]; simp
    · rw [decide_eq_false (show ¬ 1 ≤ s.data.toList.length by omega)]; simp
end Go.Proofs.YtgdjfcmmpjcaaaaDoor.Pure
namespace Go.Proofs.YtgdjfcmmpjcaaaaDoor.Q
open Go.RowKit Go.Proofs.YtgdjfcmmpjcaaaaDoorW.PrintWords Go.Proofs.YtgdjfcmmpjcaaaaDoorW.PrintLast Go.Proofs.YtgdjfcmmpjcaaaaDoorW.Own Go.Proofs.YtgdjfcmmpjcaaaaDoorW.PrintMore
attribute [local go_sem] max2_int min2_int max_two min_two max_three min_three max_four min_four   -- for this text's walks alone
set_option linter.unusedVariables false
set_option linter.unusedSimpArgs false
set_option maxHeartbeats 8000000
set_option maxRecDepth 100000
def newelhelp_Digits.f : Nat → Int → Option (ByteArray)
 | 0, _ => none
 | k + 1, a0 => if a0 < 10 then (some (strOfNums (([(wrap64 (48 + a0)) % 256] : List Int)))) else ((newelhelp_Digits.f k (wrap64 (Int.tdiv a0 10))).bind fun t104 => ((some (([(wrap64 (48 + (Int.tmod a0 10))) % 256] : List Int) : List Int)).bind fun y105 => (if t104.size + (strOfNums y105).size ≤ 9223372036854775807 then (some (t104 ++ (strOfNums y105))) else (none))))
theorem newelhelp_Digits.mono_l : ∀ k, (∀ y0, LeO (newelhelp_Digits.f k y0) (newelhelp_Digits.f (k + 1) y0))
 | 0 => fun _ r h => by simp [newelhelp_Digits.f] at h
 | k + 1 => by
  have ih0 := newelhelp_Digits.mono_l k
  ·intro y0
   unfold newelhelp_Digits.f
   exact mo
def newelhelp_Digits.T3 : Bool × List (List Nat × List Nat) := (true, [([], []), ([0], [0]), ([1], [1]), ([], []), ([3], [3]), ([4], [4]), ([5], [5]), ([6], [6]), ([7], [7]), ([2, 8], [2, 8]), ([9, 2, 0, 1, 2, 3, 4, 5, 6, 7, 8, 9], [9])])
def newelhelp_Digits.B3 : List Nat := [0, 1, 3, 0, 8, 24, 56, 120, 248, 511, 1023]
theorem newelhelp_Digits.tab3 : rtab .any (opsOf Tryd.f33 3) = newelhelp_Digits.T3 := by kernel_rfl
theorem newelhelp_Digits.bits3 : waitsOk newelhelp_Digits.T3.2 newelhelp_Digits.B3 = true := by kernel_rfl
end Go.Proofs.YtgdjfcmmpjcaaaaDoor.Q
namespace Go.Proofs.YtgdjfcmmpjcaaaaDoor.Q
open Go.RowKit Go.Proofs.YtgdjfcmmpjcaaaaDoorW.PrintWords Go.Proofs.YtgdjfcmmpjcaaaaDoorW.PrintLast Go.Proofs.YtgdjfcmmpjcaaaaDoorW.Own Go.Proofs.YtgdjfcmmpjcaaaaDoorW.PrintMore
attribute [local go_sem] max2_int min2_int max_two min_two max_three min_three max_four min_four   -- for this text's walks alone
set_option linter.unusedVariables false
set_option linter.unusedSimpArgs false
theorem eqA38 (d : Nat) (w : World) (x0 y0 : Int) (x1 y1 : ByteArray) :
    (Op.equalIn (d + 2) 38 (.agg #[.int .i64 x0, .string x1]) (.agg #[.int .i64 y0, .string y1])).run Tryd.prog w = .ok (x0 == y0 && (x1.toList == y1.toList)) w := by
  refine eqA_of Tryd.underlying38 (by kernel_rfl) ?_
  refine eqf_cons (by rfl) (by go_simp; rfl) (by go_simp; rfl) (by go_simp) ?_
  exact eqf_last (by rfl) (by go_simp; rfl) (by go_simp; rfl) (by go_simp)
end Go.Proofs.YtgdjfcmmpjcaaaaDoor.Q
namespace Go.Proofs.YtgdjfcmmpjcaaaaDoor.Q
open Go.RowKit Go.Proofs.YtgdjfcmmpjcaaaaDoorW.PrintWords Go.Proofs.YtgdjfcmmpjcaaaaDoorW.PrintLast Go.Proofs.YtgdjfcmmpjcaaaaDoorW.Own Go.Proofs.YtgdjfcmmpjcaaaaDoorW.PrintMore
attribute [local go_sem] max2_int min2_int max_two min_two max_three min_three max_four min_four   -- for this text's walks alone
set_option linter.unusedVariables false
set_option linter.unusedSimpArgs false
set_option maxHeartbeats 8000000
set_option maxRecDepth 100000
section
attribute [local go_sem high] eqA38
def api_Word_1.f (a0_0 : Int) (a0_1 : ByteArray) (a1_0 : Int) (a1_1 : ByteArray) : Option (Bool) := some (a0_0 == a1_0 && (a0_1.toList == a1_1.toList))
end
def api_Word_69.l0 : Nat → List (S38) → List (S38) → Int → Option (Bool)
 | 0, _, _, _ => none
 | k + 1, x0, x1, x7 => if x7 < (x0.length : Int) then (if 0 ≤ x7 then (if x7 < (x1.length : Int) then ((api_Word_1.f ((rd_T38 x0 x7).f0) ((rd_T38 x0 x7).f1) ((rd_T38 x1 x7).f0) ((rd_T38 x1 x7).f1)).bind fun t183 => (if t183 = true then (api_Word_69.l0 k x0 x1 (wrap64 (x7 + 1))) else (some false))) else (none)) else (none)) else (some true)
theorem api_Word_69.mono_l : ∀ k, (∀ y0 y1 y2, LeO (api_Word_69.l0 k y0 y1 y2) (api_Word_69.l0 (k + 1) y0 y1 y2))
 | 0 => fun _ _ _ r h => by simp [api_Word_69.l0] at h
 | k + 1 => by
  have ih0 := api_Word_69.mono_l k
  ·intro y0 y1 y2
   unfold api_Word_69.l0
   exact mo
end Go.Proofs.YtgdjfcmmpjcaaaaDoor.Q
namespace Go.Proofs.YtgdjfcmmpjcaaaaDoor.Pure
open Go Go.Proofs.YtgdjfcmmpjcaaaaDoorW.Px
set_option linter.unusedSimpArgs false
set_option linter.unusedVariables false
structure Pt where
  tx : List UInt8
  da : Bool
  nu : Bool
def isD (c : UInt8) : Bool := decide (48 ≤ c.toNat) && decide (c.toNat ≤ 57)
def lowB (c : UInt8) : UInt8 := if 65 ≤ c.toNat ∧ c.toNat ≤ 90 then c + 32 else c
def likeP (t : List UInt8) (c : UInt8) : Bool := match t.getLast? with
  | none => true
  | some d => isD d == isD c
def stepP (r : List Pt × Pt) (c : UInt8) : List Pt × Pt :=
  if c == 46 || c == 45 then (r.1 ++ [r.2], ⟨[], c == 45, false⟩)
  else if likeP r.2.tx c then (r.1, ⟨r.2.tx ++ [c], r.2.da, r.2.nu⟩)
  else (r.1 ++ [⟨r.2.tx, r.2.da, isD c⟩], ⟨[c], true, false⟩)
def runP (r : List Pt × Pt) (l : List UInt8) : List Pt × Pt := l.foldl stepP r
def allP (r : List Pt × Pt) : List Pt := r.1 ++ [r.2]
def p0 : List Pt × Pt := ([], ⟨[], false, false⟩)
def partsL (l : List UInt8) : List Pt := allP (runP p0 l)
abbrev Wl := Int × List UInt8
abbrev tA : List UInt8 := [97, 108, 112, 104, 97]
abbrev tB : List UInt8 := [98, 101, 116, 97]
abbrev tM : List UInt8 := [109, 105, 108, 101, 115, 116, 111, 110, 101]
abbrev tRc : List UInt8 := [114, 99]
abbrev tCr : List UInt8 := [99, 114]
abbrev tS : List UInt8 := [115, 110, 97, 112, 115, 104, 111, 116]
abbrev tGa : List UInt8 := [103, 97]
abbrev tFi : List UInt8 := [102, 105, 110, 97, 108]
abbrev tRe : List UInt8 := [114, 101, 108, 101, 97, 115, 101]
abbrev tSp : List UInt8 := [115, 112]
def kindL (t : List UInt8) (nu : Bool) : Int :=
  if t = tA ∨ nu = true ∧ t = [97] then 1
  else if t = tB ∨ nu = true ∧ t = [98] then 2
  else if t = tM ∨ nu = true ∧ t = [109] then 3
  else if t = tRc ∨ t = tCr then 4
  else if t = tS then 5
  else if t = tGa ∨ t = tFi ∨ t = tRe then 6
  else if t = tSp then 7
  else 8
def numL (t : List UInt8) (da : Bool) : Wl :=
  if t.dropWhile (· == 48) = [] then (6, []) else if da = true then (9, t.dropWhile (· == 48)) else (10, t.dropWhile (· == 48))
def letL (t : List UInt8) (nu : Bool) : Wl := if kindL t nu = 8 then (8, t) else (kindL t nu, [])
def numb (t : List UInt8) : Bool := match t with
  | [] => true
  | c :: _ => isD c
def wordL (p : Pt) : Wl := if numb p.tx = true then numL p.tx p.da else letL p.tx p.nu
def aheadL : List Wl → Bool
  | [] => false
  | w :: _ => w.1 == 6 || w.1 == 10
def pushL (w : Wl) (out : List Wl) : List Wl := if w.1 = 6 ∧ aheadL out = false then out else w :: out
def outL (l : List Pt) : List Wl := (l.map wordL).foldr pushL []
def splitL (l : List UInt8) : List Wl := outL (partsL (l.map lowB))
end Go.Proofs.YtgdjfcmmpjcaaaaDoor.Pure
namespace Go.Proofs.YtgdjfcmmpjcaaaaDoor.Pure
open Go Go.RowKit Go.Proofs.YtgdjfcmmpjcaaaaDoor.Q Go.Proofs.YtgdjfcmmpjcaaaaDoorW.PrintWords Go.Proofs.YtgdjfcmmpjcaaaaDoorW.PrintLast Go.Proofs.YtgdjfcmmpjcaaaaDoorW.Own Go.Proofs.YtgdjfcmmpjcaaaaDoorW.PrintMore Go.Proofs.YtgdjfcmmpjcaaaaDoorW.Px
set_option linter.unusedSimpArgs false
set_option linter.unusedVariables false
def ts (l : List UInt8) : ByteArray := ⟨l.toArray⟩
theorem ts_list (l : List UInt8) : (ts l).data.toList = l := rfl
theorem ts_toList (l : List UInt8) : (ts l).toList = l := by rw [ba_toList]; rfl
theorem ts_data (a : ByteArray) : ts a.data.toList = a := ba_ext rfl
theorem ts_size (l : List UInt8) : (ts l).size = l.length := by rw [ba_size]; rfl
theorem ts_append (a b : List UInt8) : ts a ++ ts b = ts (a ++ b) := ba_ext (by rw [ba_append]; rfl)
theorem bt_nat (l : List UInt8) (i : Nat) (h : i < l.length) : bt (ts l) (i : Int) = ((l[i].toNat : Nat) : Int) := by
  have h' : i < (ts l).size := by rw [ts_size]; exact h
  unfold bt
  simp [h']
  rfl
theorem num_byte (c : UInt8) : strOfNums [(c.toNat : Int)] = ts [c] := by
  apply ba_ext
  show [UInt8.ofNat (Int.toNat (c.toNat : Int))] = [c]
  rw [Int.toNat_natCast]; simp
theorem digit_told (c : UInt8) : chars_Digit.f (c.toNat : Int) = some (isD c) := by
  unfold chars_Digit.f isD
  by_cases h : (c.toNat : Int) ≥ 48
  · rw [if_pos h, decide_eq_true (show 48 ≤ c.toNat by omega), Bool.true_and]
    congr 1
    by_cases g : c.toNat ≤ 57
    · rw [decide_eq_true g, decide_eq_true (by omega)]
    · rw [decide_eq_false g, decide_eq_false (by omega)]
  · rw [if_neg h, decide_eq_false (show ¬ 48 ≤ c.toNat by omega), Bool.false_and]
def p93 (p : Pt) : S93 := ⟨ts p.tx, p.da, p.nu⟩
theorem last_of (n : Nat) (h : n < 4611686018427387904) : wrap64 (((n + 1 : Nat) : Int) - 1) = (n : Int) := by unfold wrap64; omega
theorem next_of (i : Nat) (h : i < 4611686018427387904) : wrap64 ((i : Int) + 1) = ((i + 1 : Nat) : Int) := by unfold wrap64; omega
theorem beq_toNat (c : UInt8) (n : Nat) (h : n < 256) : ((c.toNat : Int) = (n : Int)) ↔ c = UInt8.ofNat n := by
  constructor
  · intro h
    have : c.toNat = n := by omega
    rw [← this]; simp
  · rintro rfl
    simp; omega
section
variable {T : Type} (g : Pt → T)
theorem all_len (r : List Pt × Pt) : ((allP r).map g).length = r.1.length + 1 := by simp [allP]
theorem all_getD (r : List Pt × Pt) (z : T) : ((allP r).map g).getD ((r.1.length : Int)).toNat z = g r.2 := by
  simp [allP, List.getD_eq_getElem?_getD]
theorem all_set (r : List Pt × Pt) (x : T) : ((allP r).map g).set ((r.1.length : Int)).toNat x = r.1.map g ++ [x] := by
  simp [allP, List.set_append]
theorem all_put (r : List Pt × Pt) (p : Pt) (x : T) (h : x = g p) : ((allP r).map g).set ((r.1.length : Int)).toNat x = (allP (r.1, p)).map g := by
  rw [all_set, h]; simp [allP]
theorem all_add (r : List Pt × Pt) (p : Pt) (x : T) (h : x = g p) : (allP r).map g ++ [x] = (allP (r.1 ++ [r.2], p)).map g := by
  rw [h]; simp [allP]
end
theorem stepP_sep (r : List Pt × Pt) (c : UInt8) (h : c = 46 ∨ c = 45) : stepP r c = (r.1 ++ [r.2], ⟨[], c == 45, false⟩) := by
  unfold stepP
  rw [if_pos (by rcases h with rfl | rfl <;> decide)]
theorem stepP_like (r : List Pt × Pt) (c : UInt8) (h : ¬ (c = 46 ∨ c = 45)) (h2 : likeP r.2.tx c = true) : stepP r c = (r.1, ⟨r.2.tx ++ [c], r.2.da, r.2.nu⟩) := by
  unfold stepP
  rw [if_neg (by simpa using h), if_pos h2]
theorem stepP_new (r : List Pt × Pt) (c : UInt8) (h : ¬ (c = 46 ∨ c = 45)) (h2 : likeP r.2.tx c = false) : stepP r c = (r.1 ++ [⟨r.2.tx, r.2.da, isD c⟩], ⟨[c], true, false⟩) := by
  unfold stepP
  rw [if_neg (by simpa using h), h2, if_neg (by simp)]
theorem runP_drop (r : List Pt × Pt) (v : List UInt8) (i : Nat) (h : i < v.length) : runP r (v.drop i) = runP (stepP r v[i]) (v.drop (i + 1)) := by
  rw [List.drop_eq_getElem_cons h]; rfl
theorem like_last (t : List UInt8) (c : UInt8) (h : t ≠ []) : likeP t c = (isD (t.getLast h) == isD c) := by
  unfold likeP
  rw [List.getLast?_eq_some_getLast h]
def tailP (v : List UInt8) (i : Nat) (p : Pt) : Prop := p.tx = [] ∨ ∃ n, i = n + 1 ∧ p.tx.getLast? = v[n]?
theorem tail_next (v : List UInt8) (i : Nat) (h : i < v.length) (t : List UInt8) (a b : Bool) : tailP v (i + 1) ⟨t ++ [v[i]], a, b⟩ := by
  refine Or.inr ⟨i, rfl, ?_⟩
  simp [List.getElem?_eq_getElem h]
theorem parts_loop (v : List UInt8) (hv : v.length ≤ 1000000) : ∀ (d i k : Nat) (r : List Pt × Pt), i + d = v.length → r.1.length ≤ i → r.2.tx.length ≤ i → tailP v i r.2 →
    words_parts.l0 (k + d + 1) (ts v) ((allP r).map p93) (v.length : Int) (i : Int) = some ((allP (runP r (v.drop i))).map p93) := by
  intro d
  induction d with
  | zero =>
    intro i k r h _ _ _
    rw [words_parts.l0, if_neg (by omega), List.drop_eq_nil_of_le (by omega)]
    rfl
  | succ d ih =>
    intro i k r h h1 h2 h3
    have hi : i < v.length := by omega
    have q0 : (i : Int) < (v.length : Int) := by omega
    have q0' : (i : Int) < ((ts v).size : Int) := by rw [ts_size]; omega
    have hl := all_len p93 r
    have hx : wrap64 ((((allP r).map p93).length : Int) - 1) = (r.1.length : Int) := by rw [hl]; exact last_of _ (by omega)
    have q1 : (0 : Int) ≤ (r.1.length : Int) := by omega
    have q2 : (r.1.length : Int) < (((allP r).map p93).length : Int) := by rw [hl]; omega
    have q3 : (0 : Int) ≤ (i : Int) := by omega
    have q4 : ((allP r).map p93).length < 5864062014805 := by rw [hl]; omega
    have hn := next_of i (by omega)
    have hr : rd_T93 ((allP r).map p93) (r.1.length : Int) = p93 r.2 := all_getD p93 r _
    have hb := bt_nat v i hi
    have tn := tail_next v i hi
    have step : ∀ r', stepP r v[i] = r' → r'.1.length ≤ i + 1 → r'.2.tx.length ≤ i + 1 → tailP v (i + 1) r'.2 → words_parts.l0 (k + d + 1) (ts v) ((allP r').map p93) (v.length : Int) ((i + 1 : Nat) : Int) = some ((allP (runP r (v.drop i))).map p93) := by
      intro r' e a b t
      rw [ih (i + 1) k r' (by omega) a b t, runP_drop r v i hi, e]
    rw [show k + (d + 1) + 1 = (k + d + 1) + 1 from by omega, words_parts.l0, if_pos q0, if_pos q3, if_pos q0', hx, if_pos q1, if_pos q2, hr, hb, hn]
    generalize hc : v[i] = c at *
    by_cases c1 : c = 46
    · rw [if_pos (by rw [c1]; rfl), if_pos q4, all_add p93 r ⟨[], c == 45, false⟩ _ (by rw [c1]; rfl)]
      exact step _ (stepP_sep r c (Or.inl c1)) (by simp; omega) (by simp) (Or.inl rfl)
    · rw [if_neg (by rw [show (46 : Int) = ((46 : Nat) : Int) from rfl, beq_toNat c 46 (by omega)]; exact c1)]
      by_cases c2 : c = 45
      · rw [if_pos (by rw [c2]; rfl), if_pos q4, all_add p93 r ⟨[], c == 45, false⟩ _ (by rw [c2]; rfl)]
        exact step _ (stepP_sep r c (Or.inr c2)) (by simp; omega) (by simp) (Or.inl rfl)
      · rw [if_neg (by rw [show (45 : Int) = ((45 : Nat) : Int) from rfl, beq_toNat c 45 (by omega)]; exact c2)]
        have nc : ¬ (c = 46 ∨ c = 45) := by rintro (h | h); exact c1 h; exact c2 h
        have e1 : strOfNums [(c.toNat : Int)] = ts [c] := num_byte c
        have q7 : (p93 r.2).f0.size + (ts [c]).size ≤ 9223372036854775807 := by show (ts r.2.tx).size + (ts [c]).size ≤ _; rw [ts_size, ts_size]; simp; omega
        have same : likeP r.2.tx c = true → (if (p93 r.2).f0.size + (strOfNums [(c.toNat : Int)]).size ≤ 9223372036854775807 then (words_parts.l0 (k + d + 1) (ts v) (((allP r).map p93).set ((r.1.length : Int)).toNat (⟨(p93 r.2).f0 ++ (strOfNums [(c.toNat : Int)]), (p93 r.2).f1, (p93 r.2).f2⟩ : S93)) (v.length : Int) ((i + 1 : Nat) : Int)) else none) = some ((allP (runP r (v.drop i))).map p93) := by
          intro lk
          rw [e1, if_pos q7, all_put p93 r ⟨r.2.tx ++ [c], r.2.da, r.2.nu⟩ _ (by unfold p93; rw [ts_append])]
          exact step _ (stepP_like r c nc lk) (by simp; omega) (by simp; omega) (tn _ _ _)
        by_cases z : r.2.tx = []
        · have z' : (p93 r.2).f0.toList = ([] : List UInt8) := by show (ts r.2.tx).toList = []; rw [ts_toList]; exact z
          rw [if_pos z', Option.bind_some]
          exact same (by rw [z]; rfl)
        · have z' : ¬ (p93 r.2).f0.toList = ([] : List UInt8) := by show ¬ (ts r.2.tx).toList = []; rw [ts_toList]; exact z
          obtain ⟨n, hin, hlast⟩ : ∃ n, i = n + 1 ∧ r.2.tx.getLast? = v[n]? := by
            rcases h3 with h3 | h3
            · exact absurd h3 z
            · exact h3
          have hnv : n < v.length := by omega
          have hnn : n < 4611686018427387904 := by omega
          have hg : r.2.tx.getLast z = v[n] := by
            rw [List.getLast?_eq_some_getLast z, List.getElem?_eq_getElem hnv] at hlast
            exact Option.some.inj hlast
          have hp : wrap64 ((i : Int) - 1) = (n : Int) := by rw [hin]; exact last_of n hnn
          rw [if_neg z', digit_told, Option.bind_some, hp, if_pos (by omega), if_pos (by rw [ts_size]; omega), bt_nat v n hnv, digit_told, Option.bind_some, ← hg]
          by_cases e : isD (r.2.tx.getLast z) = isD c
          · rw [if_neg (by rw [e]; simp), Option.bind_some]
            exact same (by rw [like_last _ _ z, e]; simp)
          · rw [if_pos (by simpa using fun h => e h.symm), Option.bind_some, Option.bind_some]
            have ea : ((allP r).map p93).set ((r.1.length : Int)).toNat (⟨(p93 r.2).f0, (p93 r.2).f1, isD c⟩ : S93) = (allP (r.1, ⟨r.2.tx, r.2.da, isD c⟩)).map p93 := all_put p93 r _ _ rfl
            rw [ea]
            have la := all_len p93 (r.1, ⟨r.2.tx, r.2.da, isD c⟩)
            have q8 : ((allP (r.1, ⟨r.2.tx, r.2.da, isD c⟩)).map p93).length < 5864062014805 := by rw [la]; simp; omega
            rw [if_pos q8, Option.bind_some, all_add p93 (r.1, ⟨r.2.tx, r.2.da, isD c⟩) ⟨[], true, false⟩ (⟨(⟨#[]⟩ : ByteArray), true, false⟩ : S93) rfl]
            generalize hR : ((r.1 ++ [(⟨r.2.tx, r.2.da, isD c⟩ : Pt)], (⟨[], true, false⟩ : Pt)) : List Pt × Pt) = R
            have R1 : R.1 = r.1 ++ [(⟨r.2.tx, r.2.da, isD c⟩ : Pt)] := by rw [← hR]
            have R2 : R.2 = ⟨[], true, false⟩ := by rw [← hR]
            have Rl : R.1.length = r.1.length + 1 := by rw [R1]; simp
            have lR := all_len p93 R
            have hxR : wrap64 ((((allP R).map p93).length : Int) - 1) = (R.1.length : Int) := by rw [lR]; exact last_of _ (by omega)
            have hrR : rd_T93 ((allP R).map p93) (R.1.length : Int) = p93 R.2 := all_getD p93 R _
            rw [hxR, if_pos (by omega), if_pos (by rw [lR]; omega), Option.bind_some, hrR, e1]
            have q9 : (p93 R.2).f0.size + (ts [c]).size ≤ 9223372036854775807 := by rw [R2]; show (ts []).size + (ts [c]).size ≤ _; rw [ts_size, ts_size]; simp
            rw [if_pos q9, all_put p93 R ⟨[c], true, false⟩ _ (by rw [R2]; unfold p93; rw [ts_append]; rfl)]
            exact step (R.1, ⟨[c], true, false⟩) (by rw [stepP_new r c nc (by rw [like_last _ _ z]; simpa using e), R1]) (by simp; omega) (by simp) (tn [] true false)
theorem parts_told (v : List UInt8) (hv : v.length ≤ 1000000) (k : Nat) (hk : v.length + 1 ≤ k) : words_parts.f k (ts v) = some ((partsL v).map p93) := by
  have := parts_loop v hv v.length 0 (k - v.length - 1) p0 (by omega) (by simp [p0]) (by simp [p0]) (Or.inl rfl)
  rw [show k - v.length - 1 + v.length + 1 = k from by omega, ← ts_size v] at this
  exact this
def w38 (w : Wl) : S38 := ⟨w.1, ts w.2⟩
def pr (w : Wl) : Int × ByteArray := (w.1, ts w.2)
theorem kindL_plain (t : List UInt8) (nu : Bool) (ka : ∀ c : List UInt8, (c = [97] ∨ c = [98] ∨ c = [109]) → (nu = true ∧ t = c) = False) : kindL t nu = if t = tA then 1 else if t = tB then 2 else if t = tM then 3 else if t = tRc ∨ t = tCr then 4 else if t = tS then 5 else if t = tGa ∨ t = tFi ∨ t = tRe then 6 else if t = tSp then 7 else 8 := by
  have a := ka [97] (by simp)
  have b := ka [98] (by simp)
  have c := ka [109] (by simp)
  unfold kindL
  simp only [a, b, c, or_false]
theorem letters_told (t : List UInt8) (da nu : Bool) (k : Nat) (hk : 4 ≤ k) : words_letters.f k (ts t) da nu = some (pr (letL t nu)) := by
  obtain ⟨j, rfl⟩ : ∃ j, k = j + 1 + 1 + 1 := ⟨k - 3, by omega⟩
  have gen : ∀ s x, (s = t ∨ nu = true ∧ (s = tA ∧ t = [97] ∨ s = tB ∧ t = [98] ∨ s = tM ∧ t = [109])) → (s = t → ¬ (nu = true ∧ (t = [97] ∨ t = [98] ∨ t = [109]))) → x = ts s → words_letters.j0 (j + 1 + 1 + 1) x (ts t) da nu = some (pr (letL t nu)) := by
    rintro s _ hs hne rfl
    rcases hs with rfl | ⟨hn, ⟨rfl, rfl⟩ | ⟨rfl, rfl⟩ | ⟨rfl, rfl⟩⟩
    · have hx := hne rfl
      have ka : ∀ c, (c = [97] ∨ c = [98] ∨ c = [109]) → (nu = true ∧ s = c) = False := by
        intro c hc
        apply eq_false
        rintro ⟨h1, h2⟩
        exact hx ⟨h1, h2 ▸ hc⟩
      rw [words_letters.j0, ts_toList]
      unfold letL
      rw [kindL_plain s nu ka]
      by_cases h1 : s = tA
      · rw [if_pos h1, if_pos h1]; rfl
      · rw [if_neg h1, if_neg h1]
        by_cases h2 : s = tB
        · rw [if_pos h2, if_pos h2]; rfl
        · rw [if_neg h2, if_neg h2]
          by_cases h3 : s = tM
          · rw [if_pos h3, if_pos h3]; rfl
          · rw [if_neg h3, if_neg h3]
            have j2 : ∀ b, (¬ b = true → ¬ (s = tGa ∨ s = tFi ∨ s = tRe)) → (b = true → (s = tGa ∨ s = tFi ∨ s = tRe)) → words_letters.j2 (j + 1) (ts s) b (ts s) da nu = some (pr (if (if s = tGa ∨ s = tFi ∨ s = tRe then (6 : Int) else if s = tSp then 7 else 8) = 8 then (8, s) else ((if s = tGa ∨ s = tFi ∨ s = tRe then (6 : Int) else if s = tSp then 7 else 8), []))) := by
              intro b hb1 hb2
              rw [words_letters.j2, ts_toList]
              by_cases hb : b = true
              · rw [if_pos hb, if_pos (hb2 hb)]; rfl
              · rw [if_neg hb, if_neg (hb1 hb)]
                by_cases h7 : s = tSp
                · rw [if_pos h7, if_pos h7]; rfl
                · rw [if_neg h7, if_neg h7]; rfl
            have j1 : ∀ b, (¬ b = true → ¬ (s = tRc ∨ s = tCr)) → (b = true → (s = tRc ∨ s = tCr)) → words_letters.j1 (j + 1 + 1) (ts s) b (ts s) da nu = some (pr (if (if s = tRc ∨ s = tCr then (4 : Int) else if s = tS then 5 else if s = tGa ∨ s = tFi ∨ s = tRe then (6 : Int) else if s = tSp then 7 else 8) = 8 then (8, s) else ((if s = tRc ∨ s = tCr then (4 : Int) else if s = tS then 5 else if s = tGa ∨ s = tFi ∨ s = tRe then (6 : Int) else if s = tSp then 7 else 8), []))) := by
              intro b hb1 hb2
              rw [words_letters.j1, ts_toList]
              by_cases hb : b = true
              · rw [if_pos hb, if_pos (hb2 hb)]; rfl
              · rw [if_neg hb, if_neg (hb1 hb)]
                by_cases h5 : s = tS
                · rw [if_pos h5, if_pos h5]; rfl
                · rw [if_neg h5, if_neg h5]
                  by_cases h6 : s = tGa
                  · rw [if_pos h6]; exact j2 _ (fun h => absurd (by rw [show s = [103, 97] from h6]; rfl) h) (fun _ => Or.inl h6)
                  · rw [if_neg h6]
                    by_cases h8 : s = tFi
                    · rw [if_pos h8]; exact j2 _ (fun h => absurd (by rw [show s = [102, 105, 110, 97, 108] from h8]; rfl) h) (fun _ => Or.inr (Or.inl h8))
                    · rw [if_neg h8]
                      refine j2 _ ?_ ?_
                      · rintro h (g | g | g)
                        · exact h6 g
                        · exact h8 g
                        · exact h (by rw [show s = [114, 101, 108, 101, 97, 115, 101] from g]; rfl)
                      · intro h; exact Or.inr (Or.inr (beq_iff_eq.1 h))
            by_cases h4 : s = tRc
            · rw [if_pos h4]; exact j1 _ (fun h => absurd (by rw [show s = [114, 99] from h4]; rfl) h) (fun _ => Or.inl h4)
            · rw [if_neg h4]
              refine j1 _ ?_ ?_
              · rintro h (g | g)
                · exact h4 g
                · exact h (by rw [show s = [99, 114] from g]; rfl)
              · intro h; exact Or.inr (beq_iff_eq.1 h)
    · subst hn; rw [words_letters.j0, ts_toList, if_pos rfl]; rfl
    · subst hn; rw [words_letters.j0, ts_toList, if_neg (by decide), if_pos rfl]; rfl
    · subst hn; rw [words_letters.j0, ts_toList, if_neg (by decide), if_neg (by decide), if_pos rfl]; rfl
  unfold words_letters.f
  rw [ts_toList]
  by_cases hn : nu = true
  · rw [if_pos hn]
    by_cases h1 : t = [97]
    · rw [if_pos h1]; exact gen tA _ (Or.inr ⟨hn, Or.inl ⟨rfl, h1⟩⟩) (fun h => by rw [h1] at h; exact absurd h (by decide)) rfl
    · rw [if_neg h1]
      by_cases h2 : t = [98]
      · rw [if_pos h2]; exact gen tB _ (Or.inr ⟨hn, Or.inr (Or.inl ⟨rfl, h2⟩)⟩) (fun h => by rw [h2] at h; exact absurd h (by decide)) rfl
      · rw [if_neg h2]
        by_cases h3 : t = [109]
        · rw [if_pos h3]; exact gen tM _ (Or.inr ⟨hn, Or.inr (Or.inr ⟨rfl, h3⟩)⟩) (fun h => by rw [h3] at h; exact absurd h (by decide)) rfl
        · rw [if_neg h3]
          refine gen t _ (Or.inl rfl) ?_ rfl
          rintro _ ⟨_, g | g | g⟩
          · exact h1 g
          · exact h2 g
          · exact h3 g
  · rw [if_neg hn]
    exact gen t _ (Or.inl rfl) (fun _ h => hn h.1) rfl
theorem trim_told (t : List UInt8) : strings_TrimLeft.f (ts t) (⟨#[48]⟩ : ByteArray) = some (ts (t.dropWhile (· == 48))) := by
  unfold strings_TrimLeft.f
  rw [if_pos ⟨rfl, by decide⟩]
  rfl
theorem word_told (p : Pt) (k : Nat) (hk : 5 ≤ k) : words_word.f k (p93 p).f0 (p93 p).f1 (p93 p).f2 = some (pr (wordL p)) := by
  obtain ⟨j, rfl⟩ : ∃ j, k = j + 1 := ⟨k - 1, by omega⟩
  obtain ⟨t, da, nu⟩ := p
  show words_word.f (j + 1) (ts t) da nu = _
  have nums : words_word.j0 (j + 1) false (ts t) da nu = some (pr (numL t da)) := by
    rw [words_word.j0, if_neg (by simp), trim_told, Option.bind_some, ts_toList]
    unfold numL
    by_cases z : t.dropWhile (· == 48) = []
    · rw [if_pos z, if_pos z]; rfl
    · rw [if_neg z, if_neg z]
      by_cases d : da = true
      · rw [if_pos d, if_pos d]; rfl
      · rw [if_neg d, if_neg d]; rfl
  unfold words_word.f wordL
  rw [ts_toList]
  cases t with
  | nil => rw [if_pos rfl, nums]; rfl
  | cons c t =>
    have hb : bt (ts (c :: t)) 0 = (c.toNat : Int) := bt_nat (c :: t) 0 (by simp)
    rw [if_neg (by simp), if_pos (by rw [ts_size, List.length_cons]; omega), hb, digit_told, Option.bind_some]
    show _ = some (pr (if isD c = true then numL (c :: t) da else letL (c :: t) nu))
    by_cases d : isD c = true
    · rw [if_pos d, d]; exact nums
    · rw [if_neg d, Bool.eq_false_iff.2 d]
      show words_word.j0 (j + 1) true _ _ _ = _
      rw [words_word.j0, if_pos rfl, letters_told _ _ _ _ (by omega)]
      rfl
def toN (c : UInt8) : Int := (c.toNat : Int)
theorem nums_ts (l : List UInt8) : strOfNums (l.map toN) = ts l := by
  apply ba_ext
  show (l.map toN).map (fun n => UInt8.ofNat n.toNat) = l
  rw [List.map_map]
  conv => rhs; rw [← List.map_id l]
  apply List.map_congr_left
  intro c _
  show UInt8.ofNat (Int.toNat (c.toNat : Int)) = c
  rw [Int.toNat_natCast]; simp
theorem low_num (c : UInt8) : (if 65 ≤ (c.toNat : Int) ∧ (c.toNat : Int) ≤ 90 then (c.toNat : Int) + 32 else (c.toNat : Int)) = toN (lowB c) := by
  unfold lowB toN
  by_cases h : 65 ≤ c.toNat ∧ c.toNat ≤ 90
  · rw [if_pos (by omega), if_pos h, UInt8.toNat_add]
    have : (32 : UInt8).toNat = 32 := rfl
    rw [this]; omega
  · rw [if_neg (by omega), if_neg h]
theorem lower_told (v : List UInt8) (hv : v.length ≤ 1000000) : chars_Lower.f (ts v) = some (ts (v.map lowB)) := by
  unfold chars_Lower.f
  rw [if_pos (by rw [ts_size]; omega), ← nums_ts (v.map lowB)]
  congr 2
  unfold bytesOf
  rw [ts_list, List.map_map, List.map_map]
  apply List.map_congr_left
  intro c _
  exact low_num c
theorem rev_loop : ∀ (n : Nat) (m a b : List S38) (k : Nat), m.length ≤ n → a.length + m.length + b.length ≤ 4000000 →
    api_Word_73.l0 (k + n + 1) (a ++ (m ++ b)) (a.length : Int) (((a.length + m.length : Nat) : Int) - 1) = some (a ++ (m.reverse ++ b)) := by
  intro n
  induction n with
  | zero =>
    intro m a b k h _
    obtain rfl : m = [] := List.eq_nil_of_length_eq_zero (by omega)
    rw [api_Word_73.l0, if_neg (by simp; omega)]
    rfl
  | succ n ih =>
    intro m a b k h hb
    match m, h, hb with
    | [], h, hb => rw [api_Word_73.l0, if_neg (by simp; omega)]; rfl
    | [x], h, hb => rw [api_Word_73.l0, if_neg (by simp)]; rfl
    | x :: y :: m', h, hb =>
      obtain ⟨c, z, hc⟩ : ∃ c z, y :: m' = c ++ [z] := ⟨(y :: m').dropLast, (y :: m').getLast (by simp), (List.dropLast_concat_getLast (by simp)).symm⟩
      rw [hc] at h hb ⊢
      simp only [List.length_cons, List.length_append, List.length_nil] at h hb
      have hj : (((a.length + (x :: (c ++ [z])).length : Nat) : Int) - 1) = ((a.length + 1 + c.length : Nat) : Int) := by simp; omega
      have hL : (a ++ (x :: (c ++ [z]) ++ b)).length = a.length + 1 + c.length + 1 + b.length := by simp; omega
      have gz : rd_T38 (a ++ (x :: (c ++ [z]) ++ b)) ((a.length + 1 + c.length : Nat) : Int) = z := by
        unfold rd_T38
        rw [Int.toNat_natCast, List.getD_eq_getElem?_getD, List.getElem?_append_right (by omega)]
        rw [show a.length + 1 + c.length - a.length = c.length + 1 from by omega]
        simp
      have gx : rd_T38 (a ++ (x :: (c ++ [z]) ++ b)) ((a.length : Nat) : Int) = x := by
        unfold rd_T38
        rw [Int.toNat_natCast, List.getD_eq_getElem?_getD, List.getElem?_append_right (by omega)]
        simp
      have s1 : (a ++ (x :: (c ++ [z]) ++ b)).set ((a.length : Nat) : Int).toNat z = a ++ (z :: (c ++ [z]) ++ b) := by
        rw [Int.toNat_natCast, List.set_append_right _ _ (by omega)]
        simp
      have s2 : (a ++ (z :: (c ++ [z]) ++ b)).set ((a.length + 1 + c.length : Nat) : Int).toNat x = (a ++ [z]) ++ (c ++ ([x] ++ b)) := by
        rw [Int.toNat_natCast, List.set_append_right _ _ (by omega), show a.length + 1 + c.length - a.length = c.length + 1 from by omega]
        simp
      have w1 : wrap64 (((a.length : Nat) : Int) + 1) = (((a ++ [z]).length : Nat) : Int) := by
        rw [List.length_append]; unfold wrap64; simp; omega
      have w2 : wrap64 (((a.length + 1 + c.length : Nat) : Int) - 1) = (((a ++ [z]).length + c.length : Nat) : Int) - 1 := by
        rw [List.length_append]; unfold wrap64; simp; omega
      have := ih c (a ++ [z]) ([x] ++ b) k (by omega) (by simp; omega)
      rw [show k + (n + 1) + 1 = (k + n + 1) + 1 from by omega, api_Word_73.l0, hj, if_pos (by omega), if_pos (by omega), if_pos (by rw [hL]; omega), if_pos (by omega), if_pos (by rw [hL]; omega), gz, gx]
      show api_Word_73.l0 (k + n + 1) ((((a ++ (x :: (c ++ [z]) ++ b)).set ((a.length : Nat) : Int).toNat z)).set ((a.length + 1 + c.length : Nat) : Int).toNat x) _ _ = _
      rw [s1, s2, w1, w2, this]
      simp
theorem rev_told (l : List S38) (hl : l.length ≤ 4000000) (k : Nat) (hk : l.length + 1 ≤ k) : api_Word_73.f k l = some l.reverse := by
  have := rev_loop l.length l [] [] (k - l.length - 1) (Nat.le_refl _) (by simp; omega)
  rw [show k - l.length - 1 + l.length + 1 = k from by omega, List.append_nil, List.append_nil] at this
  unfold api_Word_73.f
  rw [show wrap64 ((l.length : Int) - 1) = (((([] : List S38).length + l.length : Nat) : Int) - 1) from by unfold wrap64; simp; omega]
  exact this
theorem push_skip (w : Wl) (out : List Wl) (h : w.1 = 6) (g : aheadL out = false) : pushL w out = out := if_pos ⟨h, g⟩
theorem push_add (w : Wl) (out : List Wl) (h : ¬ (w.1 = 6 ∧ aheadL out = false)) : pushL w out = w :: out := if_neg h
theorem ahead_cons (w : Wl) (l : List Wl) : aheadL (w :: l) = false ↔ ¬ w.1 = 6 ∧ ¬ w.1 = 10 := by
  unfold aheadL; simp
theorem split_loop : ∀ (n : Nat) (l : List Pt) (out : List Wl) (k : Nat), l.length = n → out.length + l.length ≤ 1000000 → out.length + l.length + 10 ≤ k →
    words_Split.l0 (k + n + 1) ((out.map w38).reverse) (l.map p93) = some (((l.map wordL).foldr pushL out).map w38) := by
  intro n
  induction n with
  | zero =>
    intro l out k h _ hk
    obtain rfl : l = [] := List.eq_nil_of_length_eq_zero h
    rw [words_Split.l0, if_pos (by simp), rev_told _ (by simp; omega) _ (by simp; omega), Option.bind_some, List.reverse_reverse]
    rfl
  | succ n ih =>
    intro l out k h hs hk
    obtain ⟨l', p, rfl⟩ : ∃ l' p, l = l' ++ [p] := ⟨l.dropLast, l.getLast (by intro z; rw [z] at h; simp at h), (List.dropLast_concat_getLast _).symm⟩
    have hl' : l'.length = n := by simpa using h
    rw [List.length_append, List.length_singleton] at hs hk
    have hm : ((l' ++ [p]).map p93).length = n + 1 := by rw [List.length_map, List.length_append, hl']; rfl
    have hx : wrap64 ((((l' ++ [p]).map p93).length : Int) - 1) = ((n : Nat) : Int) := by rw [hm]; exact last_of n (by omega)
    have hr : rd_T93 ((l' ++ [p]).map p93) ((n : Nat) : Int) = p93 p := by
      unfold rd_T93
      rw [Int.toNat_natCast, List.map_append, List.getD_eq_getElem?_getD, List.getElem?_append_right (by simp; omega)]
      simp [hl']
    have ht : ((l' ++ [p]).map p93).take ((n : Nat) : Int).toNat = l'.map p93 := by
      rw [Int.toNat_natCast, List.map_append, List.take_append_of_le_length (by simp; omega), List.take_of_length_le (by simp; omega)]
    have fold : (((l' ++ [p]).map wordL).foldr pushL out) = (l'.map wordL).foldr pushL (pushL (wordL p) out) := by simp
    have hlen : ((out.map w38).reverse).length = out.length := by simp
    have add : ¬ ((wordL p).1 = 6 ∧ aheadL out = false) → (if ((out.map w38).reverse).length < 5864062014805 then words_Split.l0 (k + n + 1) ((out.map w38).reverse ++ [(⟨(pr (wordL p)).1, (pr (wordL p)).2⟩ : S38)]) (l'.map p93) else none) = some ((((l' ++ [p]).map wordL).foldr pushL out).map w38) := by
      intro hp
      have e : (out.map w38).reverse ++ [(⟨(pr (wordL p)).1, (pr (wordL p)).2⟩ : S38)] = (((wordL p :: out)).map w38).reverse := by
        rw [List.map_cons, List.reverse_cons]; rfl
      rw [if_pos (by rw [hlen]; omega), e, ih l' (wordL p :: out) k hl' (by simp; omega) (by simp; omega), fold, push_add _ _ hp]
    have skip : (wordL p).1 = 6 → aheadL out = false → words_Split.l0 (k + n + 1) ((out.map w38).reverse) (l'.map p93) = some ((((l' ++ [p]).map wordL).foldr pushL out).map w38) := by
      intro h1 h2
      rw [ih l' out k hl' (by omega) (by omega), fold, push_skip _ _ h1 h2]
    rw [show k + (n + 1) + 1 = (k + n + 1) + 1 from by omega, words_Split.l0, if_neg (by rw [hm]; omega), hx, if_pos (by omega), if_pos (by rw [hm]; omega), hr, word_told p _ (by omega), Option.bind_some, if_pos (by rw [hm]; omega), ht, Option.bind_some]
    by_cases h6 : (pr (wordL p)).1 = 6
    · rw [if_pos h6]
      cases out with
      | nil =>
        rw [if_neg (by simp)]
        exact skip h6 rfl
      | cons o os =>
        have ho : (((o :: os).map w38).reverse).length = os.length + 1 := by simp
        have hy : wrap64 (((((o :: os).map w38).reverse).length : Int) - 1) = ((os.length : Nat) : Int) := by rw [ho]; exact last_of _ (by simp at hs; omega)
        have hz : rd_T38 (((o :: os).map w38).reverse) ((os.length : Nat) : Int) = w38 o := by
          unfold rd_T38
          rw [Int.toNat_natCast, List.map_cons, List.reverse_cons, List.getD_eq_getElem?_getD, List.getElem?_append_right (by simp)]
          simp
        rw [if_pos (by rw [ho]; omega), hy, if_pos (by omega), if_pos (by rw [ho]; omega), hz]
        by_cases a6 : (w38 o).f0 = 6
        · rw [if_pos a6]
          exact add (fun h => ((ahead_cons o os).1 h.2).1 a6)
        · rw [if_neg a6]
          by_cases a10 : (w38 o).f0 = 10
          · rw [if_pos a10]
            exact add (fun h => ((ahead_cons o os).1 h.2).2 a10)
          · rw [if_neg a10]
            exact skip h6 ((ahead_cons o os).2 ⟨a6, a10⟩)
    · rw [if_neg h6]
      exact add (fun h => h6 h.1)
theorem stepP_B (r : List Pt × Pt) (c : UInt8) (B : Nat) (h : ∀ p ∈ allP r, p.tx.length ≤ B) : (∀ p ∈ allP (stepP r c), p.tx.length ≤ B + 1) ∧ (allP (stepP r c)).length ≤ (allP r).length + 1 := by
  have h1 : ∀ p ∈ r.1, p.tx.length ≤ B := fun p hp => h p (List.mem_append_left _ hp)
  have h2 : r.2.tx.length ≤ B := h _ (List.mem_append_right _ (List.mem_singleton.2 rfl))
  unfold stepP allP
  split
  · refine ⟨?_, by simp⟩
    intro p hp
    simp only [List.mem_append, List.mem_singleton] at hp
    rcases hp with (hp | rfl) | rfl
    · have := h1 p hp; omega
    · omega
    · simp
  · split
    · refine ⟨?_, by simp⟩
      intro p hp
      simp only [List.mem_append, List.mem_singleton] at hp
      rcases hp with hp | rfl
      · have := h1 p hp; omega
      · simp; omega
    · refine ⟨?_, by simp⟩
      intro p hp
      simp only [List.mem_append, List.mem_singleton] at hp
      rcases hp with (hp | rfl) | rfl
      · have := h1 p hp; omega
      · simp; omega
      · simp
theorem runP_B : ∀ (l : List UInt8) (r : List Pt × Pt) (B : Nat), (∀ p ∈ allP r, p.tx.length ≤ B) → (∀ p ∈ allP (runP r l), p.tx.length ≤ B + l.length) ∧ (allP (runP r l)).length ≤ (allP r).length + l.length
  | [], _, _, h => ⟨fun p hp => h p hp, Nat.le_refl _⟩
  | c :: l, r, B, h => by
    have s := stepP_B r c B h
    have i := runP_B l (stepP r c) (B + 1) s.1
    refine ⟨fun p hp => ?_, ?_⟩
    · have := i.1 p hp
      rw [List.length_cons]; omega
    · have a := i.2
      have b := s.2
      rw [List.length_cons]
      show (allP (runP (stepP r c) l)).length ≤ _
      omega
theorem partsL_B (l : List UInt8) : (∀ p ∈ partsL l, p.tx.length ≤ l.length) ∧ (partsL l).length ≤ l.length + 1 := by
  have := runP_B l p0 0 (fun p hp => by obtain rfl := List.mem_singleton.1 hp; exact Nat.le_refl _)
  refine ⟨fun p hp => ?_, ?_⟩
  · have := this.1 p hp; omega
  · have := this.2
    have e : (allP p0).length = 1 := rfl
    unfold partsL; omega
theorem split_told (v : List UInt8) (hv : v.length ≤ 100000) (k : Nat) (hk : 3 * v.length + 40 ≤ k) : words_Split.f k (ts v) = some ((splitL v).map w38) := by
  have hB := partsL_B (v.map lowB)
  rw [List.length_map] at hB
  unfold words_Split.f
  rw [lower_told v (by omega), Option.bind_some, parts_told _ (by rw [List.length_map]; omega) k (by rw [List.length_map]; omega), Option.bind_some]
  have := split_loop (partsL (v.map lowB)).length (partsL (v.map lowB)) [] (k - (partsL (v.map lowB)).length - 1) rfl (by simp; omega) (by simp; omega)
  rw [show k - (partsL (v.map lowB)).length - 1 + (partsL (v.map lowB)).length + 1 = k from by omega] at this
  exact this
theorem pushL_len (w : Wl) (out : List Wl) : (pushL w out).length ≤ out.length + 1 := by
  unfold pushL; split <;> simp
theorem splitL_len (v : List UInt8) : (splitL v).length ≤ v.length + 1 := by
  have g : ∀ l : List Wl, (l.foldr pushL []).length ≤ l.length := by
    intro l
    induction l with
    | nil => simp
    | cons w l ih => rw [List.foldr_cons]; have := pushL_len w (l.foldr pushL []); rw [List.length_cons]; omega
  have := g ((partsL (v.map lowB)).map wordL)
  have hB := (partsL_B (v.map lowB)).2
  rw [List.length_map] at this hB
  unfold splitL outL
  omega
theorem cmp_int (a b : Int) : cmp_Compare_int.f a b = some (if a < b then -1 else if a > b then 1 else 0) := by
  unfold cmp_Compare_int.f cmp_isNaN_int.f
  rw [Option.bind_some, Option.bind_some, if_neg (by simp), if_neg (by simp)]
  repeat' split
  all_goals rfl
theorem cmp_str (a b : List UInt8) : cmp_Compare_string.f (ts a) (ts b) = some (if Op.bytesLess a b = true then -1 else if Op.bytesLess b a = true then 1 else 0) := by
  unfold cmp_Compare_string.f cmp_isNaN_string.f
  rw [Option.bind_some, Option.bind_some, if_neg (by simp), if_neg (by simp), ts_toList, ts_toList]
  repeat' split
  all_goals rfl
theorem or_two (a b : Int) (k : Nat) (hk : 4 ≤ k) : cmp_Or_int.f k [a, b] = some (if a = 0 then b else a) := by
  obtain ⟨k, rfl⟩ : ∃ j, k = j + 1 + 1 + 1 := ⟨k - 3, by omega⟩
  unfold cmp_Or_int.f
  have r0 : rd [a, b] 0 = a := rfl
  have r1 : rd [a, b] 1 = b := rfl
  have w0 : wrap64 ((0 : Int) + 1) = 1 := by unfold wrap64; omega
  have w1 : wrap64 ((1 : Int) + 1) = 2 := by unfold wrap64; omega
  have l2 : (([a, b] : List Int).length : Int) = 2 := rfl
  rw [l2, cmp_Or_int.l0, if_pos (by decide), if_pos (by decide), l2, if_pos (by decide), r0, w0]
  by_cases h : a = 0
  · rw [if_pos h, if_pos h, cmp_Or_int.l0, if_pos (by decide), if_pos (by decide), l2, if_pos (by decide), r1, w1]
    by_cases g : b = 0
    · rw [if_pos g, cmp_Or_int.l0, if_neg (by decide), g]
    · rw [if_neg g]
  · rw [if_neg h, if_neg h]
def Tot {α : Type} (f : Nat → Option α) (P : α → Prop) : Prop := ∃ k r, P r ∧ ∀ j, k ≤ j → f j = some r
theorem tot_get {α : Type} {f : Nat → Option α} {P : α → Prop} (h : Tot f P) : ∃ k r, P r ∧ ∀ j, k ≤ j → f j = some r := h
section
variable {α β : Type}
theorem tot_some {P : α → Prop} {r : α} (h : P r) : Tot (fun _ => some r) P := ⟨0, r, h, fun _ _ => rfl⟩
theorem tot_ge {f : Nat → Option α} {r : α} (n : Nat) (h : ∀ k, n ≤ k → f k = some r) : Tot f (fun x => x = r) := ⟨n, r, rfl, h⟩
theorem tot_imp {f : Nat → Option α} {P Q : α → Prop} (h : Tot f P) (i : ∀ r, P r → Q r) : Tot f Q := by
  obtain ⟨k, r, p, e⟩ := h
  exact ⟨k, r, i r p, e⟩
theorem tot_bind {g : Nat → Option α} {F : Nat → α → Option β} {Q : α → Prop} {P : β → Prop} (h : Tot g Q) (hF : ∀ r, Q r → Tot (fun k => F k r) P) : Tot (fun k => (g k).bind (F k)) P := by
  obtain ⟨k1, r, q, h1⟩ := h
  obtain ⟨k2, s, p, h2⟩ := hF r q
  exact ⟨k1 + k2, s, p, fun j hj => by show (g j).bind (F j) = _; rw [h1 j (by omega), Option.bind_some]; exact h2 j (by omega)⟩
theorem tot_if {c : Prop} [Decidable c] {f g : Nat → Option α} {P : α → Prop} (h1 : c → Tot f P) (h2 : ¬ c → Tot g P) : Tot (fun k => if c then f k else g k) P := by
  by_cases h : c
  · obtain ⟨k, r, p, e⟩ := h1 h; exact ⟨k, r, p, fun j hj => (if_pos h).trans (e j hj)⟩
  · obtain ⟨k, r, p, e⟩ := h2 h; exact ⟨k, r, p, fun j hj => (if_neg h).trans (e j hj)⟩
theorem tot_guard {c : Prop} [Decidable c] {f g : Nat → Option α} {P : α → Prop} (h : c) (h1 : Tot f P) : Tot (fun k => if c then f k else g k) P := tot_if (fun _ => h1) (fun n => absurd h n)
theorem tot_succ {f b : Nat → Option α} {P : α → Prop} (h : Tot b P) (e : ∀ k, f (k + 1) = b k) : Tot f P := by
  obtain ⟨k, r, p, h⟩ := h
  exact ⟨k + 1, r, p, fun j hj => by obtain ⟨i, rfl⟩ : ∃ i, j = i + 1 := ⟨j - 1, by omega⟩; rw [e]; exact h i (by omega)⟩
end
def Short (l : List S58) : Prop := ∀ s ∈ l, s.f0.size ≤ 1000 ∧ s.f1.size ≤ 1000
end Go.Proofs.YtgdjfcmmpjcaaaaDoor.Pure
