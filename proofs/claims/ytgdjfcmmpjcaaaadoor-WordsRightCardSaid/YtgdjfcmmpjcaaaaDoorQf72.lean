-- Printed by this session's wip/np.py over the kit's print program. Not trusted: Lean checks it.
import Derived.Test.YtgdjfcmmpjcaaaaDoorQ0
namespace Go.Proofs.YtgdjfcmmpjcaaaaDoor.Q
open Go.RowKit Go.Proofs.YtgdjfcmmpjcaaaaDoorW.PrintWords Go.Proofs.YtgdjfcmmpjcaaaaDoorW.PrintLast Go.Proofs.YtgdjfcmmpjcaaaaDoorW.Own Go.Proofs.YtgdjfcmmpjcaaaaDoorW.PrintMore
attribute [local go_sem] max2_int min2_int max_two min_two max_three min_three max_four min_four   -- for this text's walks alone
set_option linter.unusedVariables false
set_option linter.unusedSimpArgs false

/-! ### chars_Lower: function 72 -/
def chars_Lower.low (n : Int) : Int := if 65 ≤ n ∧ n ≤ 90 then n + 32 else n
def chars_Lower.f (a0 : ByteArray) : Option ByteArray := if a0.size ≤ 281474976710656 then some (strOfNums ((bytesOf a0).map chars_Lower.low)) else none
/-- The row while the loop runs: the bytes before i are small. -/
def chars_Lower.val (a0 : ByteArray) (i j : Nat) : Int := if j < i then chars_Lower.low (bt a0 (j : Int)) else bt a0 (j : Int)
structure chars_Lower.Row (w : World) (a0 : ByteArray) (i : Nat) (w' : World) : Prop where
  below : Below w.heap.size w w'
  cell : ∀ j, j < a0.size → w'.cell? ⟨w.heap.size, j, none⟩ = some (.int .u8 (chars_Lower.val a0 i j))
  soft : ∀ j, j < a0.size → w'.frozen? ⟨w.heap.size, j, none⟩ = false
set_option maxHeartbeats 4000000 in
set_option maxRecDepth 100000 in
theorem chars_Lower.calls (a0 : ByteArray) (r : ByteArray) (w : World) (hG : Glob w) (h : chars_Lower.f a0 = some r) :
    Calls Tryd.prog 72 #[.string a0] w fun e w' => e = .returned (.string r) ∧ Below w.heap.size w w' := by
  unfold chars_Lower.f at h
  split at h
  · rename_i hs
    obtain rfl := Option.some.inj h
    clear h
    have kb := fun W => print_bytes (P := Tryd.prog) 9 30 5 Tryd.underlying9 Tryd.underlying30 Tryd.underlying5 a0 W
    go_enter Tryd.func72, Tryd.ntmps72
    go_wp2
    have hR : chars_Lower.Row w a0 0 (Lib.bytesWorld w 5 a0) := by
      refine ⟨bytes_below (Below.refl _ _) (Nat.le_refl _) _ _, ?_, ?_⟩
      · intro j hj
        rw [Lib.bytesWorld_cell w 5 a0 j hj]
        unfold chars_Lower.val bt
        rw [if_neg (Nat.not_lt_zero _)]
        have h' : j < a0.data.toList.length := by rw [data_length]; exact hj
        simp [List.getD_eq_getElem?_getD, hj]
        rfl
      · intro j hj
        have hz : a0.size ≤ (Lib.bytesCells w 5 a0).size := by simp [Lib.bytesCells]
        simp [World.frozen?, Lib.bytesWorld_at_new]
        omega
    generalize hWx : Lib.bytesWorld w 5 a0 = W2 at hR ⊢
    go_loopg [10] a0.size (fun g v10 w' => ∃ i : Nat, i ≤ a0.size ∧ v10 = .int .i64 (i : Int) ∧ g + i = a0.size ∧ chars_Lower.Row w a0 i w')
    case atStart => exact ⟨0, Nat.zero_le _, rfl, rfl, hR⟩
    case round =>
      obtain ⟨i, hi, rfl, hgi, hr⟩ := hrel
      by_cases c : i < a0.size
      · have d : decide ((i : Int) < (a0.size : Int)) = true := decide_eq_true (by omega)
        have hx := hr.cell i c
        have hf := hr.soft i c
        have hv : chars_Lower.val a0 i i = bt a0 (i : Int) := by unfold chars_Lower.val; rw [if_neg (Nat.lt_irrefl _)]
        rw [hv] at hx
        have hb := bt_range a0 (i : Int)
        have hw1 : wrap64 ((i : Int) + 1) = ((i + 1 : Nat) : Int) := by unfold wrap64; omega
        by_cases c1 : 65 ≤ bt a0 (i : Int) ∧ bt a0 (i : Int) ≤ 90
        · have d1 : decide (65 ≤ bt a0 (i : Int)) = true := decide_eq_true c1.1
          have d2 : decide (bt a0 (i : Int) ≤ 90) = true := decide_eq_true c1.2
          go_wp2
          go_roundg (a0.size - (i + 1))
          case measure => omega
          case rel =>
            refine ⟨i + 1, by omega, by simp, by omega, ⟨hr.below.setCell (Nat.le_refl _) _, fun j hj => ?_, fun j hj => (World.frozen?_setCell _ _ _ _).trans (hr.soft j hj)⟩⟩
            by_cases e : j = i
            · subst e
              rw [World.cell?_setCell_same _ _ _ (hr.cell j hj)]
              unfold chars_Lower.val chars_Lower.low
              rw [if_pos (Nat.lt_succ_self _), if_pos c1]
              have : bt a0 (j : Int) - 65 + 97 = bt a0 (j : Int) + 32 := by omega
              rw [this]
            · rw [World.cell?_setCell_other _ _ _ _ (show (⟨w.heap.size, i, none⟩ : Addr) ≠ ⟨w.heap.size, j, none⟩ from by intro h; injection h with _ h2 _; exact e h2.symm), hr.cell j hj]
              unfold chars_Lower.val
              by_cases l : j < i
              · rw [if_pos l, if_pos (by omega)]
              · rw [if_neg l, if_neg (by omega)]
        · have d12 : decide (65 ≤ bt a0 (i : Int)) = true → decide (bt a0 (i : Int) ≤ 90) = false := fun h => decide_eq_false (fun h2 => c1 ⟨of_decide_eq_true h, h2⟩)
          have same : ∀ W, chars_Lower.Row w a0 i W → chars_Lower.Row w a0 (i + 1) W := fun W hr => by
            refine ⟨hr.below, fun j hj => ?_, hr.soft⟩
            rw [hr.cell j hj]
            by_cases e : j = i
            · subst e
              rw [hv]
              unfold chars_Lower.val chars_Lower.low
              rw [if_pos (Nat.lt_succ_self _), if_neg c1]
            · unfold chars_Lower.val
              by_cases l : j < i
              · rw [if_pos l, if_pos (by omega)]
              · rw [if_neg l, if_neg (by omega)]
          by_cases c2 : 65 ≤ bt a0 (i : Int)
          · have d1 : decide (65 ≤ bt a0 (i : Int)) = true := decide_eq_true c2
            have d2 := d12 d1
            go_wp2
            go_roundg (a0.size - (i + 1))
            case measure => omega
            case rel => exact ⟨i + 1, by omega, by simp, by omega, same _ hr⟩
          · have d1 : decide (65 ≤ bt a0 (i : Int)) = false := decide_eq_false c2
            go_wp2
            go_roundg (a0.size - (i + 1))
            case measure => omega
            case rel => exact ⟨i + 1, by omega, by simp, by omega, same _ hr⟩
      · have d : decide ((i : Int) < (a0.size : Int)) = false := decide_eq_false (by omega)
        have hi' : i = a0.size := by omega
        have hc : ∀ W, chars_Lower.Row w a0 i W → Kd.C (Kd.int .u8) W (some ⟨w.heap.size, 0, none⟩) a0.size ((bytesOf a0).map chars_Lower.low) := fun W hr => by
          refine Kd.C_of_reads (enc := Value.int .u8) (d := (0 : Int)) (h1 := fun _ => rfl) ⟨by rw [List.length_map, bytesOf_length], by omega, fun _ => ⟨_, rfl, fun j hj => ?_⟩⟩
          rw [add_plain, hr.cell j hj]
          unfold chars_Lower.val
          rw [if_pos (by omega)]
          have h' : j < (bytesOf a0).length := by rw [bytesOf_length]; exact hj
          have e : (bytesOf a0)[j]'h' = bt a0 (j : Int) := by
            rw [← rd_bytesOf]
            unfold rd
            simp [List.getD_eq_getElem?_getD, List.getElem?_eq_getElem h']
          simp [List.getD_eq_getElem?_getD, List.getElem?_eq_getElem h', e]
        have hcv := Kd.C_string (P := Tryd.prog) (A := some ⟨w.heap.size, 0, none⟩) (c := grownCap w a0.size 0 5) Tryd.underlying30 Tryd.underlying5 Tryd.underlying9 (hc _ hr)
        go_wp2
        go_ret
        exact ⟨rfl, hr.below⟩
  · exact absurd h (by simp)


end Go.Proofs.YtgdjfcmmpjcaaaaDoor.Q
