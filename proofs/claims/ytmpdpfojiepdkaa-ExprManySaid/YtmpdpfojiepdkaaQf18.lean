-- Printed by this session's wip/np.py over the kit's print program. Not trusted: Lean checks it.
import Derived.Test.YtmpdpfojiepdkaaQ0
import Derived.Test.YtmpdpfojiepdkaaLBuilder
namespace Go.Proofs.Ytmpdpfojiepdkaa.Q
open Go.RowKit Go.Proofs.YtmpdpfojiepdkaaW.PrintWords Go.Proofs.YtmpdpfojiepdkaaW.PrintLast Go.Proofs.YtmpdpfojiepdkaaW.Own Go.Proofs.YtmpdpfojiepdkaaW.PrintMore
attribute [local go_sem] max2_int min2_int max_two min_two max_three min_three max_four min_four   -- for this text's walks alone
set_option linter.unusedVariables false
set_option linter.unusedSimpArgs false

/-! ### expr_Join: function 18 -/
namespace ExprJoin
def piece (p : S29) : ByteArray := if p.f0 = true then (⟨#[36, 123]⟩ : ByteArray) ++ p.f1 ++ (⟨#[125]⟩ : ByteArray) else p.f1
def joined (l : List S29) : ByteArray := l.foldl (fun s p => s ++ piece p) ⟨#[]⟩
def room (l : List S29) : Nat := (l.map fun p => p.f1.size + 3).sum
theorem room_app (a b : List S29) : room (a ++ b) = room a + room b := by simp [room]
theorem room_cons (p : S29) (l : List S29) : room (p :: l) = p.f1.size + 3 + room l := by simp [room]
theorem room_len (l : List S29) : l.length ≤ room l := by
  induction l with
  | nil => exact Nat.zero_le _
  | cons p l ih =>
    rw [room_cons, List.length_cons]
    omega
theorem joined_snoc (l : List S29) (p : S29) : joined (l ++ [p]) = joined l ++ piece p := by simp [joined]
theorem piece_size (p : S29) : (piece p).size ≤ p.f1.size + 3 := by
  unfold piece
  split
  · simp only [ByteArray.size_append]
    have e1 : (⟨#[36, 123]⟩ : ByteArray).size = 2 := rfl
    have e2 : (⟨#[125]⟩ : ByteArray).size = 1 := rfl
    omega
  · omega
theorem joined_size (l : List S29) : (joined l).size ≤ room l := by
  rw [← List.reverse_reverse l]
  generalize l.reverse = m
  induction m with
  | nil => exact Nat.zero_le _
  | cons p m ih =>
    rw [List.reverse_cons, joined_snoc, ByteArray.size_append]
    have := piece_size p
    have e : room (m.reverse ++ [p]) = room m.reverse + (p.f1.size + 3) := by simp [room]
    omega
theorem room_take (l : List S29) (i : Nat) (h : i < l.length) : room (l.take i) + ((l[i]'h).f1.size + 3) ≤ room l := by
  have e : l = l.take i ++ l[i] :: l.drop (i + 1) := by rw [List.getElem_cons_drop, List.take_append_drop]
  have e2 : room l = room (l.take i) + ((l[i]'h).f1.size + 3 + room (l.drop (i + 1))) := by
    conv => lhs; rw [e]
    rw [room_app, room_cons]
  omega
theorem rd_take (l : List S29) (i : Nat) (h : i < l.length) : rd_T29 l (i : Int) = l[i]'h := by
  simp [rd_T29, List.getD, h]
end ExprJoin
def expr_Join.f (l0 : List S29) : Option ByteArray := if ExprJoin.room l0 ≤ 140737488355328 then some (ExprJoin.joined l0) else none
set_option maxHeartbeats 8000000 in
set_option maxRecDepth 100000 in
theorem expr_Join.calls (A0 : Option Addr) (c0 : Nat) (l0 : List S29) (r : ByteArray) (w : World) (hr0 : Kd.C k29 w A0 l0.length l0) (hc0 : l0.length ≤ c0) (hG : Glob w) (h : expr_Join.f l0 = some r) :
    Calls Try.prog 18 #[.slice A0 l0.length c0] w fun e w' => e = .returned (.string r) ∧ Below w.heap.size w w' := by
  unfold expr_Join.f at h
  split at h
  · rename_i hroom
    obtain rfl := Option.some.inj h
    have HR0 := Aside0.mk hr0
    have HRM := Aside0.mk hroom
    clear hr0 hroom h hG
    have hu := Try.underlying68
    have hup := Try.underlying29
    go_enter Try.func18, Try.ntmps18
    go_wp2_with (fail)
    have HF := Aside0.mk (Bld.Holds.fresh w)
    have HB0 := Aside0.mk ((Below.refl w.heap.size w).alloc (Nat.le_refl _) (.cells #[.pointer none, .slice none 0 0] 68))
    generalize w.alloc _ = wi at *
    go_loopg [8] l0.length (fun g v8 w' => ∃ i : Nat, i + g = l0.length ∧ v8 = .int .i64 i ∧ Aside0 (Bld.Holds w.heap.size w.heap.size (ExprJoin.joined (l0.take i)) w') ∧ Aside0 (Below w.heap.size w w'))
    case atStart => exact ⟨0, by omega, rfl, ⟨by rw [List.take_zero]; exact HF.out⟩, HB0⟩
    case round =>
      clear HF HB0
      obtain ⟨i, hig, rfl, HH, HB⟩ := hrel
      by_cases hi : i < l0.length
      · obtain ⟨g, rfl⟩ : ∃ g, gk = g + 1 := ⟨gk - 1, by omega⟩
        obtain ⟨ad, e, hx0, hx1⟩ := at_T29 (Kd.C_below HR0.out HB.out) (i : Int) (by omega) (by omega)
        cases e
        obtain ⟨p, hp⟩ : ∃ p, rd_T29 l0 (i : Int) = p := ⟨_, rfl⟩
        rw [hp] at hx0 hx1
        simp only [Int.toNat_natCast] at hx0 hx1
        have HP := Aside0.mk hp
        clear hp
        have d1 : decide ((i : Int) < (l0.length : Int)) = true := decide_eq_true (by omega)
        have d2 : (0 : Int) ≤ (i : Int) := by omega
        have hpi : p = l0[i]'hi := by rw [← HP.out]; exact ExprJoin.rd_take l0 i hi
        have hsz := ExprJoin.room_take l0 i hi
        rw [← hpi] at hsz
        have hj := ExprJoin.joined_size (l0.take i)
        have hrm := HRM.out
        have htk : ExprJoin.joined (l0.take (i + 1)) = ExprJoin.joined (l0.take i) ++ ExprJoin.piece p := by
          rw [List.take_succ_eq_append_getElem hi, ExprJoin.joined_snoc, hpi]
        have hps := ExprJoin.piece_size p
        have HT := Aside0.mk htk
        have hp1 : p.f1.size ≤ 140737488355328 := by omega
        have hib : (i : Int) ≤ 140737488355328 := by have := ExprJoin.room_len l0; omega
        have hq1 : (ExprJoin.joined (l0.take i)).size + (ExprJoin.piece p).size ≤ 140737488355328 := by omega
        have HQ := Aside0.mk hq1
        clear hpi hsz hj hrm htk hps hq1
        rcases hf : p.f0 with _ | _
        · have hpc : ExprJoin.piece p = p.f1 := by simp [ExprJoin.piece, hf]
          have HPC := Aside0.mk hpc
          clear hpc
          go_wp2_with (fail)
          have hb1 : Below wr.heap.size wr (wr.alloc (.cells #[.bool false, .string p.f1] 29)) := (Below.refl _ _).alloc (Nat.le_refl _) _
          refine ((HH.out.below hb1).write (by rw [← HPC.out]; exact HQ.out)).mono ?_
          rintro e w3 ⟨rfl, hh3, hb3⟩
          have HH3 := Aside0.mk hh3
          have HB3 := Aside0.mk (below_step HB.out hb1 |>.trans hb3)
          clear hh3 hb3 hb1
          go_wp2
          go_roundg g
          case measure => omega
          case rel => exact ⟨i + 1, by omega, by go_num, ⟨by rw [HT.out, HPC.out]; exact HH3.out⟩, HB3⟩
        · have hpc : ExprJoin.piece p = (⟨#[36, 123]⟩ : ByteArray) ++ p.f1 ++ (⟨#[125]⟩ : ByteArray) := by simp [ExprJoin.piece, hf]
          have HPC := Aside0.mk hpc
          clear hpc
          go_wp2_with (fail)
          have hb1 : Below wr.heap.size wr (wr.alloc (.cells #[.bool true, .string p.f1] 29)) := (Below.refl _ _).alloc (Nat.le_refl _) _
          refine ((HH.out.below hb1).write (by rw [← HPC.out]; exact HQ.out)).mono ?_
          rintro e w3 ⟨rfl, hh3, hb3⟩
          have HH3 := Aside0.mk hh3
          have HB3 := Aside0.mk (below_step HB.out hb1 |>.trans hb3)
          clear hh3 hb3 hb1
          go_wp2
          go_roundg g
          case measure => omega
          case rel => exact ⟨i + 1, by omega, by go_num, ⟨by rw [HT.out, HPC.out]; exact HH3.out⟩, HB3⟩
      · obtain rfl : i = l0.length := by omega
        go_wp2_with (fail)
        refine HH.out.string.mono ?_
        rintro e w3 ⟨rfl, hb3⟩
        go_wp2
        go_ret
        exact ⟨by first | rfl | simp, HB.out.trans (hb3.mono (Nat.le_refl _))⟩
  · exact absurd h (by simp)


end Go.Proofs.Ytmpdpfojiepdkaa.Q
