/- Texts put together: what functions of the program compute, and plain words about them. -/
import Derived.Test.YtgdjfcmmpjcaaaaDoorLawWordsShortM1
import Derived.Test.YtgdjfcmmpjcaaaaDoorLawWordsShortM3
import Derived.Test.YtgdjfcmmpjcaaaaDoorLawWordsShortM2
import Derived.Test.YtgdjfcmmpjcaaaaDoorProg
import Derived.Test.YtgdjfcmmpjcaaaaDoorRows
import Derived.ChangeArms
import Derived.Deep.DeepHandedRow
import Derived.Shelf.Vars
import Derived.Below
import Derived.Deep.Draws
import Derived.Deep.AppendLies
import Derived.Maps.AppendAt
import Derived.OwnWalk
import Derived.Laws.BytesArg
import Derived.Laws.MakeOwn
import Derived.Laws.OwnMore
import Derived.Deep.OwnRows
import Derived.Tactics
import Derived.Lib.ConvBytes
import Derived.Laws.Slices
import Derived.WalkKit
import Derived.KernelRfl
import Derived.RowKit3
import Derived.Deep.LoopGhost
import Derived.Deep.QuietTactic
import Derived.BigQuiet
import Derived.WideLaws
import Derived.Deep.DeepCutAuto
import Derived.Deep.CutBlock
import Derived.Deep.RegionHeld3
import Derived.Laws.Rows
import Derived.Lib.AppendStr
import Derived.ArgAppend
import Derived.Laws.IdiomCopy
import Derived.OrdersHeld
import Derived.Laws.BitsLemmas
import Derived.RowKit
import Derived.Lib.IndexMore
import Derived.Lib.IndexAny

-- Printed by this session's wip/np.py over the kit's print program. Not trusted: Lean checks it.
namespace Go.Proofs.YtgdjfcmmpjcaaaaDoor.Q
open Go.RowKit Go.Proofs.YtgdjfcmmpjcaaaaDoorW.PrintWords Go.Proofs.YtgdjfcmmpjcaaaaDoorW.PrintLast Go.Proofs.YtgdjfcmmpjcaaaaDoorW.Own Go.Proofs.YtgdjfcmmpjcaaaaDoorW.PrintMore
attribute [local go_sem] max2_int min2_int max_two min_two max_three min_three max_four min_four
set_option linter.unusedVariables false
set_option linter.unusedSimpArgs false

/-! ### newellaw05_WordsShort: function 8 -/
def newellaw05_WordsShort.f (k : Nat) (a0 : Int) (a1 : Int) : Option (Bool) := (some (([(⟨#[97]⟩ : ByteArray), (⟨#[98]⟩ : ByteArray), (⟨#[109]⟩ : ByteArray)] : List ByteArray) : List ByteArray)).bind fun y329 => ((some (([1, 2, 3] : List Int) : List Int)).bind fun y332 => ((newelhelp_Digits.f k (wrap64 (1 + (wrap64 (Int.tmod (IntKind.u64.wrap (a0)) 500))))).bind fun t335 => (if 0 ≤ (wrap64 (Int.tmod (IntKind.u64.wrap (a1)) 3)) then (if (wrap64 (Int.tmod (IntKind.u64.wrap (a1)) 3)) < (y329.length : Int) then (if 1 + (rdOf ByteArray.empty y329 (wrap64 (Int.tmod (IntKind.u64.wrap (a1)) 3))).size ≤ 9223372036854775807 then (if ((⟨#[49]⟩ : ByteArray) ++ (rdOf ByteArray.empty y329 (wrap64 (Int.tmod (IntKind.u64.wrap (a1)) 3)))).size + t335.size ≤ 9223372036854775807 then ((words_Split.f k (((⟨#[49]⟩ : ByteArray) ++ (rdOf ByteArray.empty y329 (wrap64 (Int.tmod (IntKind.u64.wrap (a1)) 3)))) ++ t335)).bind fun t337 => (if 2 + (rdOf ByteArray.empty y329 (wrap64 (Int.tmod (IntKind.u64.wrap (a1)) 3))).size ≤ 9223372036854775807 then (if ((⟨#[49, 45]⟩ : ByteArray) ++ (rdOf ByteArray.empty y329 (wrap64 (Int.tmod (IntKind.u64.wrap (a1)) 3)))).size + 1 ≤ 9223372036854775807 then (if (((⟨#[49, 45]⟩ : ByteArray) ++ (rdOf ByteArray.empty y329 (wrap64 (Int.tmod (IntKind.u64.wrap (a1)) 3)))) ++ (⟨#[45]⟩ : ByteArray)).size + t335.size ≤ 9223372036854775807 then ((words_Split.f k ((((⟨#[49, 45]⟩ : ByteArray) ++ (rdOf ByteArray.empty y329 (wrap64 (Int.tmod (IntKind.u64.wrap (a1)) 3)))) ++ (⟨#[45]⟩ : ByteArray)) ++ t335)).bind fun t341 => ((words_Split.f k ((⟨#[49]⟩ : ByteArray) ++ (rdOf ByteArray.empty y329 (wrap64 (Int.tmod (IntKind.u64.wrap (a1)) 3))))).bind fun t345 => ((newellaw05_awake.f k).bind fun t352 => (if t352 = true then (if (wrap64 (Int.tmod (IntKind.u64.wrap (a1)) 3)) < (y332.length : Int) then ((api_Word_30.f k t337 (([(⟨10, (⟨#[49]⟩ : ByteArray)⟩ : S38), (⟨rd y332 (wrap64 (Int.tmod (IntKind.u64.wrap (a1)) 3)), (⟨#[]⟩ : ByteArray)⟩ : S38), (⟨9, t335⟩ : S38)] : List (S38)))).bind fun t357 => (if t357 = true then ((api_Word_30.f k t341 (([(⟨10, (⟨#[49]⟩ : ByteArray)⟩ : S38), (⟨8, rdOf ByteArray.empty y329 (wrap64 (Int.tmod (IntKind.u64.wrap (a1)) 3))⟩ : S38), (⟨9, t335⟩ : S38)] : List (S38)))).bind fun t361 => (if t361 = true then ((api_Word_30.f k t345 (([(⟨10, (⟨#[49]⟩ : ByteArray)⟩ : S38), (⟨8, rdOf ByteArray.empty y329 (wrap64 (Int.tmod (IntKind.u64.wrap (a1)) 3))⟩ : S38)] : List (S38)))).bind fun t365 => (some t365)) else (some false))) else (some false))) else (none)) else (some false))))) else (none)) else (none)) else (none))) else (none)) else (none)) else (none)) else (none))))
theorem newellaw05_WordsShort.mono : ∀ a0 a1 k, LeO (newellaw05_WordsShort.f k a0 a1) (newellaw05_WordsShort.f (k + 1) a0 a1) := by
  intro a0 a1 k
  unfold newellaw05_WordsShort.f
  repeat' first
      | (with_reducible exact api_Word_30.mono _ _ _)
      | (with_reducible exact newelhelp_Digits.mono _ _)
      | (with_reducible exact newellaw05_awake.mono _)
      | (with_reducible exact words_Split.mono _ _)
      | (with_reducible exact LeO.refl _)
      | (with_reducible exact LeO.none _)
      | (with_reducible refine LeO.ite ?_ ?_)
      | (with_reducible refine LeO.bind ?_ (fun _ => ?_))
      | exact api_Word_30.mono _ _ _
      | exact newelhelp_Digits.mono _ _
      | exact newellaw05_awake.mono _
      | exact words_Split.mono _ _
      | exact LeO.none _
      | refine LeO.ite ?_ ?_
      | refine LeO.bind ?_ (fun _ => ?_)
def newellaw05_WordsShort.T12 : Bool × List (List Nat × List Nat) := (true, [([], []), ([0, 0], [0]), ([1], [1]), ([1], [1]), ([1], [1]), ([1], [1]), ([4, 5, 1], [1, 4, 5]), ([6, 1], [1, 6]), ([7, 1], [1, 7]), ([1], [1]), ([3, 8, 9, 1], [1, 3, 8, 9]), ([2, 10, 1, 1], [1, 2, 10]), ([1, 11], [1, 11]), ([12, 11], [12]), ([13], [13]), ([13], [13]), ([13], [13]), ([13], [13]), ([15, 16, 17, 13], [13, 15, 16, 17]), ([14, 18, 13, 13], [13, 14, 18]), ([13, 19], [13, 19]), ([20, 19], [20]), ([21], [21]), ([21], [21]), ([21], [21]), ([23, 24, 21], [21, 23, 24]), ([22, 25, 21, 21], [21, 22, 25]), ([21, 26], [21, 26]), ([27, 26, 0, 1, 2, 3, 4, 5, 6, 7, 8, 9, 10, 11, 12, 13, 14, 15, 16, 17, 18, 19, 20, 21, 22, 23, 24, 25, 26, 27], [27])])
def newellaw05_WordsShort.B12 : List Nat := [0, 1, 3, 3, 3, 3, 51, 115, 243, 3, 1019, 2047, 4095, 8191, 16383, 16383, 16383, 16383, 245759, 524287, 1048575, 2097151, 4194303, 4194303, 4194303, 29360127, 67108863, 134217727, 268435455]
theorem newellaw05_WordsShort.tab12 : rtab .any (opsOf Tryd.f8 12) = newellaw05_WordsShort.T12 := by kernel_rfl
theorem newellaw05_WordsShort.bits12 : waitsOk newellaw05_WordsShort.T12.2 newellaw05_WordsShort.B12 = true := by kernel_rfl
set_option maxHeartbeats 8000000 in
set_option maxRecDepth 100000 in
theorem newellaw05_WordsShort.calls (k : Nat) (a0 : Int) (a1 : Int) (r : Bool) (w : World) (hG : Glob w) (h : newellaw05_WordsShort.f k a0 a1 = some r) (hr_ : r = true) :
    Calls Tryd.prog 8 #[.int .i64 a0, .int .i64 a1] w fun e w' => e = .returned (.bool r) ∧ Below w.heap.size w w' := by
  have hu38 := Tryd.underlying38
  have HG := Aside0.mk hG
  clear hG
  have HB := Aside0.mk (Below.refl w.heap.size w)
  have H : ((some (([(⟨#[97]⟩ : ByteArray), (⟨#[98]⟩ : ByteArray), (⟨#[109]⟩ : ByteArray)] : List ByteArray) : List ByteArray)).bind fun y329 => ((some (([1, 2, 3] : List Int) : List Int)).bind fun y332 => ((newelhelp_Digits.f k (wrap64 (1 + (wrap64 (Int.tmod (IntKind.u64.wrap (a0)) 500))))).bind fun t335 => (if 0 ≤ (wrap64 (Int.tmod (IntKind.u64.wrap (a1)) 3)) then (if (wrap64 (Int.tmod (IntKind.u64.wrap (a1)) 3)) < (y329.length : Int) then (if 1 + (rdOf ByteArray.empty y329 (wrap64 (Int.tmod (IntKind.u64.wrap (a1)) 3))).size ≤ 9223372036854775807 then (if ((⟨#[49]⟩ : ByteArray) ++ (rdOf ByteArray.empty y329 (wrap64 (Int.tmod (IntKind.u64.wrap (a1)) 3)))).size + t335.size ≤ 9223372036854775807 then ((words_Split.f k (((⟨#[49]⟩ : ByteArray) ++ (rdOf ByteArray.empty y329 (wrap64 (Int.tmod (IntKind.u64.wrap (a1)) 3)))) ++ t335)).bind fun t337 => (if 2 + (rdOf ByteArray.empty y329 (wrap64 (Int.tmod (IntKind.u64.wrap (a1)) 3))).size ≤ 9223372036854775807 then (if ((⟨#[49, 45]⟩ : ByteArray) ++ (rdOf ByteArray.empty y329 (wrap64 (Int.tmod (IntKind.u64.wrap (a1)) 3)))).size + 1 ≤ 9223372036854775807 then (if (((⟨#[49, 45]⟩ : ByteArray) ++ (rdOf ByteArray.empty y329 (wrap64 (Int.tmod (IntKind.u64.wrap (a1)) 3)))) ++ (⟨#[45]⟩ : ByteArray)).size + t335.size ≤ 9223372036854775807 then ((words_Split.f k ((((⟨#[49, 45]⟩ : ByteArray) ++ (rdOf ByteArray.empty y329 (wrap64 (Int.tmod (IntKind.u64.wrap (a1)) 3)))) ++ (⟨#[45]⟩ : ByteArray)) ++ t335)).bind fun t341 => ((words_Split.f k ((⟨#[49]⟩ : ByteArray) ++ (rdOf ByteArray.empty y329 (wrap64 (Int.tmod (IntKind.u64.wrap (a1)) 3))))).bind fun t345 => ((newellaw05_awake.f k).bind fun t352 => (if t352 = true then (if (wrap64 (Int.tmod (IntKind.u64.wrap (a1)) 3)) < (y332.length : Int) then ((api_Word_30.f k t337 (([(⟨10, (⟨#[49]⟩ : ByteArray)⟩ : S38), (⟨rd y332 (wrap64 (Int.tmod (IntKind.u64.wrap (a1)) 3)), (⟨#[]⟩ : ByteArray)⟩ : S38), (⟨9, t335⟩ : S38)] : List (S38)))).bind fun t357 => (if t357 = true then ((api_Word_30.f k t341 (([(⟨10, (⟨#[49]⟩ : ByteArray)⟩ : S38), (⟨8, rdOf ByteArray.empty y329 (wrap64 (Int.tmod (IntKind.u64.wrap (a1)) 3))⟩ : S38), (⟨9, t335⟩ : S38)] : List (S38)))).bind fun t361 => (if t361 = true then ((api_Word_30.f k t345 (([(⟨10, (⟨#[49]⟩ : ByteArray)⟩ : S38), (⟨8, rdOf ByteArray.empty y329 (wrap64 (Int.tmod (IntKind.u64.wrap (a1)) 3))⟩ : S38)] : List (S38)))).bind fun t365 => (some t365)) else (some false))) else (some false))) else (none)) else (some false))))) else (none)) else (none)) else (none))) else (none)) else (none)) else (none)) else (none))))) = some r := h
  clear h
  obtain ⟨y329, hy329⟩ : ∃ y_ : List ByteArray, y_ = (([(⟨#[97]⟩ : ByteArray), (⟨#[98]⟩ : ByteArray), (⟨#[109]⟩ : ByteArray)] : List ByteArray)) := ⟨_, rfl⟩
  replace H : ((some (([1, 2, 3] : List Int) : List Int)).bind fun y332 => ((newelhelp_Digits.f k (wrap64 (1 + (wrap64 (Int.tmod (IntKind.u64.wrap (a0)) 500))))).bind fun t335 => (if 0 ≤ (wrap64 (Int.tmod (IntKind.u64.wrap (a1)) 3)) then (if (wrap64 (Int.tmod (IntKind.u64.wrap (a1)) 3)) < (y329.length : Int) then (if 1 + (rdOf ByteArray.empty y329 (wrap64 (Int.tmod (IntKind.u64.wrap (a1)) 3))).size ≤ 9223372036854775807 then (if ((⟨#[49]⟩ : ByteArray) ++ (rdOf ByteArray.empty y329 (wrap64 (Int.tmod (IntKind.u64.wrap (a1)) 3)))).size + t335.size ≤ 9223372036854775807 then ((words_Split.f k (((⟨#[49]⟩ : ByteArray) ++ (rdOf ByteArray.empty y329 (wrap64 (Int.tmod (IntKind.u64.wrap (a1)) 3)))) ++ t335)).bind fun t337 => (if 2 + (rdOf ByteArray.empty y329 (wrap64 (Int.tmod (IntKind.u64.wrap (a1)) 3))).size ≤ 9223372036854775807 then (if ((⟨#[49, 45]⟩ : ByteArray) ++ (rdOf ByteArray.empty y329 (wrap64 (Int.tmod (IntKind.u64.wrap (a1)) 3)))).size + 1 ≤ 9223372036854775807 then (if (((⟨#[49, 45]⟩ : ByteArray) ++ (rdOf ByteArray.empty y329 (wrap64 (Int.tmod (IntKind.u64.wrap (a1)) 3)))) ++ (⟨#[45]⟩ : ByteArray)).size + t335.size ≤ 9223372036854775807 then ((words_Split.f k ((((⟨#[49, 45]⟩ : ByteArray) ++ (rdOf ByteArray.empty y329 (wrap64 (Int.tmod (IntKind.u64.wrap (a1)) 3)))) ++ (⟨#[45]⟩ : ByteArray)) ++ t335)).bind fun t341 => ((words_Split.f k ((⟨#[49]⟩ : ByteArray) ++ (rdOf ByteArray.empty y329 (wrap64 (Int.tmod (IntKind.u64.wrap (a1)) 3))))).bind fun t345 => ((newellaw05_awake.f k).bind fun t352 => (if t352 = true then (if (wrap64 (Int.tmod (IntKind.u64.wrap (a1)) 3)) < (y332.length : Int) then ((api_Word_30.f k t337 (([(⟨10, (⟨#[49]⟩ : ByteArray)⟩ : S38), (⟨rd y332 (wrap64 (Int.tmod (IntKind.u64.wrap (a1)) 3)), (⟨#[]⟩ : ByteArray)⟩ : S38), (⟨9, t335⟩ : S38)] : List (S38)))).bind fun t357 => (if t357 = true then ((api_Word_30.f k t341 (([(⟨10, (⟨#[49]⟩ : ByteArray)⟩ : S38), (⟨8, rdOf ByteArray.empty y329 (wrap64 (Int.tmod (IntKind.u64.wrap (a1)) 3))⟩ : S38), (⟨9, t335⟩ : S38)] : List (S38)))).bind fun t361 => (if t361 = true then ((api_Word_30.f k t345 (([(⟨10, (⟨#[49]⟩ : ByteArray)⟩ : S38), (⟨8, rdOf ByteArray.empty y329 (wrap64 (Int.tmod (IntKind.u64.wrap (a1)) 3))⟩ : S38)] : List (S38)))).bind fun t365 => (some t365)) else (some false))) else (some false))) else (none)) else (some false))))) else (none)) else (none)) else (none))) else (none)) else (none)) else (none)) else (none)))) = some r := by first | (rw [hy329]; with_reducible exact H) | (have H2_ := (Option.bind_some _ _).symm.trans H; rw [hy329]; with_reducible exact H2_) | (have H2_ := (Option.bind_some _ _).symm.trans H; with_reducible exact H2_) | with_reducible exact H | (rw [hy329]; exact H) | exact H
  have Ny329 := Aside0.mk hy329
  clear hy329
  obtain ⟨y332, hy332⟩ : ∃ y_ : List Int, y_ = (([1, 2, 3] : List Int)) := ⟨_, rfl⟩
  replace H : ((newelhelp_Digits.f k (wrap64 (1 + (wrap64 (Int.tmod (IntKind.u64.wrap (a0)) 500))))).bind fun t335 => (if 0 ≤ (wrap64 (Int.tmod (IntKind.u64.wrap (a1)) 3)) then (if (wrap64 (Int.tmod (IntKind.u64.wrap (a1)) 3)) < (y329.length : Int) then (if 1 + (rdOf ByteArray.empty y329 (wrap64 (Int.tmod (IntKind.u64.wrap (a1)) 3))).size ≤ 9223372036854775807 then (if ((⟨#[49]⟩ : ByteArray) ++ (rdOf ByteArray.empty y329 (wrap64 (Int.tmod (IntKind.u64.wrap (a1)) 3)))).size + t335.size ≤ 9223372036854775807 then ((words_Split.f k (((⟨#[49]⟩ : ByteArray) ++ (rdOf ByteArray.empty y329 (wrap64 (Int.tmod (IntKind.u64.wrap (a1)) 3)))) ++ t335)).bind fun t337 => (if 2 + (rdOf ByteArray.empty y329 (wrap64 (Int.tmod (IntKind.u64.wrap (a1)) 3))).size ≤ 9223372036854775807 then (if ((⟨#[49, 45]⟩ : ByteArray) ++ (rdOf ByteArray.empty y329 (wrap64 (Int.tmod (IntKind.u64.wrap (a1)) 3)))).size + 1 ≤ 9223372036854775807 then (if (((⟨#[49, 45]⟩ : ByteArray) ++ (rdOf ByteArray.empty y329 (wrap64 (Int.tmod (IntKind.u64.wrap (a1)) 3)))) ++ (⟨#[45]⟩ : ByteArray)).size + t335.size ≤ 9223372036854775807 then ((words_Split.f k ((((⟨#[49, 45]⟩ : ByteArray) ++ (rdOf ByteArray.empty y329 (wrap64 (Int.tmod (IntKind.u64.wrap (a1)) 3)))) ++ (⟨#[45]⟩ : ByteArray)) ++ t335)).bind fun t341 => ((words_Split.f k ((⟨#[49]⟩ : ByteArray) ++ (rdOf ByteArray.empty y329 (wrap64 (Int.tmod (IntKind.u64.wrap (a1)) 3))))).bind fun t345 => ((newellaw05_awake.f k).bind fun t352 => (if t352 = true then (if (wrap64 (Int.tmod (IntKind.u64.wrap (a1)) 3)) < (y332.length : Int) then ((api_Word_30.f k t337 (([(⟨10, (⟨#[49]⟩ : ByteArray)⟩ : S38), (⟨rd y332 (wrap64 (Int.tmod (IntKind.u64.wrap (a1)) 3)), (⟨#[]⟩ : ByteArray)⟩ : S38), (⟨9, t335⟩ : S38)] : List (S38)))).bind fun t357 => (if t357 = true then ((api_Word_30.f k t341 (([(⟨10, (⟨#[49]⟩ : ByteArray)⟩ : S38), (⟨8, rdOf ByteArray.empty y329 (wrap64 (Int.tmod (IntKind.u64.wrap (a1)) 3))⟩ : S38), (⟨9, t335⟩ : S38)] : List (S38)))).bind fun t361 => (if t361 = true then ((api_Word_30.f k t345 (([(⟨10, (⟨#[49]⟩ : ByteArray)⟩ : S38), (⟨8, rdOf ByteArray.empty y329 (wrap64 (Int.tmod (IntKind.u64.wrap (a1)) 3))⟩ : S38)] : List (S38)))).bind fun t365 => (some t365)) else (some false))) else (some false))) else (none)) else (some false))))) else (none)) else (none)) else (none))) else (none)) else (none)) else (none)) else (none))) = some r := by first | (rw [hy332]; with_reducible exact H) | (have H2_ := (Option.bind_some _ _).symm.trans H; rw [hy332]; with_reducible exact H2_) | (have H2_ := (Option.bind_some _ _).symm.trans H; with_reducible exact H2_) | with_reducible exact H | (rw [hy332]; exact H) | exact H
  have Ny332 := Aside0.mk hy332
  clear hy332
  replace H := Option.bind_eq_some_iff.mp H
  obtain ⟨t335, A30, H⟩ := H
  replace H : (if 0 ≤ (wrap64 (Int.tmod (IntKind.u64.wrap (a1)) 3)) then (if (wrap64 (Int.tmod (IntKind.u64.wrap (a1)) 3)) < (y329.length : Int) then (if 1 + (rdOf ByteArray.empty y329 (wrap64 (Int.tmod (IntKind.u64.wrap (a1)) 3))).size ≤ 9223372036854775807 then (if ((⟨#[49]⟩ : ByteArray) ++ (rdOf ByteArray.empty y329 (wrap64 (Int.tmod (IntKind.u64.wrap (a1)) 3)))).size + t335.size ≤ 9223372036854775807 then ((words_Split.f k (((⟨#[49]⟩ : ByteArray) ++ (rdOf ByteArray.empty y329 (wrap64 (Int.tmod (IntKind.u64.wrap (a1)) 3)))) ++ t335)).bind fun t337 => (if 2 + (rdOf ByteArray.empty y329 (wrap64 (Int.tmod (IntKind.u64.wrap (a1)) 3))).size ≤ 9223372036854775807 then (if ((⟨#[49, 45]⟩ : ByteArray) ++ (rdOf ByteArray.empty y329 (wrap64 (Int.tmod (IntKind.u64.wrap (a1)) 3)))).size + 1 ≤ 9223372036854775807 then (if (((⟨#[49, 45]⟩ : ByteArray) ++ (rdOf ByteArray.empty y329 (wrap64 (Int.tmod (IntKind.u64.wrap (a1)) 3)))) ++ (⟨#[45]⟩ : ByteArray)).size + t335.size ≤ 9223372036854775807 then ((words_Split.f k ((((⟨#[49, 45]⟩ : ByteArray) ++ (rdOf ByteArray.empty y329 (wrap64 (Int.tmod (IntKind.u64.wrap (a1)) 3)))) ++ (⟨#[45]⟩ : ByteArray)) ++ t335)).bind fun t341 => ((words_Split.f k ((⟨#[49]⟩ : ByteArray) ++ (rdOf ByteArray.empty y329 (wrap64 (Int.tmod (IntKind.u64.wrap (a1)) 3))))).bind fun t345 => ((newellaw05_awake.f k).bind fun t352 => (if t352 = true then (if (wrap64 (Int.tmod (IntKind.u64.wrap (a1)) 3)) < (y332.length : Int) then ((api_Word_30.f k t337 (([(⟨10, (⟨#[49]⟩ : ByteArray)⟩ : S38), (⟨rd y332 (wrap64 (Int.tmod (IntKind.u64.wrap (a1)) 3)), (⟨#[]⟩ : ByteArray)⟩ : S38), (⟨9, t335⟩ : S38)] : List (S38)))).bind fun t357 => (if t357 = true then ((api_Word_30.f k t341 (([(⟨10, (⟨#[49]⟩ : ByteArray)⟩ : S38), (⟨8, rdOf ByteArray.empty y329 (wrap64 (Int.tmod (IntKind.u64.wrap (a1)) 3))⟩ : S38), (⟨9, t335⟩ : S38)] : List (S38)))).bind fun t361 => (if t361 = true then ((api_Word_30.f k t345 (([(⟨10, (⟨#[49]⟩ : ByteArray)⟩ : S38), (⟨8, rdOf ByteArray.empty y329 (wrap64 (Int.tmod (IntKind.u64.wrap (a1)) 3))⟩ : S38)] : List (S38)))).bind fun t365 => (some t365)) else (some false))) else (some false))) else (none)) else (some false))))) else (none)) else (none)) else (none))) else (none)) else (none)) else (none)) else (none)) = some r := H
  have A3 := Aside0.mk A30
  clear A30
  obtain ⟨ji4, hji4⟩ : ∃ j_ : Int, (wrap64 (Int.tmod (IntKind.u64.wrap (a1)) 3)) = j_ := ⟨_, rfl⟩
  replace H : (if 0 ≤ (ji4) then (if (ji4) < (y329.length : Int) then (if 1 + (rdOf ByteArray.empty y329 (ji4)).size ≤ 9223372036854775807 then (if ((⟨#[49]⟩ : ByteArray) ++ (rdOf ByteArray.empty y329 (ji4))).size + t335.size ≤ 9223372036854775807 then ((words_Split.f k (((⟨#[49]⟩ : ByteArray) ++ (rdOf ByteArray.empty y329 (ji4))) ++ t335)).bind fun t337 => (if 2 + (rdOf ByteArray.empty y329 (ji4)).size ≤ 9223372036854775807 then (if ((⟨#[49, 45]⟩ : ByteArray) ++ (rdOf ByteArray.empty y329 (ji4))).size + 1 ≤ 9223372036854775807 then (if (((⟨#[49, 45]⟩ : ByteArray) ++ (rdOf ByteArray.empty y329 (ji4))) ++ (⟨#[45]⟩ : ByteArray)).size + t335.size ≤ 9223372036854775807 then ((words_Split.f k ((((⟨#[49, 45]⟩ : ByteArray) ++ (rdOf ByteArray.empty y329 (ji4))) ++ (⟨#[45]⟩ : ByteArray)) ++ t335)).bind fun t341 => ((words_Split.f k ((⟨#[49]⟩ : ByteArray) ++ (rdOf ByteArray.empty y329 (ji4)))).bind fun t345 => ((newellaw05_awake.f k).bind fun t352 => (if t352 = true then (if (ji4) < (y332.length : Int) then ((api_Word_30.f k t337 (([(⟨10, (⟨#[49]⟩ : ByteArray)⟩ : S38), (⟨rd y332 (ji4), (⟨#[]⟩ : ByteArray)⟩ : S38), (⟨9, t335⟩ : S38)] : List (S38)))).bind fun t357 => (if t357 = true then ((api_Word_30.f k t341 (([(⟨10, (⟨#[49]⟩ : ByteArray)⟩ : S38), (⟨8, rdOf ByteArray.empty y329 (ji4)⟩ : S38), (⟨9, t335⟩ : S38)] : List (S38)))).bind fun t361 => (if t361 = true then ((api_Word_30.f k t345 (([(⟨10, (⟨#[49]⟩ : ByteArray)⟩ : S38), (⟨8, rdOf ByteArray.empty y329 (ji4)⟩ : S38)] : List (S38)))).bind fun t365 => (some t365)) else (some false))) else (some false))) else (none)) else (some false))))) else (none)) else (none)) else (none))) else (none)) else (none)) else (none)) else (none)) = some r := by first | (rw [hji4] at H; exact H) | (simp only [hji4] at H ⊢; exact H)
  (try rw [hji4] at A3)
  have hji4w : (IntKind.i64.wrap (Int.tmod (IntKind.u64.wrap (a1)) 3)) = ji4 := (i64_w _).trans hji4
  by_cases c5 : 0 ≤ (ji4)
  · rw [if_pos c5] at H
    have c5b0 : decide (0 ≤ (ji4)) = true := decide_eq_true c5
    clear c5
    by_cases c6 : (ji4) < (y329.length : Int)
    · rw [if_pos c6] at H
      have c6b0 : decide ((ji4) < (y329.length : Int)) = true := decide_eq_true c6
      clear c6
      by_cases c7 : 1 + (rdOf ByteArray.empty y329 (ji4)).size ≤ 9223372036854775807
      · rw [if_pos c7] at H
        have c7b0 := eq_true c7
        have c7b1 : decide (1 + (rdOf ByteArray.empty y329 (ji4)).size ≤ 9223372036854775807) = true := decide_eq_true c7
        try have c7b2 : (9223372036854775807 < 1 + (rdOf ByteArray.empty y329 (ji4)).size) = False := eq_false (Nat.not_lt.2 c7)
        by_cases c8 : ((⟨#[49]⟩ : ByteArray) ++ (rdOf ByteArray.empty y329 (ji4))).size + t335.size ≤ 9223372036854775807
        · rw [if_pos c8] at H
          have c8b0 := eq_true c8
          have c8b1 : decide (((⟨#[49]⟩ : ByteArray) ++ (rdOf ByteArray.empty y329 (ji4))).size + t335.size ≤ 9223372036854775807) = true := decide_eq_true c8
          try have c8b2 : (9223372036854775807 < ((⟨#[49]⟩ : ByteArray) ++ (rdOf ByteArray.empty y329 (ji4))).size + t335.size) = False := eq_false (Nat.not_lt.2 c8)
          have c8n : (1 + (rdOf ByteArray.empty y329 (ji4)).size) + t335.size ≤ 9223372036854775807 := by have z_ := c8; simp only [ByteArray.size_append] at z_; exact z_
          have c8m : (9223372036854775807 < (1 + (rdOf ByteArray.empty y329 (ji4)).size) + t335.size) = False := eq_false (Nat.not_lt.2 c8n)
          clear c8 c8b0 c8b1
          try clear c8b2
          replace H := Option.bind_eq_some_iff.mp H
          obtain ⟨t337, A90, H⟩ := H
          replace H : (if 2 + (rdOf ByteArray.empty y329 (ji4)).size ≤ 9223372036854775807 then (if ((⟨#[49, 45]⟩ : ByteArray) ++ (rdOf ByteArray.empty y329 (ji4))).size + 1 ≤ 9223372036854775807 then (if (((⟨#[49, 45]⟩ : ByteArray) ++ (rdOf ByteArray.empty y329 (ji4))) ++ (⟨#[45]⟩ : ByteArray)).size + t335.size ≤ 9223372036854775807 then ((words_Split.f k ((((⟨#[49, 45]⟩ : ByteArray) ++ (rdOf ByteArray.empty y329 (ji4))) ++ (⟨#[45]⟩ : ByteArray)) ++ t335)).bind fun t341 => ((words_Split.f k ((⟨#[49]⟩ : ByteArray) ++ (rdOf ByteArray.empty y329 (ji4)))).bind fun t345 => ((newellaw05_awake.f k).bind fun t352 => (if t352 = true then (if (ji4) < (y332.length : Int) then ((api_Word_30.f k t337 (([(⟨10, (⟨#[49]⟩ : ByteArray)⟩ : S38), (⟨rd y332 (ji4), (⟨#[]⟩ : ByteArray)⟩ : S38), (⟨9, t335⟩ : S38)] : List (S38)))).bind fun t357 => (if t357 = true then ((api_Word_30.f k t341 (([(⟨10, (⟨#[49]⟩ : ByteArray)⟩ : S38), (⟨8, rdOf ByteArray.empty y329 (ji4)⟩ : S38), (⟨9, t335⟩ : S38)] : List (S38)))).bind fun t361 => (if t361 = true then ((api_Word_30.f k t345 (([(⟨10, (⟨#[49]⟩ : ByteArray)⟩ : S38), (⟨8, rdOf ByteArray.empty y329 (ji4)⟩ : S38)] : List (S38)))).bind fun t365 => (some t365)) else (some false))) else (some false))) else (none)) else (some false))))) else (none)) else (none)) else (none)) = some r := H
          have A9 := Aside0.mk A90
          clear A90
          by_cases c10 : 2 + (rdOf ByteArray.empty y329 (ji4)).size ≤ 9223372036854775807
          · rw [if_pos c10] at H
            have c10b0 := eq_true c10
            have c10b1 : decide (2 + (rdOf ByteArray.empty y329 (ji4)).size ≤ 9223372036854775807) = true := decide_eq_true c10
            try have c10b2 : (9223372036854775807 < 2 + (rdOf ByteArray.empty y329 (ji4)).size) = False := eq_false (Nat.not_lt.2 c10)
            by_cases c11 : ((⟨#[49, 45]⟩ : ByteArray) ++ (rdOf ByteArray.empty y329 (ji4))).size + 1 ≤ 9223372036854775807
            · rw [if_pos c11] at H
              have c11b0 := eq_true c11
              have c11b1 : decide (((⟨#[49, 45]⟩ : ByteArray) ++ (rdOf ByteArray.empty y329 (ji4))).size + 1 ≤ 9223372036854775807) = true := decide_eq_true c11
              try have c11b2 : (9223372036854775807 < ((⟨#[49, 45]⟩ : ByteArray) ++ (rdOf ByteArray.empty y329 (ji4))).size + 1) = False := eq_false (Nat.not_lt.2 c11)
              have c11n : (2 + (rdOf ByteArray.empty y329 (ji4)).size) + 1 ≤ 9223372036854775807 := by have z_ := c11; simp only [ByteArray.size_append] at z_; exact z_
              have c11m : (9223372036854775807 < (2 + (rdOf ByteArray.empty y329 (ji4)).size) + 1) = False := eq_false (Nat.not_lt.2 c11n)
              clear c11 c11b0 c11b1
              try clear c11b2
              by_cases c12 : (((⟨#[49, 45]⟩ : ByteArray) ++ (rdOf ByteArray.empty y329 (ji4))) ++ (⟨#[45]⟩ : ByteArray)).size + t335.size ≤ 9223372036854775807
              · rw [if_pos c12] at H
                have c12b0 := eq_true c12
                have c12b1 : decide ((((⟨#[49, 45]⟩ : ByteArray) ++ (rdOf ByteArray.empty y329 (ji4))) ++ (⟨#[45]⟩ : ByteArray)).size + t335.size ≤ 9223372036854775807) = true := decide_eq_true c12
                try have c12b2 : (9223372036854775807 < (((⟨#[49, 45]⟩ : ByteArray) ++ (rdOf ByteArray.empty y329 (ji4))) ++ (⟨#[45]⟩ : ByteArray)).size + t335.size) = False := eq_false (Nat.not_lt.2 c12)
                have c12n : ((2 + (rdOf ByteArray.empty y329 (ji4)).size) + 1) + t335.size ≤ 9223372036854775807 := by have z_ := c12; simp only [ByteArray.size_append] at z_; exact z_
                have c12m : (9223372036854775807 < ((2 + (rdOf ByteArray.empty y329 (ji4)).size) + 1) + t335.size) = False := eq_false (Nat.not_lt.2 c12n)
                clear c12 c12b0 c12b1
                try clear c12b2
                replace H := Option.bind_eq_some_iff.mp H
                obtain ⟨t341, A130, H⟩ := H
                replace H : ((words_Split.f k ((⟨#[49]⟩ : ByteArray) ++ (rdOf ByteArray.empty y329 (ji4)))).bind fun t345 => ((newellaw05_awake.f k).bind fun t352 => (if t352 = true then (if (ji4) < (y332.length : Int) then ((api_Word_30.f k t337 (([(⟨10, (⟨#[49]⟩ : ByteArray)⟩ : S38), (⟨rd y332 (ji4), (⟨#[]⟩ : ByteArray)⟩ : S38), (⟨9, t335⟩ : S38)] : List (S38)))).bind fun t357 => (if t357 = true then ((api_Word_30.f k t341 (([(⟨10, (⟨#[49]⟩ : ByteArray)⟩ : S38), (⟨8, rdOf ByteArray.empty y329 (ji4)⟩ : S38), (⟨9, t335⟩ : S38)] : List (S38)))).bind fun t361 => (if t361 = true then ((api_Word_30.f k t345 (([(⟨10, (⟨#[49]⟩ : ByteArray)⟩ : S38), (⟨8, rdOf ByteArray.empty y329 (ji4)⟩ : S38)] : List (S38)))).bind fun t365 => (some t365)) else (some false))) else (some false))) else (none)) else (some false)))) = some r := H
                have A13 := Aside0.mk A130
                clear A130
                replace H := Option.bind_eq_some_iff.mp H
                obtain ⟨t345, A140, H⟩ := H
                replace H : ((newellaw05_awake.f k).bind fun t352 => (if t352 = true then (if (ji4) < (y332.length : Int) then ((api_Word_30.f k t337 (([(⟨10, (⟨#[49]⟩ : ByteArray)⟩ : S38), (⟨rd y332 (ji4), (⟨#[]⟩ : ByteArray)⟩ : S38), (⟨9, t335⟩ : S38)] : List (S38)))).bind fun t357 => (if t357 = true then ((api_Word_30.f k t341 (([(⟨10, (⟨#[49]⟩ : ByteArray)⟩ : S38), (⟨8, rdOf ByteArray.empty y329 (ji4)⟩ : S38), (⟨9, t335⟩ : S38)] : List (S38)))).bind fun t361 => (if t361 = true then ((api_Word_30.f k t345 (([(⟨10, (⟨#[49]⟩ : ByteArray)⟩ : S38), (⟨8, rdOf ByteArray.empty y329 (ji4)⟩ : S38)] : List (S38)))).bind fun t365 => (some t365)) else (some false))) else (some false))) else (none)) else (some false))) = some r := H
                have A14 := Aside0.mk A140
                clear A140
                replace H := Option.bind_eq_some_iff.mp H
                obtain ⟨t352, A150, H⟩ := H
                replace H : (if t352 = true then (if (ji4) < (y332.length : Int) then ((api_Word_30.f k t337 (([(⟨10, (⟨#[49]⟩ : ByteArray)⟩ : S38), (⟨rd y332 (ji4), (⟨#[]⟩ : ByteArray)⟩ : S38), (⟨9, t335⟩ : S38)] : List (S38)))).bind fun t357 => (if t357 = true then ((api_Word_30.f k t341 (([(⟨10, (⟨#[49]⟩ : ByteArray)⟩ : S38), (⟨8, rdOf ByteArray.empty y329 (ji4)⟩ : S38), (⟨9, t335⟩ : S38)] : List (S38)))).bind fun t361 => (if t361 = true then ((api_Word_30.f k t345 (([(⟨10, (⟨#[49]⟩ : ByteArray)⟩ : S38), (⟨8, rdOf ByteArray.empty y329 (ji4)⟩ : S38)] : List (S38)))).bind fun t365 => (some t365)) else (some false))) else (some false))) else (none)) else (some false)) = some r := H
                have A15 := Aside0.mk A150
                clear A150
                by_cases c16 : t352 = true
                · subst c16
                  have H1 : (if (ji4) < (y332.length : Int) then ((api_Word_30.f k t337 (([(⟨10, (⟨#[49]⟩ : ByteArray)⟩ : S38), (⟨rd y332 (ji4), (⟨#[]⟩ : ByteArray)⟩ : S38), (⟨9, t335⟩ : S38)] : List (S38)))).bind fun t357 => (if t357 = true then ((api_Word_30.f k t341 (([(⟨10, (⟨#[49]⟩ : ByteArray)⟩ : S38), (⟨8, rdOf ByteArray.empty y329 (ji4)⟩ : S38), (⟨9, t335⟩ : S38)] : List (S38)))).bind fun t361 => (if t361 = true then ((api_Word_30.f k t345 (([(⟨10, (⟨#[49]⟩ : ByteArray)⟩ : S38), (⟨8, rdOf ByteArray.empty y329 (ji4)⟩ : S38)] : List (S38)))).bind fun t365 => (some t365)) else (some false))) else (some false))) else (none)) = some r := by rw [if_pos rfl] at H; exact H
                  clear H
                  have H := H1
                  clear H1
                  by_cases c17 : (ji4) < (y332.length : Int)
                  · rw [if_pos c17] at H
                    have c17b0 : decide ((ji4) < (y332.length : Int)) = true := decide_eq_true c17
                    clear c17
                    obtain ⟨y354, hy354⟩ : ∃ y_ : List (S38), y_ = (([(⟨10, (⟨#[49]⟩ : ByteArray)⟩ : S38), (⟨rd y332 (ji4), (⟨#[]⟩ : ByteArray)⟩ : S38), (⟨9, t335⟩ : S38)] : List (S38))) := ⟨_, rfl⟩
                    replace H : ((api_Word_30.f k t337 y354).bind fun t357 => (if t357 = true then ((api_Word_30.f k t341 (([(⟨10, (⟨#[49]⟩ : ByteArray)⟩ : S38), (⟨8, rdOf ByteArray.empty y329 (ji4)⟩ : S38), (⟨9, t335⟩ : S38)] : List (S38)))).bind fun t361 => (if t361 = true then ((api_Word_30.f k t345 (([(⟨10, (⟨#[49]⟩ : ByteArray)⟩ : S38), (⟨8, rdOf ByteArray.empty y329 (ji4)⟩ : S38)] : List (S38)))).bind fun t365 => (some t365)) else (some false))) else (some false))) = some r := by first | (rw [hy354]; with_reducible exact H) | (have H2_ := (Option.bind_some _ _).symm.trans H; rw [hy354]; with_reducible exact H2_) | (have H2_ := (Option.bind_some _ _).symm.trans H; with_reducible exact H2_) | with_reducible exact H | (rw [hy354]; exact H) | exact H
                    have Ny354 := Aside0.mk hy354
                    clear hy354
                    replace H := Option.bind_eq_some_iff.mp H
                    obtain ⟨t357, A180, H⟩ := H
                    replace H : (if t357 = true then ((api_Word_30.f k t341 (([(⟨10, (⟨#[49]⟩ : ByteArray)⟩ : S38), (⟨8, rdOf ByteArray.empty y329 (ji4)⟩ : S38), (⟨9, t335⟩ : S38)] : List (S38)))).bind fun t361 => (if t361 = true then ((api_Word_30.f k t345 (([(⟨10, (⟨#[49]⟩ : ByteArray)⟩ : S38), (⟨8, rdOf ByteArray.empty y329 (ji4)⟩ : S38)] : List (S38)))).bind fun t365 => (some t365)) else (some false))) else (some false)) = some r := H
                    have A18 := Aside0.mk A180
                    clear A180
                    by_cases c19 : t357 = true
                    · subst c19
                      have H1 : ((api_Word_30.f k t341 (([(⟨10, (⟨#[49]⟩ : ByteArray)⟩ : S38), (⟨8, rdOf ByteArray.empty y329 (ji4)⟩ : S38), (⟨9, t335⟩ : S38)] : List (S38)))).bind fun t361 => (if t361 = true then ((api_Word_30.f k t345 (([(⟨10, (⟨#[49]⟩ : ByteArray)⟩ : S38), (⟨8, rdOf ByteArray.empty y329 (ji4)⟩ : S38)] : List (S38)))).bind fun t365 => (some t365)) else (some false))) = some r := by rw [if_pos rfl] at H; exact H
                      clear H
                      have H := H1
                      clear H1
                      obtain ⟨y358, hy358⟩ : ∃ y_ : List (S38), y_ = (([(⟨10, (⟨#[49]⟩ : ByteArray)⟩ : S38), (⟨8, rdOf ByteArray.empty y329 (ji4)⟩ : S38), (⟨9, t335⟩ : S38)] : List (S38))) := ⟨_, rfl⟩
                      replace H : ((api_Word_30.f k t341 y358).bind fun t361 => (if t361 = true then ((api_Word_30.f k t345 (([(⟨10, (⟨#[49]⟩ : ByteArray)⟩ : S38), (⟨8, rdOf ByteArray.empty y329 (ji4)⟩ : S38)] : List (S38)))).bind fun t365 => (some t365)) else (some false))) = some r := by first | (rw [hy358]; with_reducible exact H) | (have H2_ := (Option.bind_some _ _).symm.trans H; rw [hy358]; with_reducible exact H2_) | (have H2_ := (Option.bind_some _ _).symm.trans H; with_reducible exact H2_) | with_reducible exact H | (rw [hy358]; exact H) | exact H
                      have Ny358 := Aside0.mk hy358
                      clear hy358
                      replace H := Option.bind_eq_some_iff.mp H
                      obtain ⟨t361, A200, H⟩ := H
                      replace H : (if t361 = true then ((api_Word_30.f k t345 (([(⟨10, (⟨#[49]⟩ : ByteArray)⟩ : S38), (⟨8, rdOf ByteArray.empty y329 (ji4)⟩ : S38)] : List (S38)))).bind fun t365 => (some t365)) else (some false)) = some r := H
                      have A20 := Aside0.mk A200
                      clear A200
                      by_cases c21 : t361 = true
                      · subst c21
                        have H1 : ((api_Word_30.f k t345 (([(⟨10, (⟨#[49]⟩ : ByteArray)⟩ : S38), (⟨8, rdOf ByteArray.empty y329 (ji4)⟩ : S38)] : List (S38)))).bind fun t365 => (some t365)) = some r := by rw [if_pos rfl] at H; exact H
                        clear H
                        have H := H1
                        clear H1
                        obtain ⟨y362, hy362⟩ : ∃ y_ : List (S38), y_ = (([(⟨10, (⟨#[49]⟩ : ByteArray)⟩ : S38), (⟨8, rdOf ByteArray.empty y329 (ji4)⟩ : S38)] : List (S38))) := ⟨_, rfl⟩
                        replace H : ((api_Word_30.f k t345 y362).bind fun t365 => (some t365)) = some r := by first | (rw [hy362]; with_reducible exact H) | (have H2_ := (Option.bind_some _ _).symm.trans H; rw [hy362]; with_reducible exact H2_) | (have H2_ := (Option.bind_some _ _).symm.trans H; with_reducible exact H2_) | with_reducible exact H | (rw [hy362]; exact H) | exact H
                        have Ny362 := Aside0.mk hy362
                        clear hy362
                        replace H := Option.bind_eq_some_iff.mp H
                        obtain ⟨t365, A220, H⟩ := H
                        replace H : (some t365) = some r := H
                        have A22 := Aside0.mk A220
                        clear A220
                        obtain rfl := Option.some.inj H
                        go_enter Tryd.func8, Tryd.ntmps8
                        try go_wp2_with (first | ((with_reducible refine gate_dst (N := 20) rfl ?_); (try (refine gate_guard (by rfl) ?_; dsimp only)); refine Kd.R_lit Kd.string _ 9 ?hg (N := 20) ?hd (xs := ([(⟨#[97]⟩ : ByteArray), (⟨#[98]⟩ : ByteArray), (⟨#[109]⟩ : ByteArray)] : List ByteArray)) (inner := [.string (⟨#[97]⟩ : ByteArray), .string (⟨#[98]⟩ : ByteArray), .string (⟨#[109]⟩ : ByteArray)]) (ok := fun _ => True) (okp := fun _ => True) ?hr ?hp (fun _ hk => hk) trivial (Below.refl _ _) (Nat.le_refl _) (by simp) ?_; (case hd => rfl); (case hg => rfl); (case hr => first | (go_simp; done) | (go_simp; rfl)); (case hp => exact (Reps.one (show Kd.M Kd.string _ _ _ (⟨#[97]⟩ : ByteArray) [.string (⟨#[97]⟩ : ByteArray)] from rfl) (Reps.one (show Kd.M Kd.string _ _ _ (⟨#[98]⟩ : ByteArray) [.string (⟨#[98]⟩ : ByteArray)] from rfl) (Reps.one (show Kd.M Kd.string _ _ _ (⟨#[109]⟩ : ByteArray) [.string (⟨#[109]⟩ : ByteArray)] from rfl) (Reps.none _ _))))); intro v330 w23 ho24 hb hg_ hnew_; clear hg_ hnew_; (first | rw [← Ny329.out] at ho24 | (simp only [Int.reduceToNat] at ho24; rw [← Ny329.out] at ho24)); have n0_ := Aside0.mk (Kd.R_lower ho24 (below_size (by repeat (first | (with_reducible first | exact HB.out | apply below_alloc | apply pw_below_drewN | apply below_drew1) | exact HB.out)))); have n1_ := Aside0.mk (below_step (by repeat (first | (with_reducible first | exact HB.out | apply below_alloc | apply pw_below_drewN | apply below_drew1) | exact HB.out)) hb); clear HB; have HO331 := n0_; have HB := n1_; clear n0_ n1_; clear hb ho24) | ((with_reducible refine gate_dst (N := 21) rfl ?_); (try (refine gate_guard (by rfl) ?_; dsimp only)); refine Kd.R_lit (Kd.int .i64) _ 3 ?hg (N := 21) ?hd (xs := ([1, 2, 3] : List Int)) (inner := [.int .i64 1, .int .i64 2, .int .i64 3]) (ok := fun _ => True) (okp := fun _ => True) ?hr ?hp (fun _ hk => hk) trivial (Below.refl _ _) (Nat.le_refl _) (by simp) ?_; (case hd => rfl); (case hg => rfl); (case hr => first | (go_simp; done) | (go_simp; rfl)); (case hp => exact (Reps.one (show Kd.M (Kd.int .i64) _ _ _ 1 [.int .i64 1] from rfl) (Reps.one (show Kd.M (Kd.int .i64) _ _ _ 2 [.int .i64 2] from rfl) (Reps.one (show Kd.M (Kd.int .i64) _ _ _ 3 [.int .i64 3] from rfl) (Reps.none _ _))))); intro v333 w25 ho26 hb hg_ hnew_; clear hg_ hnew_; (first | rw [← Ny332.out] at ho26 | (simp only [Int.reduceToNat] at ho26; rw [← Ny332.out] at ho26)); have n0_ := Aside0.mk (Kd.R_below (by (with_reducible repeat (first | apply Kd.R_alloc | apply Kd.R_drewN | apply Kd.R_drew)); exact HO331.out) hb); have n1_ := Aside0.mk (Kd.R_lower ho26 (below_size (by repeat (first | (with_reducible first | exact HB.out | apply below_alloc | apply pw_below_drewN | apply below_drew1) | exact HB.out)))); have n2_ := Aside0.mk (below_step (by repeat (first | (with_reducible first | exact HB.out | apply below_alloc | apply pw_below_drewN | apply below_drew1) | exact HB.out)) hb); clear HO331; clear HB; have HO331 := n0_; have HO334 := n1_; have HB := n2_; clear n0_ n1_ n2_; clear hb ho26) | ((with_reducible refine gate_callee (f := 33) rfl ?_); refine goesL_ (some 27) rfl rfl Tryd.func33 (by kernel_rfl) rfl #[.int .i64 (wrap64 (1 + (wrap64 (Int.tmod (IntKind.u64.wrap (a0)) 500))))] rfl (by (try simp only [List.map_toArray, List.map_cons, List.map_nil]); first | done | rfl | (simp only [List.length_drop, List.length_take]; rfl)) ?_; (with_reducible refine (newelhelp_Digits.calls k (wrap64 (1 + (wrap64 (Int.tmod (IntKind.u64.wrap (a0)) 500)))) t335 _ ?side1 A3.out).mono ?_); (case side1 => exact Glob.step HG.out (by repeat (first | (with_reducible first | exact HB.out | apply below_alloc | apply pw_below_drewN | apply below_drew1) | exact HB.out))); rintro e w27 ⟨rfl, hb⟩; refine ⟨_, rfl, ?_⟩; have n0_ := Aside0.mk (Kd.R_below (by (with_reducible repeat (first | apply Kd.R_alloc | apply Kd.R_drewN | apply Kd.R_drew)); exact HO331.out) hb); have n1_ := Aside0.mk (Kd.R_below (by (with_reducible repeat (first | apply Kd.R_alloc | apply Kd.R_drewN | apply Kd.R_drew)); exact HO334.out) hb); have n2_ := Aside0.mk (below_step (by repeat (first | (with_reducible first | exact HB.out | apply below_alloc | apply pw_below_drewN | apply below_drew1) | exact HB.out)) hb); clear HO331; clear HO334; clear HB; have HO331 := n0_; have HO334 := n1_; have HB := n2_; clear n0_ n1_ n2_; (try clear hb); (try clear hb2); (try clear hk); (try clear hi); obtain ⟨Ao28, co28, eo28⟩ := Kd.R_slice HO331.out; subst eo28; have p336 : 0 ≤ ((ji4) : Int) := of_decide_eq_true (by first | (with_reducible assumption) | assumption); have q336 : (ji4) < (y329.length : Int) := of_decide_eq_true (by first | (with_reducible assumption) | assumption); obtain ⟨ad336, e336, hx336_0⟩ := Kd.at_string (Kd.R_reads' HO331.out).2.2 (ji4) p336 q336; cases e336; replace p336 := eq_true p336; replace q336 := eq_true q336) | ((with_reducible refine gate_callee (f := 31) rfl ?_); refine goesL_ (some 35) rfl rfl Tryd.func31 (by kernel_rfl) rfl #[.string (((⟨#[49]⟩ : ByteArray) ++ (rdOf ByteArray.empty y329 (ji4))) ++ t335)] rfl (by (try simp only [List.map_toArray, List.map_cons, List.map_nil]); first | done | (simp only [hji4]; rfl) | rfl | (simp only [List.length_drop, List.length_take]; rfl)) ?_; (with_reducible refine (words_Split.calls k (((⟨#[49]⟩ : ByteArray) ++ (rdOf ByteArray.empty y329 (ji4))) ++ t335) t337 _ ?side1 A9.out).mono ?_); (case side1 => exact Glob.step HG.out (by repeat (first | (with_reducible first | exact HB.out | apply below_alloc | apply pw_below_drewN | apply below_drew1) | exact HB.out))); rintro e w29 ⟨v338, rfl, ho0, hb⟩; refine ⟨_, rfl, ?_⟩; have n0_ := Aside0.mk (Kd.R_below (by (with_reducible repeat (first | apply Kd.R_alloc | apply Kd.R_drewN | apply Kd.R_drew)); exact HO331.out) hb); have n1_ := Aside0.mk (Kd.R_below (by (with_reducible repeat (first | apply Kd.R_alloc | apply Kd.R_drewN | apply Kd.R_drew)); exact HO334.out) hb); have n2_ := Aside0.mk (Kd.R_lower ho0 (below_size (by repeat (first | (with_reducible first | exact HB.out | apply below_alloc | apply pw_below_drewN | apply below_drew1) | exact HB.out)))); have n3_ := Aside0.mk (below_step (by repeat (first | (with_reducible first | exact HB.out | apply below_alloc | apply pw_below_drewN | apply below_drew1) | exact HB.out)) hb); clear HO331; clear HO334; clear HB; have HO331 := n0_; have HO334 := n1_; have HO339 := n2_; have HB := n3_; clear n0_ n1_ n2_ n3_; (try clear hb); (try clear hb2); (try clear hk); (try clear hi); (try clear ho0); have p340 : 0 ≤ ((ji4) : Int) := of_decide_eq_true (by first | (with_reducible assumption) | assumption); have q340 : (ji4) < (y329.length : Int) := of_decide_eq_true (by first | (with_reducible assumption) | assumption); obtain ⟨ad340, e340, hx340_0⟩ := Kd.at_string (Kd.R_reads' HO331.out).2.2 (ji4) p340 q340; obtain rfl : ad336 = ad340 := (by injection e340); replace p340 := eq_true p340; replace q340 := eq_true q340) | ((with_reducible refine gate_callee (f := 31) rfl ?_); refine goesL_ (some 44) rfl rfl Tryd.func31 (by kernel_rfl) rfl #[.string ((((⟨#[49, 45]⟩ : ByteArray) ++ (rdOf ByteArray.empty y329 (ji4))) ++ (⟨#[45]⟩ : ByteArray)) ++ t335)] rfl (by (try simp only [List.map_toArray, List.map_cons, List.map_nil]); first | done | (simp only [hji4]; rfl) | rfl | (simp only [List.length_drop, List.length_take]; rfl)) ?_; (with_reducible refine (words_Split.calls k ((((⟨#[49, 45]⟩ : ByteArray) ++ (rdOf ByteArray.empty y329 (ji4))) ++ (⟨#[45]⟩ : ByteArray)) ++ t335) t341 _ ?side1 A13.out).mono ?_); (case side1 => exact Glob.step HG.out (by repeat (first | (with_reducible first | exact HB.out | apply below_alloc | apply pw_below_drewN | apply below_drew1) | exact HB.out))); rintro e w30 ⟨v342, rfl, ho0, hb⟩; refine ⟨_, rfl, ?_⟩; have n0_ := Aside0.mk (Kd.R_below (by (with_reducible repeat (first | apply Kd.R_alloc | apply Kd.R_drewN | apply Kd.R_drew)); exact HO331.out) hb); have n1_ := Aside0.mk (Kd.R_below (by (with_reducible repeat (first | apply Kd.R_alloc | apply Kd.R_drewN | apply Kd.R_drew)); exact HO334.out) hb); have n2_ := Aside0.mk (Kd.R_elder' (by (with_reducible repeat (first | apply Kd.R_alloc | apply Kd.R_drewN | apply Kd.R_drew)); exact HO339.out) (Kd.R_base ho0) hb); have n3_ := Aside0.mk (Kd.R_lower (Kd.R_new' ho0 (Kd.R_lt (by (with_reducible repeat (first | apply Kd.R_alloc | apply Kd.R_drewN | apply Kd.R_drew)); exact HO339.out))) (below_size (by repeat (first | (with_reducible first | exact HB.out | apply below_alloc | apply pw_below_drewN | apply below_drew1) | exact HB.out)))); have n4_ := Aside0.mk (below_step (by repeat (first | (with_reducible first | exact HB.out | apply below_alloc | apply pw_below_drewN | apply below_drew1) | exact HB.out)) hb); clear HO331; clear HO334; clear HO339; clear HB; have HO331 := n0_; have HO334 := n1_; have HO339 := n2_; have HO343 := n3_; have HB := n4_; clear n0_ n1_ n2_ n3_ n4_; (try clear hb); (try clear hb2); (try clear hk); (try clear hi); (try clear ho0); have p344 : 0 ≤ ((ji4) : Int) := of_decide_eq_true (by first | (with_reducible assumption) | assumption); have q344 : (ji4) < (y329.length : Int) := of_decide_eq_true (by first | (with_reducible assumption) | assumption); obtain ⟨ad344, e344, hx344_0⟩ := Kd.at_string (Kd.R_reads' HO331.out).2.2 (ji4) p344 q344; obtain rfl : ad336 = ad344 := (by injection e344); replace p344 := eq_true p344; replace q344 := eq_true q344) | ((with_reducible refine gate_callee (f := 31) rfl ?_); refine goesL_ (some 50) rfl rfl Tryd.func31 (by kernel_rfl) rfl #[.string ((⟨#[49]⟩ : ByteArray) ++ (rdOf ByteArray.empty y329 (ji4)))] rfl (by (try simp only [List.map_toArray, List.map_cons, List.map_nil]); first | done | (simp only [hji4]; rfl) | rfl | (simp only [List.length_drop, List.length_take]; rfl)) ?_; (with_reducible refine (words_Split.calls k ((⟨#[49]⟩ : ByteArray) ++ (rdOf ByteArray.empty y329 (ji4))) t345 _ ?side1 A14.out).mono ?_); (case side1 => exact Glob.step HG.out (by repeat (first | (with_reducible first | exact HB.out | apply below_alloc | apply pw_below_drewN | apply below_drew1) | exact HB.out))); rintro e w31 ⟨v346, rfl, ho0, hb⟩; refine ⟨_, rfl, ?_⟩; have n0_ := Aside0.mk (Kd.R_below (by (with_reducible repeat (first | apply Kd.R_alloc | apply Kd.R_drewN | apply Kd.R_drew)); exact HO331.out) hb); have n1_ := Aside0.mk (Kd.R_below (by (with_reducible repeat (first | apply Kd.R_alloc | apply Kd.R_drewN | apply Kd.R_drew)); exact HO334.out) hb); have n2_ := Aside0.mk (Kd.R_elder' (by (with_reducible repeat (first | apply Kd.R_alloc | apply Kd.R_drewN | apply Kd.R_drew)); exact HO339.out) (Kd.R_base ho0) hb); have n3_ := Aside0.mk (Kd.R_elder' (by (with_reducible repeat (first | apply Kd.R_alloc | apply Kd.R_drewN | apply Kd.R_drew)); exact HO343.out) (Kd.R_base ho0) hb); have n4_ := Aside0.mk (Kd.R_lower (Kd.R_new' (Kd.R_new' ho0 (Kd.R_lt (by (with_reducible repeat (first | apply Kd.R_alloc | apply Kd.R_drewN | apply Kd.R_drew)); exact HO339.out))) (Kd.R_lt (by (with_reducible repeat (first | apply Kd.R_alloc | apply Kd.R_drewN | apply Kd.R_drew)); exact HO343.out))) (below_size (by repeat (first | (with_reducible first | exact HB.out | apply below_alloc | apply pw_below_drewN | apply below_drew1) | exact HB.out)))); have n5_ := Aside0.mk (below_step (by repeat (first | (with_reducible first | exact HB.out | apply below_alloc | apply pw_below_drewN | apply below_drew1) | exact HB.out)) hb); clear HO331; clear HO334; clear HO339; clear HO343; clear HB; have HO331 := n0_; have HO334 := n1_; have HO339 := n2_; have HO343 := n3_; have HO347 := n4_; have HB := n5_; clear n0_ n1_ n2_ n3_ n4_ n5_; (try clear hb); (try clear hb2); (try clear hk); (try clear hi); (try clear ho0); have p348 : 0 ≤ ((ji4) : Int) := of_decide_eq_true (by first | (with_reducible assumption) | assumption); have q348 : (ji4) < (y329.length : Int) := of_decide_eq_true (by first | (with_reducible assumption) | assumption); obtain ⟨ad348, e348, hx348_0⟩ := Kd.at_string (Kd.R_reads' HO331.out).2.2 (ji4) p348 q348; obtain rfl : ad336 = ad348 := (by injection e348); replace p348 := eq_true p348; replace q348 := eq_true q348) | ((with_reducible refine gate_dst (N := 12) rfl ?_); (try (refine gate_guard (by rfl) ?_; dsimp only)); refine box_event ?hg (N := 12) ?hd (cs := #[.int .i64 0, .string (⟨#[]⟩ : ByteArray)]) (t := 38) ?hr ?_; (case hd => rfl); (case hg => rfl); (case hr => first | (go_simp; done) | (go_simp; rfl)); intro gb349 hg w32 hbox hb; have n0_ := Aside0.mk (Kd.R_below (by (with_reducible repeat (first | apply Kd.R_alloc | apply Kd.R_drewN | apply Kd.R_drew)); exact HO331.out) hb); have n1_ := Aside0.mk (Kd.R_below (by (with_reducible repeat (first | apply Kd.R_alloc | apply Kd.R_drewN | apply Kd.R_drew)); exact HO334.out) hb); have n2_ := Aside0.mk (Kd.R_below (Kd.R_elderB (by (with_reducible repeat (first | apply Kd.R_alloc | apply Kd.R_drewN | apply Kd.R_drew)); exact HO339.out) gb349 (Nat.le_of_eq hg.symm)) hb); have n3_ := Aside0.mk (Kd.R_below (Kd.R_elderB (by (with_reducible repeat (first | apply Kd.R_alloc | apply Kd.R_drewN | apply Kd.R_drew)); exact HO343.out) gb349 (Nat.le_of_eq hg.symm)) hb); have n4_ := Aside0.mk (Kd.R_below (Kd.R_elderB (by (with_reducible repeat (first | apply Kd.R_alloc | apply Kd.R_drewN | apply Kd.R_drew)); exact HO347.out) gb349 (Nat.le_of_eq hg.symm)) hb); have n5_ := Aside0.mk (below_step (by repeat (first | (with_reducible first | exact HB.out | apply below_alloc | apply pw_below_drewN | apply below_drew1) | exact HB.out)) hb); have n6_ := Aside0.mk (hbox); have n7_ := Aside0.mk ((by rw [hg]; exact (below_size (by repeat (first | (with_reducible first | exact HB.out | apply below_alloc | apply pw_below_drewN | apply below_drew1) | exact HB.out))) : w.heap.size ≤ gb349)); have n8_ := Aside0.mk ((by rw [hg]; exact (below_size (by repeat (first | (with_reducible first | exact HB.out | apply below_alloc | apply pw_below_drewN | apply below_drew1) | exact HB.out))) : w.heap.size ≤ gb349)); clear HO331; clear HO334; clear HO339; clear HO343; clear HO347; clear HB; have HO331 := n0_; have HO334 := n1_; have HO339 := n2_; have HO343 := n3_; have HO347 := n4_; have HB := n5_; have BK349 := n6_; have GW349 := n7_; have GE349 := n8_; clear n0_ n1_ n2_ n3_ n4_ n5_ n6_ n7_ n8_; clear hb hbox hg; have hcz33_0 : w32.cell? ⟨gb349, 0, none⟩ = some (.int .i64 0) := (blk_cell BK349.out 0).trans rfl; have hcz33_1 : w32.cell? ⟨gb349, 1, none⟩ = some (.string (⟨#[]⟩ : ByteArray)) := (blk_cell BK349.out 1).trans rfl; have hfz33_0 := blk_frozen BK349.out 0; have hfz33_1 := blk_frozen BK349.out 1) | ((with_reducible refine gate_dst (N := 13) rfl ?_); (try (refine gate_guard (by rfl) ?_; dsimp only)); refine box_event ?hg (N := 13) ?hd (cs := #[.int .i64 0, .string (⟨#[]⟩ : ByteArray)]) (t := 38) ?hr ?_; (case hd => rfl); (case hg => rfl); (case hr => first | (go_simp; done) | (go_simp; rfl)); intro gb350 hg w34 hbox hb; have n0_ := Aside0.mk (Kd.R_below (by (with_reducible repeat (first | apply Kd.R_alloc | apply Kd.R_drewN | apply Kd.R_drew)); exact (Kd.R_mono (Kd.R_far (p := ⟨gb349, 1, none⟩) (Kd.R_far (p := ⟨gb349, 0, none⟩) (Kd.R_types HO331.out BK349.out (by decide)) (fun _ hk => hk.2) (.int .i64 8)) (fun _ hk => hk.2) (.string (rdOf ByteArray.empty y329 (ji4)))) (fun _ h_ => h_.1))) hb); have n1_ := Aside0.mk (Kd.R_below (by (with_reducible repeat (first | apply Kd.R_alloc | apply Kd.R_drewN | apply Kd.R_drew)); exact (Kd.R_mono (Kd.R_far (p := ⟨gb349, 1, none⟩) (Kd.R_far (p := ⟨gb349, 0, none⟩) (Kd.R_types HO334.out BK349.out (by decide)) (fun _ hk => hk.2) (.int .i64 8)) (fun _ hk => hk.2) (.string (rdOf ByteArray.empty y329 (ji4)))) (fun _ h_ => h_.1))) hb); have n2_ := Aside0.mk (Kd.R_below (Kd.R_elderB (by (with_reducible repeat (first | apply Kd.R_alloc | apply Kd.R_drewN | apply Kd.R_drew)); exact (Kd.R_mono (Kd.R_far (p := ⟨gb349, 1, none⟩) (Kd.R_far (p := ⟨gb349, 0, none⟩) (Kd.R_mono HO339.out (fun k_ hk => (⟨hk, hk.2⟩ : _ ∧ k_ ≠ gb349))) (fun _ hk => hk.2) (.int .i64 8)) (fun _ hk => hk.2) (.string (rdOf ByteArray.empty y329 (ji4)))) (fun _ h_ => h_.1))) gb350 (Nat.le_of_eq hg.symm)) hb); have n3_ := Aside0.mk (Kd.R_below (Kd.R_elderB (by (with_reducible repeat (first | apply Kd.R_alloc | apply Kd.R_drewN | apply Kd.R_drew)); exact (Kd.R_mono (Kd.R_far (p := ⟨gb349, 1, none⟩) (Kd.R_far (p := ⟨gb349, 0, none⟩) (Kd.R_mono HO343.out (fun k_ hk => (⟨hk, hk.2⟩ : _ ∧ k_ ≠ gb349))) (fun _ hk => hk.2) (.int .i64 8)) (fun _ hk => hk.2) (.string (rdOf ByteArray.empty y329 (ji4)))) (fun _ h_ => h_.1))) gb350 (Nat.le_of_eq hg.symm)) hb); have n4_ := Aside0.mk (Kd.R_below (Kd.R_elderB (by (with_reducible repeat (first | apply Kd.R_alloc | apply Kd.R_drewN | apply Kd.R_drew)); exact (Kd.R_mono (Kd.R_far (p := ⟨gb349, 1, none⟩) (Kd.R_far (p := ⟨gb349, 0, none⟩) (Kd.R_mono HO347.out (fun k_ hk => (⟨hk, hk.2⟩ : _ ∧ k_ ≠ gb349))) (fun _ hk => hk.2) (.int .i64 8)) (fun _ hk => hk.2) (.string (rdOf ByteArray.empty y329 (ji4)))) (fun _ h_ => h_.1))) gb350 (Nat.le_of_eq hg.symm)) hb); have n5_ := Aside0.mk (blk_below (g := gb349) (o := .cells #[.int .i64 8, .string (rdOf ByteArray.empty y329 (ji4))] 38 (0, 0)) (by (with_reducible repeat (first | refine blk_drewN ?_ _ | refine blk_drew ?_ | refine blk_alloc ?_ _)); refine blk_put (cs := #[.int .i64 8, .string (⟨#[]⟩ : ByteArray)]) ?_ 1 _ rfl; (with_reducible repeat (first | refine blk_drewN ?_ _ | refine blk_drew ?_ | refine blk_alloc ?_ _)); refine blk_put (cs := #[.int .i64 0, .string (⟨#[]⟩ : ByteArray)]) ?_ 0 _ rfl; (with_reducible repeat (first | refine blk_drewN ?_ _ | refine blk_drew ?_ | refine blk_alloc ?_ _)); exact BK349.out) hb); have n6_ := Aside0.mk (below_step (by repeat (first | (with_reducible first | exact HB.out | apply below_alloc | apply pw_below_drewN | apply below_drew1 | refine below_set ?_ GE349.out) | exact HB.out)) hb); have n7_ := Aside0.mk (hbox); have n8_ := Aside0.mk ((by rw [hg]; exact (below_size (by repeat (first | (with_reducible first | exact HB.out | apply below_alloc | apply pw_below_drewN | apply below_drew1 | refine below_set ?_ GE349.out) | exact HB.out))) : w.heap.size ≤ gb350)); have n9_ := Aside0.mk ((by rw [hg]; exact (below_size (by repeat (first | (with_reducible first | exact HB.out | apply below_alloc | apply pw_below_drewN | apply below_drew1 | refine below_set ?_ GE349.out) | exact HB.out))) : w.heap.size ≤ gb350)); have n10_ := Aside0.mk ((by rw [hg]; exact Nat.ne_of_lt (blk_lt (g := gb349) (o := .cells #[.int .i64 8, .string (rdOf ByteArray.empty y329 (ji4))] 38 (0, 0)) (by (with_reducible repeat (first | refine blk_drewN ?_ _ | refine blk_drew ?_ | refine blk_alloc ?_ _)); refine blk_put (cs := #[.int .i64 8, .string (⟨#[]⟩ : ByteArray)]) ?_ 1 _ rfl; (with_reducible repeat (first | refine blk_drewN ?_ _ | refine blk_drew ?_ | refine blk_alloc ?_ _)); refine blk_put (cs := #[.int .i64 0, .string (⟨#[]⟩ : ByteArray)]) ?_ 0 _ rfl; (with_reducible repeat (first | refine blk_drewN ?_ _ | refine blk_drew ?_ | refine blk_alloc ?_ _)); exact BK349.out)) : gb349 ≠ gb350)); have n11_ := Aside0.mk ((by rw [hg]; exact Nat.ne_of_gt (blk_lt (g := gb349) (o := .cells #[.int .i64 8, .string (rdOf ByteArray.empty y329 (ji4))] 38 (0, 0)) (by (with_reducible repeat (first | refine blk_drewN ?_ _ | refine blk_drew ?_ | refine blk_alloc ?_ _)); refine blk_put (cs := #[.int .i64 8, .string (⟨#[]⟩ : ByteArray)]) ?_ 1 _ rfl; (with_reducible repeat (first | refine blk_drewN ?_ _ | refine blk_drew ?_ | refine blk_alloc ?_ _)); refine blk_put (cs := #[.int .i64 0, .string (⟨#[]⟩ : ByteArray)]) ?_ 0 _ rfl; (with_reducible repeat (first | refine blk_drewN ?_ _ | refine blk_drew ?_ | refine blk_alloc ?_ _)); exact BK349.out)) : gb350 ≠ gb349)); clear HO331; clear HO334; clear HO339; clear HO343; clear HO347; clear BK349; clear HB; have HO331 := n0_; have HO334 := n1_; have HO339 := n2_; have HO343 := n3_; have HO347 := n4_; have BK349 := n5_; have HB := n6_; have BK350 := n7_; have GW350 := n8_; have GE350 := n9_; have NB349_350 := n10_; have NB350_349 := n11_; clear n0_ n1_ n2_ n3_ n4_ n5_ n6_ n7_ n8_ n9_ n10_ n11_; clear hb hbox hg; have hnb35 := NB350_349.out; have hnc35 := NB349_350.out; have hcz36_0 : w34.cell? ⟨gb350, 0, none⟩ = some (.int .i64 0) := (blk_cell BK350.out 0).trans rfl; have hcz36_1 : w34.cell? ⟨gb350, 1, none⟩ = some (.string (⟨#[]⟩ : ByteArray)) := (blk_cell BK350.out 1).trans rfl; have hfz36_0 := blk_frozen BK350.out 0; have hfz36_1 := blk_frozen BK350.out 1) | ((with_reducible refine gate_dst (N := 14) rfl ?_); (try (refine gate_guard (by rfl) ?_; dsimp only)); refine box_event ?hg (N := 14) ?hd (cs := #[.int .i64 0, .string (⟨#[]⟩ : ByteArray)]) (t := 38) ?hr ?_; (case hd => rfl); (case hg => rfl); (case hr => first | (go_simp; done) | (go_simp; rfl)); intro gb351 hg w37 hbox hb; have n0_ := Aside0.mk (Kd.R_below (by (with_reducible repeat (first | apply Kd.R_alloc | apply Kd.R_drewN | apply Kd.R_drew)); exact (Kd.R_mono (Kd.R_far (p := ⟨gb350, 1, none⟩) (Kd.R_far (p := ⟨gb350, 0, none⟩) (Kd.R_types HO331.out BK350.out (by decide)) (fun _ hk => hk.2) (.int .i64 10)) (fun _ hk => hk.2) (.string (⟨#[49]⟩ : ByteArray))) (fun _ h_ => h_.1))) hb); have n1_ := Aside0.mk (Kd.R_below (by (with_reducible repeat (first | apply Kd.R_alloc | apply Kd.R_drewN | apply Kd.R_drew)); exact (Kd.R_mono (Kd.R_far (p := ⟨gb350, 1, none⟩) (Kd.R_far (p := ⟨gb350, 0, none⟩) (Kd.R_types HO334.out BK350.out (by decide)) (fun _ hk => hk.2) (.int .i64 10)) (fun _ hk => hk.2) (.string (⟨#[49]⟩ : ByteArray))) (fun _ h_ => h_.1))) hb); have n2_ := Aside0.mk (Kd.R_below (Kd.R_elderB (by (with_reducible repeat (first | apply Kd.R_alloc | apply Kd.R_drewN | apply Kd.R_drew)); exact (Kd.R_mono (Kd.R_far (p := ⟨gb350, 1, none⟩) (Kd.R_far (p := ⟨gb350, 0, none⟩) (Kd.R_mono HO339.out (fun k_ hk => (⟨hk, hk.2⟩ : _ ∧ k_ ≠ gb350))) (fun _ hk => hk.2) (.int .i64 10)) (fun _ hk => hk.2) (.string (⟨#[49]⟩ : ByteArray))) (fun _ h_ => h_.1))) gb351 (Nat.le_of_eq hg.symm)) hb); have n3_ := Aside0.mk (Kd.R_below (Kd.R_elderB (by (with_reducible repeat (first | apply Kd.R_alloc | apply Kd.R_drewN | apply Kd.R_drew)); exact (Kd.R_mono (Kd.R_far (p := ⟨gb350, 1, none⟩) (Kd.R_far (p := ⟨gb350, 0, none⟩) (Kd.R_mono HO343.out (fun k_ hk => (⟨hk, hk.2⟩ : _ ∧ k_ ≠ gb350))) (fun _ hk => hk.2) (.int .i64 10)) (fun _ hk => hk.2) (.string (⟨#[49]⟩ : ByteArray))) (fun _ h_ => h_.1))) gb351 (Nat.le_of_eq hg.symm)) hb); have n4_ := Aside0.mk (Kd.R_below (Kd.R_elderB (by (with_reducible repeat (first | apply Kd.R_alloc | apply Kd.R_drewN | apply Kd.R_drew)); exact (Kd.R_mono (Kd.R_far (p := ⟨gb350, 1, none⟩) (Kd.R_far (p := ⟨gb350, 0, none⟩) (Kd.R_mono HO347.out (fun k_ hk => (⟨hk, hk.2⟩ : _ ∧ k_ ≠ gb350))) (fun _ hk => hk.2) (.int .i64 10)) (fun _ hk => hk.2) (.string (⟨#[49]⟩ : ByteArray))) (fun _ h_ => h_.1))) gb351 (Nat.le_of_eq hg.symm)) hb); have n5_ := Aside0.mk (blk_below (g := gb349) (o := .cells #[.int .i64 8, .string (rdOf ByteArray.empty y329 (ji4))] 38 (0, 0)) (by (with_reducible repeat (first | refine blk_drewN ?_ _ | refine blk_drew ?_ | refine blk_alloc ?_ _)); refine blk_far ?_ NB349_350.out _; (with_reducible repeat (first | refine blk_drewN ?_ _ | refine blk_drew ?_ | refine blk_alloc ?_ _)); refine blk_far ?_ NB349_350.out _; (with_reducible repeat (first | refine blk_drewN ?_ _ | refine blk_drew ?_ | refine blk_alloc ?_ _)); exact BK349.out) hb); have n6_ := Aside0.mk (blk_below (g := gb350) (o := .cells #[.int .i64 10, .string (⟨#[49]⟩ : ByteArray)] 38 (0, 0)) (by (with_reducible repeat (first | refine blk_drewN ?_ _ | refine blk_drew ?_ | refine blk_alloc ?_ _)); refine blk_put (cs := #[.int .i64 10, .string (⟨#[]⟩ : ByteArray)]) ?_ 1 _ rfl; (with_reducible repeat (first | refine blk_drewN ?_ _ | refine blk_drew ?_ | refine blk_alloc ?_ _)); refine blk_put (cs := #[.int .i64 0, .string (⟨#[]⟩ : ByteArray)]) ?_ 0 _ rfl; (with_reducible repeat (first | refine blk_drewN ?_ _ | refine blk_drew ?_ | refine blk_alloc ?_ _)); exact BK350.out) hb); have n7_ := Aside0.mk (below_step (by repeat (first | (with_reducible first | exact HB.out | apply below_alloc | apply pw_below_drewN | apply below_drew1 | refine below_set ?_ GE349.out | refine below_set ?_ GE350.out) | exact HB.out)) hb); have n8_ := Aside0.mk (hbox); have n9_ := Aside0.mk ((by rw [hg]; exact (below_size (by repeat (first | (with_reducible first | exact HB.out | apply below_alloc | apply pw_below_drewN | apply below_drew1 | refine below_set ?_ GE349.out | refine below_set ?_ GE350.out) | exact HB.out))) : w.heap.size ≤ gb351)); have n10_ := Aside0.mk ((by rw [hg]; exact (below_size (by repeat (first | (with_reducible first | exact HB.out | apply below_alloc | apply pw_below_drewN | apply below_drew1 | refine below_set ?_ GE349.out | refine below_set ?_ GE350.out) | exact HB.out))) : w.heap.size ≤ gb351)); have n11_ := Aside0.mk ((by rw [hg]; exact Nat.ne_of_lt (blk_lt (g := gb349) (o := .cells #[.int .i64 8, .string (rdOf ByteArray.empty y329 (ji4))] 38 (0, 0)) (by (with_reducible repeat (first | refine blk_drewN ?_ _ | refine blk_drew ?_ | refine blk_alloc ?_ _)); refine blk_far ?_ NB349_350.out _; (with_reducible repeat (first | refine blk_drewN ?_ _ | refine blk_drew ?_ | refine blk_alloc ?_ _)); refine blk_far ?_ NB349_350.out _; (with_reducible repeat (first | refine blk_drewN ?_ _ | refine blk_drew ?_ | refine blk_alloc ?_ _)); exact BK349.out)) : gb349 ≠ gb351)); have n12_ := Aside0.mk ((by rw [hg]; exact Nat.ne_of_gt (blk_lt (g := gb349) (o := .cells #[.int .i64 8, .string (rdOf ByteArray.empty y329 (ji4))] 38 (0, 0)) (by (with_reducible repeat (first | refine blk_drewN ?_ _ | refine blk_drew ?_ | refine blk_alloc ?_ _)); refine blk_far ?_ NB349_350.out _; (with_reducible repeat (first | refine blk_drewN ?_ _ | refine blk_drew ?_ | refine blk_alloc ?_ _)); refine blk_far ?_ NB349_350.out _; (with_reducible repeat (first | refine blk_drewN ?_ _ | refine blk_drew ?_ | refine blk_alloc ?_ _)); exact BK349.out)) : gb351 ≠ gb349)); have n13_ := Aside0.mk ((by rw [hg]; exact Nat.ne_of_lt (blk_lt (g := gb350) (o := .cells #[.int .i64 10, .string (⟨#[49]⟩ : ByteArray)] 38 (0, 0)) (by (with_reducible repeat (first | refine blk_drewN ?_ _ | refine blk_drew ?_ | refine blk_alloc ?_ _)); refine blk_put (cs := #[.int .i64 10, .string (⟨#[]⟩ : ByteArray)]) ?_ 1 _ rfl; (with_reducible repeat (first | refine blk_drewN ?_ _ | refine blk_drew ?_ | refine blk_alloc ?_ _)); refine blk_put (cs := #[.int .i64 0, .string (⟨#[]⟩ : ByteArray)]) ?_ 0 _ rfl; (with_reducible repeat (first | refine blk_drewN ?_ _ | refine blk_drew ?_ | refine blk_alloc ?_ _)); exact BK350.out)) : gb350 ≠ gb351)); have n14_ := Aside0.mk ((by rw [hg]; exact Nat.ne_of_gt (blk_lt (g := gb350) (o := .cells #[.int .i64 10, .string (⟨#[49]⟩ : ByteArray)] 38 (0, 0)) (by (with_reducible repeat (first | refine blk_drewN ?_ _ | refine blk_drew ?_ | refine blk_alloc ?_ _)); refine blk_put (cs := #[.int .i64 10, .string (⟨#[]⟩ : ByteArray)]) ?_ 1 _ rfl; (with_reducible repeat (first | refine blk_drewN ?_ _ | refine blk_drew ?_ | refine blk_alloc ?_ _)); refine blk_put (cs := #[.int .i64 0, .string (⟨#[]⟩ : ByteArray)]) ?_ 0 _ rfl; (with_reducible repeat (first | refine blk_drewN ?_ _ | refine blk_drew ?_ | refine blk_alloc ?_ _)); exact BK350.out)) : gb351 ≠ gb350)); clear HO331; clear HO334; clear HO339; clear HO343; clear HO347; clear BK349; clear BK350; clear HB; have HO331 := n0_; have HO334 := n1_; have HO339 := n2_; have HO343 := n3_; have HO347 := n4_; have BK349 := n5_; have BK350 := n6_; have HB := n7_; have BK351 := n8_; have GW351 := n9_; have GE351 := n10_; have NB349_351 := n11_; have NB351_349 := n12_; have NB350_351 := n13_; have NB351_350 := n14_; clear n0_ n1_ n2_ n3_ n4_ n5_ n6_ n7_ n8_ n9_ n10_ n11_ n12_ n13_ n14_; clear hb hbox hg; have hnb38 := NB351_349.out; have hnc38 := NB349_351.out; have hnb39 := NB351_350.out; have hnc39 := NB350_351.out; have hcz40_0 : w37.cell? ⟨gb351, 0, none⟩ = some (.int .i64 0) := (blk_cell BK351.out 0).trans rfl; have hcz40_1 : w37.cell? ⟨gb351, 1, none⟩ = some (.string (⟨#[]⟩ : ByteArray)) := (blk_cell BK351.out 1).trans rfl; have hfz40_0 := blk_frozen BK351.out 0; have hfz40_1 := blk_frozen BK351.out 1))
                        have n0_ : Aside0 (Kd.R Kd.string 9 ((w37.setCell ⟨gb351, 0, none⟩ (.int .i64 9)).setCell ⟨gb351, 1, none⟩ (.string t335)) w.heap.size (fun _ => True) (.slice (some ad336) y329.length co28) y329) := ⟨by (with_reducible repeat (first | apply Kd.R_alloc | apply Kd.R_drewN | apply Kd.R_drew)); exact Kd.R_mono (Kd.R_far (p := ⟨gb351, 1, none⟩) (Kd.R_far (p := ⟨gb351, 0, none⟩) (Kd.R_types HO331.out BK351.out (by decide)) (fun _ hk => hk.2) (.int .i64 9)) (fun _ hk => hk.2) (.string t335)) (fun _ hk => trivial)⟩
                        have n1_ : Aside0 (Kd.R (Kd.int .i64) 3 ((w37.setCell ⟨gb351, 0, none⟩ (.int .i64 9)).setCell ⟨gb351, 1, none⟩ (.string t335)) w.heap.size (fun _ => True) v333 y332) := ⟨by (with_reducible repeat (first | apply Kd.R_alloc | apply Kd.R_drewN | apply Kd.R_drew)); exact Kd.R_mono (Kd.R_far (p := ⟨gb351, 1, none⟩) (Kd.R_far (p := ⟨gb351, 0, none⟩) (Kd.R_types HO334.out BK351.out (by decide)) (fun _ hk => hk.2) (.int .i64 9)) (fun _ hk => hk.2) (.string t335)) (fun _ hk => trivial)⟩
                        have n2_ : Aside0 (Kd.R k38 38 ((w37.setCell ⟨gb351, 0, none⟩ (.int .i64 9)).setCell ⟨gb351, 1, none⟩ (.string t335)) w.heap.size (fun k_ => some k_ ≠ (v342 : Value).ownBlock ∧ some k_ ≠ (v346 : Value).ownBlock ∧ k_ ≠ gb349 ∧ k_ ≠ gb350 ∧ k_ ≠ gb351) v338 t337) := ⟨by (with_reducible repeat (first | apply Kd.R_alloc | apply Kd.R_drewN | apply Kd.R_drew)); exact Kd.R_mono (Kd.R_far (p := ⟨gb351, 1, none⟩) (Kd.R_far (p := ⟨gb351, 0, none⟩) (Kd.R_mono HO339.out (fun k_ hk => (⟨hk, hk.2⟩ : _ ∧ k_ ≠ gb351))) (fun _ hk => hk.2) (.int .i64 9)) (fun _ hk => hk.2) (.string t335)) (fun _ hk => ⟨hk.1.1.1.1.1.2, ⟨hk.1.1.1.1.2, ⟨hk.1.1.1.2, ⟨hk.1.1.2, hk.1.2⟩⟩⟩⟩)⟩
                        have n3_ : Aside0 (Kd.R k38 38 ((w37.setCell ⟨gb351, 0, none⟩ (.int .i64 9)).setCell ⟨gb351, 1, none⟩ (.string t335)) w.heap.size (fun k_ => some k_ ≠ (v338 : Value).ownBlock ∧ some k_ ≠ (v346 : Value).ownBlock ∧ k_ ≠ gb349 ∧ k_ ≠ gb350 ∧ k_ ≠ gb351) v342 t341) := ⟨by (with_reducible repeat (first | apply Kd.R_alloc | apply Kd.R_drewN | apply Kd.R_drew)); exact Kd.R_mono (Kd.R_far (p := ⟨gb351, 1, none⟩) (Kd.R_far (p := ⟨gb351, 0, none⟩) (Kd.R_mono HO343.out (fun k_ hk => (⟨hk, hk.2⟩ : _ ∧ k_ ≠ gb351))) (fun _ hk => hk.2) (.int .i64 9)) (fun _ hk => hk.2) (.string t335)) (fun _ hk => ⟨hk.1.1.1.1.1.2, ⟨hk.1.1.1.1.2, ⟨hk.1.1.1.2, ⟨hk.1.1.2, hk.1.2⟩⟩⟩⟩)⟩
                        have n4_ : Aside0 (Kd.R k38 38 ((w37.setCell ⟨gb351, 0, none⟩ (.int .i64 9)).setCell ⟨gb351, 1, none⟩ (.string t335)) w.heap.size (fun k_ => some k_ ≠ (v338 : Value).ownBlock ∧ some k_ ≠ (v342 : Value).ownBlock ∧ k_ ≠ gb349 ∧ k_ ≠ gb350 ∧ k_ ≠ gb351) v346 t345) := ⟨by (with_reducible repeat (first | apply Kd.R_alloc | apply Kd.R_drewN | apply Kd.R_drew)); exact Kd.R_mono (Kd.R_far (p := ⟨gb351, 1, none⟩) (Kd.R_far (p := ⟨gb351, 0, none⟩) (Kd.R_mono HO347.out (fun k_ hk => (⟨hk, hk.2⟩ : _ ∧ k_ ≠ gb351))) (fun _ hk => hk.2) (.int .i64 9)) (fun _ hk => hk.2) (.string t335)) (fun _ hk => ⟨hk.1.1.1.1.1.2, ⟨hk.1.1.1.1.2, ⟨hk.1.1.1.2, ⟨hk.1.1.2, hk.1.2⟩⟩⟩⟩)⟩
                        have n5_ : Aside0 (((w37.setCell ⟨gb351, 0, none⟩ (.int .i64 9)).setCell ⟨gb351, 1, none⟩ (.string t335)).heap[gb349]? = some (.cells #[.int .i64 8, .string (rdOf ByteArray.empty y329 (ji4))] 38 (0, 0))) := ⟨by (with_reducible repeat (first | refine blk_drewN ?_ _ | refine blk_drew ?_ | refine blk_alloc ?_ _)); refine blk_far ?_ NB349_351.out _; (with_reducible repeat (first | refine blk_drewN ?_ _ | refine blk_drew ?_ | refine blk_alloc ?_ _)); refine blk_far ?_ NB349_351.out _; (with_reducible repeat (first | refine blk_drewN ?_ _ | refine blk_drew ?_ | refine blk_alloc ?_ _)); exact BK349.out⟩
                        have n6_ : Aside0 (((w37.setCell ⟨gb351, 0, none⟩ (.int .i64 9)).setCell ⟨gb351, 1, none⟩ (.string t335)).heap[gb350]? = some (.cells #[.int .i64 10, .string (⟨#[49]⟩ : ByteArray)] 38 (0, 0))) := ⟨by (with_reducible repeat (first | refine blk_drewN ?_ _ | refine blk_drew ?_ | refine blk_alloc ?_ _)); refine blk_far ?_ NB350_351.out _; (with_reducible repeat (first | refine blk_drewN ?_ _ | refine blk_drew ?_ | refine blk_alloc ?_ _)); refine blk_far ?_ NB350_351.out _; (with_reducible repeat (first | refine blk_drewN ?_ _ | refine blk_drew ?_ | refine blk_alloc ?_ _)); exact BK350.out⟩
                        have n7_ : Aside0 (((w37.setCell ⟨gb351, 0, none⟩ (.int .i64 9)).setCell ⟨gb351, 1, none⟩ (.string t335)).heap[gb351]? = some (.cells #[.int .i64 9, .string t335] 38 (0, 0))) := ⟨by (with_reducible repeat (first | refine blk_drewN ?_ _ | refine blk_drew ?_ | refine blk_alloc ?_ _)); refine blk_put (cs := #[.int .i64 9, .string (⟨#[]⟩ : ByteArray)]) ?_ 1 _ rfl; (with_reducible repeat (first | refine blk_drewN ?_ _ | refine blk_drew ?_ | refine blk_alloc ?_ _)); refine blk_put (cs := #[.int .i64 0, .string (⟨#[]⟩ : ByteArray)]) ?_ 0 _ rfl; (with_reducible repeat (first | refine blk_drewN ?_ _ | refine blk_drew ?_ | refine blk_alloc ?_ _)); exact BK351.out⟩
                        have n8_ : Aside0 (Below w.heap.size w ((w37.setCell ⟨gb351, 0, none⟩ (.int .i64 9)).setCell ⟨gb351, 1, none⟩ (.string t335))) := ⟨by repeat (first | (with_reducible first | exact HB.out | apply below_alloc | apply pw_below_drewN | apply below_drew1 | refine below_set ?_ GE349.out | refine below_set ?_ GE350.out | refine below_set ?_ GE351.out) | exact HB.out)⟩
                        (try clear HO331)
                        (try clear HO334)
                        (try clear HO339)
                        (try clear HO343)
                        (try clear HO347)
                        (try clear BK349)
                        (try clear BK350)
                        (try clear BK351)
                        (try clear HB)
                        generalize ((w37.setCell ⟨gb351, 0, none⟩ (.int .i64 9)).setCell ⟨gb351, 1, none⟩ (.string t335)) = w41 at n0_ n1_ n2_ n3_ n4_ n5_ n6_ n7_ n8_ ⊢
                        have HO331 := n0_
                        have HO334 := n1_
                        have HO339 := n2_
                        have HO343 := n3_
                        have HO347 := n4_
                        have BK349 := n5_
                        have BK350 := n6_
                        have BK351 := n7_
                        have HB := n8_
                        clear n0_ n1_ n2_ n3_ n4_ n5_ n6_ n7_ n8_
                        have n0_ := Aside0.mk (Kd.R_drew HO331.out)
                        have n1_ := Aside0.mk (Kd.R_drew HO334.out)
                        have n2_ := Aside0.mk (Kd.R_drew HO339.out)
                        have n3_ := Aside0.mk (Kd.R_drew HO343.out)
                        have n4_ := Aside0.mk (Kd.R_drew HO347.out)
                        have n5_ := Aside0.mk (blk_drew BK349.out)
                        have n6_ := Aside0.mk (blk_drew BK350.out)
                        have n7_ := Aside0.mk (blk_drew BK351.out)
                        have n8_ := Aside0.mk (below_drew1 HB.out)
                        clear HO331
                        clear HO334
                        clear HO339
                        clear HO343
                        clear HO347
                        clear BK349
                        clear BK350
                        clear BK351
                        clear HB
                        have HO331 := n0_
                        have HO334 := n1_
                        have HO339 := n2_
                        have HO343 := n3_
                        have HO347 := n4_
                        have BK349 := n5_
                        have BK350 := n6_
                        have BK351 := n7_
                        have HB := n8_
                        clear n0_ n1_ n2_ n3_ n4_ n5_ n6_ n7_ n8_
                        have p353 : 0 ≤ ((ji4) : Int) := of_decide_eq_true (by first | (with_reducible assumption) | assumption)
                        have q353 : (ji4) < (y332.length : Int) := of_decide_eq_true (by first | (with_reducible assumption) | assumption)
                        (try (obtain ⟨Ao_, co_, eo_⟩ := Kd.R_slice HO334.out; subst eo_))
                        obtain ⟨ad353, e353, hx353_0⟩ := Kd.at_int (Kd.R_reads' HO334.out).2.2 (ji4) p353 q353
                        cases e353
                        replace p353 := eq_true p353
                        replace q353 := eq_true q353
                        refine start_ (n := 29) (S := fun w' => w'.cell? ⟨gb350, 0, none⟩ = some (.int .i64 10) ∧ w'.cell? ⟨gb350, 1, none⟩ = some (.string (⟨#[49]⟩ : ByteArray)) ∧ w'.cell? ⟨gb351, 0, none⟩ = some (.int .i64 9) ∧ w'.cell? ⟨gb351, 1, none⟩ = some (.string t335) ∧ w'.cell? ⟨gb349, 0, none⟩ = some (.int .i64 8) ∧ w'.cell? ⟨gb349, 1, none⟩ = some (.string (rdOf ByteArray.empty y329 (ji4))) ∧ w'.cell? (ad353.add ((ji4)).toNat) = some (.int .i64 (rd y332 (ji4)))) (ds := []) #[false, false, false, false, false, false, false, false, false, false, false, false, false, false, false, false, false, false, false, false, false, false, false, false, false, false, false, false, false] (by kernel_rfl) rfl rfl ⟨(blk_cell BK350.out 0).trans rfl, (blk_cell BK350.out 1).trans rfl, (blk_cell BK351.out 0).trans rfl, (blk_cell BK351.out 1).trans rfl, (blk_cell BK349.out 0).trans rfl, (blk_cell BK349.out 1).trans rfl, hx353_0⟩ (fun hHeld => ?_); refine with_tabW newellaw05_WordsShort.tab12 newellaw05_WordsShort.bits12 (fun HT_ HW_ => ?_)
                        generalize w41.drew = w42 at HO331 HO334 HO339 HO343 HO347 BK349 BK350 BK351 HB hx353_0 hHeld ⊢
                        refine one_ (i := 0) (N := some 59) #[true, false, false, false, false, false, false, false, false, false, false, false, false, false, false, false, false, false, false, false, false, false, false, false, false, false, false, false, false] rfl rfl (one_of HT_.out (by kernel_rfl)) (by decide) (fun K hK => ?_)
                        refine goes_ Tryd.func27 (by kernel_rfl) rfl #[] (by rfl) rfl rfl (by (try simp only [List.map_toArray, List.map_cons, List.map_nil]); first | done | rfl | (simp only [List.length_drop, List.length_take]; rfl)) ?_
                        with_reducible refine (newellaw05_awake.calls k  true _ ?side1 A15.out).mono ?_
                        (case side1 => exact Glob.step HG.out (by repeat (first | (with_reducible first | exact HB.out | apply below_alloc | apply pw_below_drewN | apply below_drew1 | refine below_set ?_ GE349.out | refine below_set ?_ GE350.out | refine below_set ?_ GE351.out) | exact HB.out)))
                        rintro e w43 ⟨rfl, hb⟩
                        have HS6_ := (hb.cell (World.block_lt_of_cell? _ _ (hHeld.2.2.2.2.2.2))).trans (hHeld.2.2.2.2.2.2)
                        refine ⟨_, rfl, ?_⟩
                        have n0_ := Aside0.mk (Kd.R_below (by (with_reducible repeat (first | apply Kd.R_alloc | apply Kd.R_drewN | apply Kd.R_drew)); exact HO331.out) hb)
                        have n1_ := Aside0.mk (Kd.R_below (by (with_reducible repeat (first | apply Kd.R_alloc | apply Kd.R_drewN | apply Kd.R_drew)); exact HO334.out) hb)
                        have n2_ := Aside0.mk (Kd.R_below (by (with_reducible repeat (first | apply Kd.R_alloc | apply Kd.R_drewN | apply Kd.R_drew)); exact HO339.out) hb)
                        have n3_ := Aside0.mk (Kd.R_below (by (with_reducible repeat (first | apply Kd.R_alloc | apply Kd.R_drewN | apply Kd.R_drew)); exact HO343.out) hb)
                        have n4_ := Aside0.mk (Kd.R_below (by (with_reducible repeat (first | apply Kd.R_alloc | apply Kd.R_drewN | apply Kd.R_drew)); exact HO347.out) hb)
                        have n5_ := Aside0.mk (blk_below (g := gb349) (o := .cells #[.int .i64 8, .string (rdOf ByteArray.empty y329 (ji4))] 38 (0, 0)) (by (with_reducible repeat (first | refine blk_drewN ?_ _ | refine blk_drew ?_ | refine blk_alloc ?_ _)); exact BK349.out) hb)
                        have n6_ := Aside0.mk (blk_below (g := gb350) (o := .cells #[.int .i64 10, .string (⟨#[49]⟩ : ByteArray)] 38 (0, 0)) (by (with_reducible repeat (first | refine blk_drewN ?_ _ | refine blk_drew ?_ | refine blk_alloc ?_ _)); exact BK350.out) hb)
                        have n7_ := Aside0.mk (blk_below (g := gb351) (o := .cells #[.int .i64 9, .string t335] 38 (0, 0)) (by (with_reducible repeat (first | refine blk_drewN ?_ _ | refine blk_drew ?_ | refine blk_alloc ?_ _)); exact BK351.out) hb)
                        have n8_ := Aside0.mk (below_step (by repeat (first | (with_reducible first | exact HB.out | apply below_alloc | apply pw_below_drewN | apply below_drew1 | refine below_set ?_ GE349.out | refine below_set ?_ GE350.out | refine below_set ?_ GE351.out) | exact HB.out)) hb)
                        clear HO331
                        clear HO334
                        clear HO339
                        clear HO343
                        clear HO347
                        clear BK349
                        clear BK350
                        clear BK351
                        clear HB
                        have HO331 := n0_
                        have HO334 := n1_
                        have HO339 := n2_
                        have HO343 := n3_
                        have HO347 := n4_
                        have BK349 := n5_
                        have BK350 := n6_
                        have BK351 := n7_
                        have HB := n8_
                        clear n0_ n1_ n2_ n3_ n4_ n5_ n6_ n7_ n8_
                        (try clear hb)
                        (try clear hb2)
                        (try clear hk)
                        (try clear hi)
                        obtain ⟨Ao44, co44, eo44⟩ := Kd.R_slice HO334.out
                        (first | subst eo44 | (injection eo44 with f1_ f2_ f3_; have f4_ := f1_.symm; have f5_ := f3_.symm; clear f1_ f2_ f3_; subst f4_; subst f5_))
                        refine hK.out _ _ ⟨(blk_cell BK350.out 0).trans rfl, (blk_cell BK350.out 1).trans rfl, (blk_cell BK351.out 0).trans rfl, (blk_cell BK351.out 1).trans rfl, (blk_cell BK349.out 0).trans rfl, (blk_cell BK349.out 1).trans rfl, HS6_⟩ (fun hHeld => ?_)
                        clear hK K
                        refine norm_ (a' := ?_) ?_ ?_
                        rotate_left
                        · show Act.put _ (some 59) _ = _
                          simp only [Act.put, List.setIfInBounds_toArray, List.set_cons_zero, List.set_cons_succ, i64_w, i32_w]
                          rfl
                        refine pure_ (i := 1) (N := some 60) (v := ?_) (a' := ?_) #[true, true, false, false, false, false, false, false, false, false, false, false, false, false, false, false, false, false, false, false, false, false, false, false, false, false, false, false, false] rfl rfl (any_of HT_.out (by kernel_rfl)) (fun _ _ _ h => h) (Or.inl ⟨by rfl, ?_⟩) ?_ ?_
                        rotate_left
                        · intro w'
                          go_simp
                          with_reducible rfl
                        rotate_left
                        · simp only [Act.put, List.setIfInBounds_toArray, List.set_cons_zero, List.set_cons_succ, i64_w, i32_w]
                          rfl
                        refine pure_ (i := 2) (N := some 61) (v := ?_) (a' := ?_) #[true, true, true, false, false, false, false, false, false, false, false, false, false, false, false, false, false, false, false, false, false, false, false, false, false, false, false, false, false] rfl rfl (any_of HT_.out (by kernel_rfl)) (fun _ _ _ h => h) (Or.inl ⟨by rfl, ?_⟩) ?_ ?_
                        rotate_left
                        · intro w'
                          go_simp
                          with_reducible rfl
                        rotate_left
                        · simp only [Act.put, List.setIfInBounds_toArray, List.set_cons_zero, List.set_cons_succ, i64_w, i32_w]
                          rfl
                        refine pure_ (i := 4) (N := some 63) (v := ?_) (a' := ?_) #[true, true, true, false, true, false, false, false, false, false, false, false, false, false, false, false, false, false, false, false, false, false, false, false, false, false, false, false, false] rfl rfl (any_of HT_.out (by kernel_rfl)) (fun _ _ _ h => h) (Or.inl ⟨by rfl, ?_⟩) ?_ ?_
                        rotate_left
                        · intro w'
                          go_simp
                          with_reducible rfl
                        rotate_left
                        · simp only [Act.put, List.setIfInBounds_toArray, List.set_cons_zero, List.set_cons_succ, i64_w, i32_w]
                          rfl
                        refine pure_ (i := 5) (N := some 64) (v := ?_) (a' := ?_) #[true, true, true, false, true, true, false, false, false, false, false, false, false, false, false, false, false, false, false, false, false, false, false, false, false, false, false, false, false] rfl rfl (any_of HT_.out (by kernel_rfl)) (fun _ _ _ h => h) (Or.inl ⟨by rfl, ?_⟩) ?_ ?_
                        rotate_left
                        · intro w'
                          go_simp
                          with_reducible rfl
                        rotate_left
                        · simp only [Act.put, List.setIfInBounds_toArray, List.set_cons_zero, List.set_cons_succ, i64_w, i32_w]
                          rfl
                        refine pure_ (i := 6) (N := some 65) (v := ?_) (a' := ?_) #[true, true, true, false, true, true, true, false, false, false, false, false, false, false, false, false, false, false, false, false, false, false, false, false, false, false, false, false, false] rfl rfl (any_of HT_.out (by kernel_rfl)) (fun _ _ _ h => h) (Or.inl ⟨by rfl, ?_⟩) ?_ ?_
                        rotate_left
                        · intro w'
                          go_simp
                          with_reducible rfl
                        rotate_left
                        · simp only [Act.put, List.setIfInBounds_toArray, List.set_cons_zero, List.set_cons_succ, i64_w, i32_w]
                          rfl
                        refine take_ (i := 3) (N := some 62) (v := ?_) (a' := ?_) #[true, true, true, true, true, true, true, false, false, false, false, false, false, false, false, false, false, false, false, false, false, false, false, false, false, false, false, false, false] rfl rfl (take_ofW HT_.out HW_.out (by kernel_rfl)) (fun _ _ _ h => h) (Or.inl ⟨by rfl, ?_⟩) hHeld ?_ ?_
                        rotate_left
                        · rintro w' ⟨s0, s1, s2, s3, s4, s5, s6⟩
                          go_simp
                          with_reducible rfl
                        rotate_left
                        · simp only [Act.put, List.setIfInBounds_toArray, List.set_cons_zero, List.set_cons_succ, i64_w, i32_w]
                          rfl
                        refine take_ (i := 7) (N := some 66) (v := ?_) (a' := ?_) #[true, true, true, true, true, true, true, true, false, false, false, false, false, false, false, false, false, false, false, false, false, false, false, false, false, false, false, false, false] rfl rfl (take_ofW HT_.out HW_.out (by kernel_rfl)) (fun _ _ _ h => h) (Or.inl ⟨by rfl, ?_⟩) hHeld ?_ ?_
                        rotate_left
                        · rintro w' ⟨s0, s1, s2, s3, s4, s5, s6⟩
                          go_simp
                          with_reducible rfl
                        rotate_left
                        · simp only [Act.put, List.setIfInBounds_toArray, List.set_cons_zero, List.set_cons_succ, i64_w, i32_w]
                          rfl
                        refine pure_ (i := 8) (N := some 67) (v := ?_) (a' := ?_) #[true, true, true, true, true, true, true, true, true, false, false, false, false, false, false, false, false, false, false, false, false, false, false, false, false, false, false, false, false] rfl rfl (any_of HT_.out (by kernel_rfl)) (fun _ _ _ h => h) (Or.inl ⟨by rfl, ?_⟩) ?_ ?_
                        rotate_left
                        · intro w'
                          go_simp
                          with_reducible rfl
                        rotate_left
                        · simp only [Act.put, List.setIfInBounds_toArray, List.set_cons_zero, List.set_cons_succ, i64_w, i32_w]
                          rfl
                        refine take_ (i := 9) (N := some 68) (v := ?_) (a' := ?_) #[true, true, true, true, true, true, true, true, true, true, false, false, false, false, false, false, false, false, false, false, false, false, false, false, false, false, false, false, false] rfl rfl (take_ofW HT_.out HW_.out (by kernel_rfl)) (fun _ _ _ h => h) (Or.inl ⟨by rfl, ?_⟩) hHeld ?_ ?_
                        rotate_left
                        · rintro w' ⟨s0, s1, s2, s3, s4, s5, s6⟩
                          go_simp
                          with_reducible rfl
                        rotate_left
                        · simp only [Act.put, List.setIfInBounds_toArray, List.set_cons_zero, List.set_cons_succ, i64_w, i32_w]
                          rfl
                        refine one_ (i := 10) (N := some 69) #[true, true, true, true, true, true, true, true, true, true, true, false, false, false, false, false, false, false, false, false, false, false, false, false, false, false, false, false, false] rfl rfl (one_of HT_.out (by kernel_rfl)) (by decide) (fun K hK => ?_)
                        refine Kd.R_lit_step k38 _ 38 ?hg (N := 69) ?hd (xs := ([(⟨10, (⟨#[49]⟩ : ByteArray)⟩ : S38), (⟨rd y332 (ji4), (⟨#[]⟩ : ByteArray)⟩ : S38), (⟨9, t335⟩ : S38)] : List (S38))) (inner := [.int .i64 10, .string (⟨#[49]⟩ : ByteArray), .int .i64 (rd y332 (ji4)), .string (⟨#[]⟩ : ByteArray), .int .i64 9, .string t335]) (ok := fun _ => True) (okp := fun _ => True) ?hr ?hp (fun _ hk => hk) trivial (Below.refl _ _) (Nat.le_refl _) (by simp) ?_; (case hd => rfl); (case hg => rfl); (case hr => first | (go_simp; done) | (go_simp; rfl)); (case hp => exact (Reps.c2 (show Kd.M k38 _ _ _ (⟨10, (⟨#[49]⟩ : ByteArray)⟩ : S38) [.int .i64 10, .string (⟨#[49]⟩ : ByteArray)] from (k38_mkM _ _ _ (⟨10, (⟨#[49]⟩ : ByteArray)⟩ : S38) )) (Reps.c2 (show Kd.M k38 _ _ _ (⟨rd y332 (ji4), (⟨#[]⟩ : ByteArray)⟩ : S38) [.int .i64 (rd y332 (ji4)), .string (⟨#[]⟩ : ByteArray)] from (k38_mkM _ _ _ (⟨rd y332 (ji4), (⟨#[]⟩ : ByteArray)⟩ : S38) )) (Reps.c2 (show Kd.M k38 _ _ _ (⟨9, t335⟩ : S38) [.int .i64 9, .string t335] from (k38_mkM _ _ _ (⟨9, t335⟩ : S38) )) (Reps.none _ _)))))
                        intro v355 w45 ho46 hb hg_ hnew_
                        have HS6_ := (hb.cell (World.block_lt_of_cell? _ _ (hHeld.2.2.2.2.2.2))).trans (hHeld.2.2.2.2.2.2)
                        clear hg_ hnew_
                        (first | rw [← Ny354.out] at ho46 | (simp only [Int.reduceToNat] at ho46; rw [← Ny354.out] at ho46))
                        have n0_ := Aside0.mk (Kd.R_below (by (with_reducible repeat (first | apply Kd.R_alloc | apply Kd.R_drewN | apply Kd.R_drew)); exact HO331.out) hb)
                        have n1_ := Aside0.mk (Kd.R_below (by (with_reducible repeat (first | apply Kd.R_alloc | apply Kd.R_drewN | apply Kd.R_drew)); exact HO334.out) hb)
                        have n2_ := Aside0.mk (Kd.R_elder' (by (with_reducible repeat (first | apply Kd.R_alloc | apply Kd.R_drewN | apply Kd.R_drew)); exact HO339.out) (Kd.R_base ho46) hb)
                        have n3_ := Aside0.mk (Kd.R_elder' (by (with_reducible repeat (first | apply Kd.R_alloc | apply Kd.R_drewN | apply Kd.R_drew)); exact HO343.out) (Kd.R_base ho46) hb)
                        have n4_ := Aside0.mk (Kd.R_elder' (by (with_reducible repeat (first | apply Kd.R_alloc | apply Kd.R_drewN | apply Kd.R_drew)); exact HO347.out) (Kd.R_base ho46) hb)
                        have n5_ := Aside0.mk (Kd.R_lower (Kd.R_newB (Kd.R_newB (Kd.R_newB (Kd.R_new' (Kd.R_new' (Kd.R_new' ho46 (Kd.R_lt (by (with_reducible repeat (first | apply Kd.R_alloc | apply Kd.R_drewN | apply Kd.R_drew)); exact HO339.out))) (Kd.R_lt (by (with_reducible repeat (first | apply Kd.R_alloc | apply Kd.R_drewN | apply Kd.R_drew)); exact HO343.out))) (Kd.R_lt (by (with_reducible repeat (first | apply Kd.R_alloc | apply Kd.R_drewN | apply Kd.R_drew)); exact HO347.out))) (g := gb349) (o := .cells #[.int .i64 8, .string (rdOf ByteArray.empty y329 (ji4))] 38 (0, 0)) (by (with_reducible repeat (first | refine blk_drewN ?_ _ | refine blk_drew ?_ | refine blk_alloc ?_ _)); exact BK349.out)) (g := gb350) (o := .cells #[.int .i64 10, .string (⟨#[49]⟩ : ByteArray)] 38 (0, 0)) (by (with_reducible repeat (first | refine blk_drewN ?_ _ | refine blk_drew ?_ | refine blk_alloc ?_ _)); exact BK350.out)) (g := gb351) (o := .cells #[.int .i64 9, .string t335] 38 (0, 0)) (by (with_reducible repeat (first | refine blk_drewN ?_ _ | refine blk_drew ?_ | refine blk_alloc ?_ _)); exact BK351.out)) (below_size (by repeat (first | (with_reducible first | exact HB.out | apply below_alloc | apply pw_below_drewN | apply below_drew1 | refine below_set ?_ GE349.out | refine below_set ?_ GE350.out | refine below_set ?_ GE351.out) | exact HB.out))))
                        have n6_ := Aside0.mk (blk_below (g := gb349) (o := .cells #[.int .i64 8, .string (rdOf ByteArray.empty y329 (ji4))] 38 (0, 0)) (by (with_reducible repeat (first | refine blk_drewN ?_ _ | refine blk_drew ?_ | refine blk_alloc ?_ _)); exact BK349.out) hb)
                        have n7_ := Aside0.mk (blk_below (g := gb350) (o := .cells #[.int .i64 10, .string (⟨#[49]⟩ : ByteArray)] 38 (0, 0)) (by (with_reducible repeat (first | refine blk_drewN ?_ _ | refine blk_drew ?_ | refine blk_alloc ?_ _)); exact BK350.out) hb)
                        have n8_ := Aside0.mk (blk_below (g := gb351) (o := .cells #[.int .i64 9, .string t335] 38 (0, 0)) (by (with_reducible repeat (first | refine blk_drewN ?_ _ | refine blk_drew ?_ | refine blk_alloc ?_ _)); exact BK351.out) hb)
                        have n9_ := Aside0.mk (below_step (by repeat (first | (with_reducible first | exact HB.out | apply below_alloc | apply pw_below_drewN | apply below_drew1 | refine below_set ?_ GE349.out | refine below_set ?_ GE350.out | refine below_set ?_ GE351.out) | exact HB.out)) hb)
                        clear HO331
                        clear HO334
                        clear HO339
                        clear HO343
                        clear HO347
                        clear BK349
                        clear BK350
                        clear BK351
                        clear HB
                        have HO331 := n0_
                        have HO334 := n1_
                        have HO339 := n2_
                        have HO343 := n3_
                        have HO347 := n4_
                        have HO356 := n5_
                        have BK349 := n6_
                        have BK350 := n7_
                        have BK351 := n8_
                        have HB := n9_
                        clear n0_ n1_ n2_ n3_ n4_ n5_ n6_ n7_ n8_ n9_
                        clear hb ho46
                        obtain ⟨Ao47, co47, eo47⟩ := Kd.R_slice HO339.out
                        (first | subst eo47 | (injection eo47 with f1_ f2_ f3_; have f4_ := f1_.symm; have f5_ := f3_.symm; clear f1_ f2_ f3_; subst f4_; subst f5_))
                        obtain ⟨Ao48, co48, eo48⟩ := Kd.R_slice HO356.out
                        (first | subst eo48 | (injection eo48 with f1_ f2_ f3_; have f4_ := f1_.symm; have f5_ := f3_.symm; clear f1_ f2_ f3_; subst f4_; subst f5_))
                        refine hK.out _ _ ⟨(blk_cell BK350.out 0).trans rfl, (blk_cell BK350.out 1).trans rfl, (blk_cell BK351.out 0).trans rfl, (blk_cell BK351.out 1).trans rfl, (blk_cell BK349.out 0).trans rfl, (blk_cell BK349.out 1).trans rfl, HS6_⟩ (fun hHeld => ?_)
                        clear hK K
                        refine norm_ (a' := ?_) ?_ ?_
                        rotate_left
                        · show Act.put _ (some 69) _ = _
                          simp only [Act.put, List.setIfInBounds_toArray, List.set_cons_zero, List.set_cons_succ, i64_w, i32_w]
                          rfl
                        refine one_ (i := 11) (N := some 70) #[true, true, true, true, true, true, true, true, true, true, true, true, false, false, false, false, false, false, false, false, false, false, false, false, false, false, false, false, false] rfl rfl (one_of HT_.out (by kernel_rfl)) (by decide) (fun K hK => ?_)
                        refine goes_ Tryd.func30 (by kernel_rfl) rfl #[.slice Ao47 t337.length co47, .slice Ao48 y354.length co48] (by rfl) rfl rfl (by (try simp only [List.map_toArray, List.map_cons, List.map_nil]); first | done | rfl | (simp only [List.length_drop, List.length_take]; rfl)) ?_
                        with_reducible refine (api_Word_30.calls k _ _ t337 _ _ y354 true _ ?side1 ?side2 ?side3 ?side4 ?side5 A18.out).mono ?_
                        (case side1 => repeat (first | exact (Kd.R_reads' HO339.out).2.2 | (with_reducible refine Kd.C_alloc ?_ _) | (with_reducible refine Kd.C_drewN ?_ _) | (with_reducible refine Kd.C_drew ?_)))
                        (case side2 => exact (Kd.R_reads' HO339.out).2.1)
                        (case side3 => repeat (first | exact (Kd.R_reads' HO356.out).2.2 | (with_reducible refine Kd.C_alloc ?_ _) | (with_reducible refine Kd.C_drewN ?_ _) | (with_reducible refine Kd.C_drew ?_)))
                        (case side4 => exact (Kd.R_reads' HO356.out).2.1)
                        (case side5 => exact Glob.step HG.out (by repeat (first | (with_reducible first | exact HB.out | apply below_alloc | apply pw_below_drewN | apply below_drew1 | refine below_set ?_ GE349.out | refine below_set ?_ GE350.out | refine below_set ?_ GE351.out) | exact HB.out)))
                        rintro e w49 ⟨rfl, hb⟩
                        have HS6_ := (hb.cell (World.block_lt_of_cell? _ _ (hHeld.2.2.2.2.2.2))).trans (hHeld.2.2.2.2.2.2)
                        refine ⟨_, rfl, ?_⟩
                        have n0_ := Aside0.mk (Kd.R_below (by (with_reducible repeat (first | apply Kd.R_alloc | apply Kd.R_drewN | apply Kd.R_drew)); exact HO331.out) hb)
                        have n1_ := Aside0.mk (Kd.R_below (by (with_reducible repeat (first | apply Kd.R_alloc | apply Kd.R_drewN | apply Kd.R_drew)); exact HO334.out) hb)
                        have n2_ := Aside0.mk (Kd.R_below (by (with_reducible repeat (first | apply Kd.R_alloc | apply Kd.R_drewN | apply Kd.R_drew)); exact HO339.out) hb)
                        have n3_ := Aside0.mk (Kd.R_below (by (with_reducible repeat (first | apply Kd.R_alloc | apply Kd.R_drewN | apply Kd.R_drew)); exact HO343.out) hb)
                        have n4_ := Aside0.mk (Kd.R_below (by (with_reducible repeat (first | apply Kd.R_alloc | apply Kd.R_drewN | apply Kd.R_drew)); exact HO347.out) hb)
                        have n5_ := Aside0.mk (Kd.R_below (by (with_reducible repeat (first | apply Kd.R_alloc | apply Kd.R_drewN | apply Kd.R_drew)); exact HO356.out) hb)
                        have n6_ := Aside0.mk (blk_below (g := gb349) (o := .cells #[.int .i64 8, .string (rdOf ByteArray.empty y329 (ji4))] 38 (0, 0)) (by (with_reducible repeat (first | refine blk_drewN ?_ _ | refine blk_drew ?_ | refine blk_alloc ?_ _)); exact BK349.out) hb)
                        have n7_ := Aside0.mk (blk_below (g := gb350) (o := .cells #[.int .i64 10, .string (⟨#[49]⟩ : ByteArray)] 38 (0, 0)) (by (with_reducible repeat (first | refine blk_drewN ?_ _ | refine blk_drew ?_ | refine blk_alloc ?_ _)); exact BK350.out) hb)
                        have n8_ := Aside0.mk (blk_below (g := gb351) (o := .cells #[.int .i64 9, .string t335] 38 (0, 0)) (by (with_reducible repeat (first | refine blk_drewN ?_ _ | refine blk_drew ?_ | refine blk_alloc ?_ _)); exact BK351.out) hb)
                        have n9_ := Aside0.mk (below_step (by repeat (first | (with_reducible first | exact HB.out | apply below_alloc | apply pw_below_drewN | apply below_drew1 | refine below_set ?_ GE349.out | refine below_set ?_ GE350.out | refine below_set ?_ GE351.out) | exact HB.out)) hb)
                        clear HO331
                        clear HO334
                        clear HO339
                        clear HO343
                        clear HO347
                        clear HO356
                        clear BK349
                        clear BK350
                        clear BK351
                        clear HB
                        have HO331 := n0_
                        have HO334 := n1_
                        have HO339 := n2_
                        have HO343 := n3_
                        have HO347 := n4_
                        have HO356 := n5_
                        have BK349 := n6_
                        have BK350 := n7_
                        have BK351 := n8_
                        have HB := n9_
                        clear n0_ n1_ n2_ n3_ n4_ n5_ n6_ n7_ n8_ n9_
                        (try clear hb)
                        (try clear hb2)
                        (try clear hk)
                        (try clear hi)
                        refine hK.out _ _ ⟨(blk_cell BK350.out 0).trans rfl, (blk_cell BK350.out 1).trans rfl, (blk_cell BK351.out 0).trans rfl, (blk_cell BK351.out 1).trans rfl, (blk_cell BK349.out 0).trans rfl, (blk_cell BK349.out 1).trans rfl, HS6_⟩ (fun hHeld => ?_)
                        clear hK K
                        refine norm_ (a' := ?_) ?_ ?_
                        rotate_left
                        · show Act.put _ (some 70) _ = _
                          simp only [Act.put, List.setIfInBounds_toArray, List.set_cons_zero, List.set_cons_succ, i64_w, i32_w]
                          rfl
                        refine pure_ (i := 12) (N := some 71) (v := ?_) (a' := ?_) #[true, true, true, true, true, true, true, true, true, true, true, true, true, false, false, false, false, false, false, false, false, false, false, false, false, false, false, false, false] rfl rfl (any_of HT_.out (by kernel_rfl)) (fun _ _ _ h => h) (Or.inl ⟨by rfl, ?_⟩) ?_ ?_
                        rotate_left
                        · intro w'
                          go_simp
                          with_reducible rfl
                        rotate_left
                        · simp only [Act.put, List.setIfInBounds_toArray, List.set_cons_zero, List.set_cons_succ, i64_w, i32_w]
                          rfl
                        refine pure_ (i := 13) (N := some 72) (v := ?_) (a' := ?_) #[true, true, true, true, true, true, true, true, true, true, true, true, true, true, false, false, false, false, false, false, false, false, false, false, false, false, false, false, false] rfl rfl (any_of HT_.out (by kernel_rfl)) (fun _ _ _ h => h) (Or.inl ⟨by rfl, ?_⟩) ?_ ?_
                        rotate_left
                        · intro w'
                          go_simp
                          with_reducible rfl
                        rotate_left
                        · simp only [Act.put, List.setIfInBounds_toArray, List.set_cons_zero, List.set_cons_succ, i64_w, i32_w]
                          rfl
                        refine pure_ (i := 14) (N := some 73) (v := ?_) (a' := ?_) #[true, true, true, true, true, true, true, true, true, true, true, true, true, true, true, false, false, false, false, false, false, false, false, false, false, false, false, false, false] rfl rfl (any_of HT_.out (by kernel_rfl)) (fun _ _ _ h => h) (Or.inl ⟨by rfl, ?_⟩) ?_ ?_
                        rotate_left
                        · intro w'
                          go_simp
                          with_reducible rfl
                        rotate_left
                        · simp only [Act.put, List.setIfInBounds_toArray, List.set_cons_zero, List.set_cons_succ, i64_w, i32_w]
                          rfl
                        refine take_ (i := 15) (N := some 74) (v := ?_) (a' := ?_) #[true, true, true, true, true, true, true, true, true, true, true, true, true, true, true, true, false, false, false, false, false, false, false, false, false, false, false, false, false] rfl rfl (take_ofW HT_.out HW_.out (by kernel_rfl)) (fun _ _ _ h => h) (Or.inl ⟨by rfl, ?_⟩) hHeld ?_ ?_
                        rotate_left
                        · rintro w' ⟨s0, s1, s2, s3, s4, s5, s6⟩
                          go_simp
                          with_reducible rfl
                        rotate_left
                        · simp only [Act.put, List.setIfInBounds_toArray, List.set_cons_zero, List.set_cons_succ, i64_w, i32_w]
                          rfl
                        refine take_ (i := 16) (N := some 75) (v := ?_) (a' := ?_) #[true, true, true, true, true, true, true, true, true, true, true, true, true, true, true, true, true, false, false, false, false, false, false, false, false, false, false, false, false] rfl rfl (take_ofW HT_.out HW_.out (by kernel_rfl)) (fun _ _ _ h => h) (Or.inl ⟨by rfl, ?_⟩) hHeld ?_ ?_
                        rotate_left
                        · rintro w' ⟨s0, s1, s2, s3, s4, s5, s6⟩
                          go_simp
                          with_reducible rfl
                        rotate_left
                        · simp only [Act.put, List.setIfInBounds_toArray, List.set_cons_zero, List.set_cons_succ, i64_w, i32_w]
                          rfl
                        refine take_ (i := 17) (N := some 76) (v := ?_) (a' := ?_) #[true, true, true, true, true, true, true, true, true, true, true, true, true, true, true, true, true, true, false, false, false, false, false, false, false, false, false, false, false] rfl rfl (take_ofW HT_.out HW_.out (by kernel_rfl)) (fun _ _ _ h => h) (Or.inl ⟨by rfl, ?_⟩) hHeld ?_ ?_
                        rotate_left
                        · rintro w' ⟨s0, s1, s2, s3, s4, s5, s6⟩
                          go_simp
                          with_reducible rfl
                        rotate_left
                        · simp only [Act.put, List.setIfInBounds_toArray, List.set_cons_zero, List.set_cons_succ, i64_w, i32_w]
                          rfl
                        refine one_ (i := 18) (N := some 77) #[true, true, true, true, true, true, true, true, true, true, true, true, true, true, true, true, true, true, true, false, false, false, false, false, false, false, false, false, false] rfl rfl (one_of HT_.out (by kernel_rfl)) (by decide) (fun K hK => ?_)
                        refine Kd.R_lit_step k38 _ 38 ?hg (N := 77) ?hd (xs := ([(⟨10, (⟨#[49]⟩ : ByteArray)⟩ : S38), (⟨8, rdOf ByteArray.empty y329 (ji4)⟩ : S38), (⟨9, t335⟩ : S38)] : List (S38))) (inner := [.int .i64 10, .string (⟨#[49]⟩ : ByteArray), .int .i64 8, .string (rdOf ByteArray.empty y329 (ji4)), .int .i64 9, .string t335]) (ok := fun _ => True) (okp := fun _ => True) ?hr ?hp (fun _ hk => hk) trivial (Below.refl _ _) (Nat.le_refl _) (by simp) ?_; (case hd => rfl); (case hg => rfl); (case hr => first | (go_simp; done) | (go_simp; rfl)); (case hp => exact (Reps.c2 (show Kd.M k38 _ _ _ (⟨10, (⟨#[49]⟩ : ByteArray)⟩ : S38) [.int .i64 10, .string (⟨#[49]⟩ : ByteArray)] from (k38_mkM _ _ _ (⟨10, (⟨#[49]⟩ : ByteArray)⟩ : S38) )) (Reps.c2 (show Kd.M k38 _ _ _ (⟨8, rdOf ByteArray.empty y329 (ji4)⟩ : S38) [.int .i64 8, .string (rdOf ByteArray.empty y329 (ji4))] from (k38_mkM _ _ _ (⟨8, rdOf ByteArray.empty y329 (ji4)⟩ : S38) )) (Reps.c2 (show Kd.M k38 _ _ _ (⟨9, t335⟩ : S38) [.int .i64 9, .string t335] from (k38_mkM _ _ _ (⟨9, t335⟩ : S38) )) (Reps.none _ _)))))
                        intro v359 w50 ho51 hb hg_ hnew_
                        have HS6_ := (hb.cell (World.block_lt_of_cell? _ _ (hHeld.2.2.2.2.2.2))).trans (hHeld.2.2.2.2.2.2)
                        clear hg_ hnew_
                        (first | rw [← Ny358.out] at ho51 | (simp only [Int.reduceToNat] at ho51; rw [← Ny358.out] at ho51))
                        have n0_ := Aside0.mk (Kd.R_below (by (with_reducible repeat (first | apply Kd.R_alloc | apply Kd.R_drewN | apply Kd.R_drew)); exact HO331.out) hb)
                        have n1_ := Aside0.mk (Kd.R_below (by (with_reducible repeat (first | apply Kd.R_alloc | apply Kd.R_drewN | apply Kd.R_drew)); exact HO334.out) hb)
                        have n2_ := Aside0.mk (Kd.R_elder' (by (with_reducible repeat (first | apply Kd.R_alloc | apply Kd.R_drewN | apply Kd.R_drew)); exact HO339.out) (Kd.R_base ho51) hb)
                        have n3_ := Aside0.mk (Kd.R_elder' (by (with_reducible repeat (first | apply Kd.R_alloc | apply Kd.R_drewN | apply Kd.R_drew)); exact HO343.out) (Kd.R_base ho51) hb)
                        have n4_ := Aside0.mk (Kd.R_elder' (by (with_reducible repeat (first | apply Kd.R_alloc | apply Kd.R_drewN | apply Kd.R_drew)); exact HO347.out) (Kd.R_base ho51) hb)
                        have n5_ := Aside0.mk (Kd.R_elder' (by (with_reducible repeat (first | apply Kd.R_alloc | apply Kd.R_drewN | apply Kd.R_drew)); exact HO356.out) (Kd.R_base ho51) hb)
                        have n6_ := Aside0.mk (Kd.R_lower (Kd.R_newB (Kd.R_newB (Kd.R_newB (Kd.R_new' (Kd.R_new' (Kd.R_new' (Kd.R_new' ho51 (Kd.R_lt (by (with_reducible repeat (first | apply Kd.R_alloc | apply Kd.R_drewN | apply Kd.R_drew)); exact HO339.out))) (Kd.R_lt (by (with_reducible repeat (first | apply Kd.R_alloc | apply Kd.R_drewN | apply Kd.R_drew)); exact HO343.out))) (Kd.R_lt (by (with_reducible repeat (first | apply Kd.R_alloc | apply Kd.R_drewN | apply Kd.R_drew)); exact HO347.out))) (Kd.R_lt (by (with_reducible repeat (first | apply Kd.R_alloc | apply Kd.R_drewN | apply Kd.R_drew)); exact HO356.out))) (g := gb349) (o := .cells #[.int .i64 8, .string (rdOf ByteArray.empty y329 (ji4))] 38 (0, 0)) (by (with_reducible repeat (first | refine blk_drewN ?_ _ | refine blk_drew ?_ | refine blk_alloc ?_ _)); exact BK349.out)) (g := gb350) (o := .cells #[.int .i64 10, .string (⟨#[49]⟩ : ByteArray)] 38 (0, 0)) (by (with_reducible repeat (first | refine blk_drewN ?_ _ | refine blk_drew ?_ | refine blk_alloc ?_ _)); exact BK350.out)) (g := gb351) (o := .cells #[.int .i64 9, .string t335] 38 (0, 0)) (by (with_reducible repeat (first | refine blk_drewN ?_ _ | refine blk_drew ?_ | refine blk_alloc ?_ _)); exact BK351.out)) (below_size (by repeat (first | (with_reducible first | exact HB.out | apply below_alloc | apply pw_below_drewN | apply below_drew1 | refine below_set ?_ GE349.out | refine below_set ?_ GE350.out | refine below_set ?_ GE351.out) | exact HB.out))))
                        have n7_ := Aside0.mk (blk_below (g := gb349) (o := .cells #[.int .i64 8, .string (rdOf ByteArray.empty y329 (ji4))] 38 (0, 0)) (by (with_reducible repeat (first | refine blk_drewN ?_ _ | refine blk_drew ?_ | refine blk_alloc ?_ _)); exact BK349.out) hb)
                        have n8_ := Aside0.mk (blk_below (g := gb350) (o := .cells #[.int .i64 10, .string (⟨#[49]⟩ : ByteArray)] 38 (0, 0)) (by (with_reducible repeat (first | refine blk_drewN ?_ _ | refine blk_drew ?_ | refine blk_alloc ?_ _)); exact BK350.out) hb)
                        have n9_ := Aside0.mk (blk_below (g := gb351) (o := .cells #[.int .i64 9, .string t335] 38 (0, 0)) (by (with_reducible repeat (first | refine blk_drewN ?_ _ | refine blk_drew ?_ | refine blk_alloc ?_ _)); exact BK351.out) hb)
                        have n10_ := Aside0.mk (below_step (by repeat (first | (with_reducible first | exact HB.out | apply below_alloc | apply pw_below_drewN | apply below_drew1 | refine below_set ?_ GE349.out | refine below_set ?_ GE350.out | refine below_set ?_ GE351.out) | exact HB.out)) hb)
                        clear HO331
                        clear HO334
                        clear HO339
                        clear HO343
                        clear HO347
                        clear HO356
                        clear BK349
                        clear BK350
                        clear BK351
                        clear HB
                        have HO331 := n0_
                        have HO334 := n1_
                        have HO339 := n2_
                        have HO343 := n3_
                        have HO347 := n4_
                        have HO356 := n5_
                        have HO360 := n6_
                        have BK349 := n7_
                        have BK350 := n8_
                        have BK351 := n9_
                        have HB := n10_
                        clear n0_ n1_ n2_ n3_ n4_ n5_ n6_ n7_ n8_ n9_ n10_
                        clear hb ho51
                        obtain ⟨Ao52, co52, eo52⟩ := Kd.R_slice HO343.out
                        (first | subst eo52 | (injection eo52 with f1_ f2_ f3_; have f4_ := f1_.symm; have f5_ := f3_.symm; clear f1_ f2_ f3_; subst f4_; subst f5_))
                        obtain ⟨Ao53, co53, eo53⟩ := Kd.R_slice HO360.out
                        (first | subst eo53 | (injection eo53 with f1_ f2_ f3_; have f4_ := f1_.symm; have f5_ := f3_.symm; clear f1_ f2_ f3_; subst f4_; subst f5_))
                        refine hK.out _ _ ⟨(blk_cell BK350.out 0).trans rfl, (blk_cell BK350.out 1).trans rfl, (blk_cell BK351.out 0).trans rfl, (blk_cell BK351.out 1).trans rfl, (blk_cell BK349.out 0).trans rfl, (blk_cell BK349.out 1).trans rfl, HS6_⟩ (fun hHeld => ?_)
                        clear hK K
                        refine norm_ (a' := ?_) ?_ ?_
                        rotate_left
                        · show Act.put _ (some 77) _ = _
                          simp only [Act.put, List.setIfInBounds_toArray, List.set_cons_zero, List.set_cons_succ, i64_w, i32_w]
                          rfl
                        refine one_ (i := 19) (N := some 78) #[true, true, true, true, true, true, true, true, true, true, true, true, true, true, true, true, true, true, true, true, false, false, false, false, false, false, false, false, false] rfl rfl (one_of HT_.out (by kernel_rfl)) (by decide) (fun K hK => ?_)
                        refine goes_ Tryd.func30 (by kernel_rfl) rfl #[.slice Ao52 t341.length co52, .slice Ao53 y358.length co53] (by rfl) rfl rfl (by (try simp only [List.map_toArray, List.map_cons, List.map_nil]); first | done | rfl | (simp only [List.length_drop, List.length_take]; rfl)) ?_
                        with_reducible refine (api_Word_30.calls k _ _ t341 _ _ y358 true _ ?side1 ?side2 ?side3 ?side4 ?side5 A20.out).mono ?_
                        (case side1 => repeat (first | exact (Kd.R_reads' HO343.out).2.2 | (with_reducible refine Kd.C_alloc ?_ _) | (with_reducible refine Kd.C_drewN ?_ _) | (with_reducible refine Kd.C_drew ?_)))
                        (case side2 => exact (Kd.R_reads' HO343.out).2.1)
                        (case side3 => repeat (first | exact (Kd.R_reads' HO360.out).2.2 | (with_reducible refine Kd.C_alloc ?_ _) | (with_reducible refine Kd.C_drewN ?_ _) | (with_reducible refine Kd.C_drew ?_)))
                        (case side4 => exact (Kd.R_reads' HO360.out).2.1)
                        (case side5 => exact Glob.step HG.out (by repeat (first | (with_reducible first | exact HB.out | apply below_alloc | apply pw_below_drewN | apply below_drew1 | refine below_set ?_ GE349.out | refine below_set ?_ GE350.out | refine below_set ?_ GE351.out) | exact HB.out)))
                        rintro e w54 ⟨rfl, hb⟩
                        have HS6_ := (hb.cell (World.block_lt_of_cell? _ _ (hHeld.2.2.2.2.2.2))).trans (hHeld.2.2.2.2.2.2)
                        refine ⟨_, rfl, ?_⟩
                        have n0_ := Aside0.mk (Kd.R_below (by (with_reducible repeat (first | apply Kd.R_alloc | apply Kd.R_drewN | apply Kd.R_drew)); exact HO331.out) hb)
                        have n1_ := Aside0.mk (Kd.R_below (by (with_reducible repeat (first | apply Kd.R_alloc | apply Kd.R_drewN | apply Kd.R_drew)); exact HO334.out) hb)
                        have n2_ := Aside0.mk (Kd.R_below (by (with_reducible repeat (first | apply Kd.R_alloc | apply Kd.R_drewN | apply Kd.R_drew)); exact HO339.out) hb)
                        have n3_ := Aside0.mk (Kd.R_below (by (with_reducible repeat (first | apply Kd.R_alloc | apply Kd.R_drewN | apply Kd.R_drew)); exact HO343.out) hb)
                        have n4_ := Aside0.mk (Kd.R_below (by (with_reducible repeat (first | apply Kd.R_alloc | apply Kd.R_drewN | apply Kd.R_drew)); exact HO347.out) hb)
                        have n5_ := Aside0.mk (Kd.R_below (by (with_reducible repeat (first | apply Kd.R_alloc | apply Kd.R_drewN | apply Kd.R_drew)); exact HO356.out) hb)
                        have n6_ := Aside0.mk (Kd.R_below (by (with_reducible repeat (first | apply Kd.R_alloc | apply Kd.R_drewN | apply Kd.R_drew)); exact HO360.out) hb)
                        have n7_ := Aside0.mk (blk_below (g := gb349) (o := .cells #[.int .i64 8, .string (rdOf ByteArray.empty y329 (ji4))] 38 (0, 0)) (by (with_reducible repeat (first | refine blk_drewN ?_ _ | refine blk_drew ?_ | refine blk_alloc ?_ _)); exact BK349.out) hb)
                        have n8_ := Aside0.mk (blk_below (g := gb350) (o := .cells #[.int .i64 10, .string (⟨#[49]⟩ : ByteArray)] 38 (0, 0)) (by (with_reducible repeat (first | refine blk_drewN ?_ _ | refine blk_drew ?_ | refine blk_alloc ?_ _)); exact BK350.out) hb)
                        have n9_ := Aside0.mk (blk_below (g := gb351) (o := .cells #[.int .i64 9, .string t335] 38 (0, 0)) (by (with_reducible repeat (first | refine blk_drewN ?_ _ | refine blk_drew ?_ | refine blk_alloc ?_ _)); exact BK351.out) hb)
                        have n10_ := Aside0.mk (below_step (by repeat (first | (with_reducible first | exact HB.out | apply below_alloc | apply pw_below_drewN | apply below_drew1 | refine below_set ?_ GE349.out | refine below_set ?_ GE350.out | refine below_set ?_ GE351.out) | exact HB.out)) hb)
                        clear HO331
                        clear HO334
                        clear HO339
                        clear HO343
                        clear HO347
                        clear HO356
                        clear HO360
                        clear BK349
                        clear BK350
                        clear BK351
                        clear HB
                        have HO331 := n0_
                        have HO334 := n1_
                        have HO339 := n2_
                        have HO343 := n3_
                        have HO347 := n4_
                        have HO356 := n5_
                        have HO360 := n6_
                        have BK349 := n7_
                        have BK350 := n8_
                        have BK351 := n9_
                        have HB := n10_
                        clear n0_ n1_ n2_ n3_ n4_ n5_ n6_ n7_ n8_ n9_ n10_
                        (try clear hb)
                        (try clear hb2)
                        (try clear hk)
                        (try clear hi)
                        refine hK.out _ _ ⟨(blk_cell BK350.out 0).trans rfl, (blk_cell BK350.out 1).trans rfl, (blk_cell BK351.out 0).trans rfl, (blk_cell BK351.out 1).trans rfl, (blk_cell BK349.out 0).trans rfl, (blk_cell BK349.out 1).trans rfl, HS6_⟩ (fun hHeld => ?_)
                        clear hK K
                        refine norm_ (a' := ?_) ?_ ?_
                        rotate_left
                        · show Act.put _ (some 78) _ = _
                          simp only [Act.put, List.setIfInBounds_toArray, List.set_cons_zero, List.set_cons_succ, i64_w, i32_w]
                          rfl
                        refine pure_ (i := 20) (N := some 79) (v := ?_) (a' := ?_) #[true, true, true, true, true, true, true, true, true, true, true, true, true, true, true, true, true, true, true, true, true, false, false, false, false, false, false, false, false] rfl rfl (any_of HT_.out (by kernel_rfl)) (fun _ _ _ h => h) (Or.inl ⟨by rfl, ?_⟩) ?_ ?_
                        rotate_left
                        · intro w'
                          go_simp
                          with_reducible rfl
                        rotate_left
                        · simp only [Act.put, List.setIfInBounds_toArray, List.set_cons_zero, List.set_cons_succ, i64_w, i32_w]
                          rfl
                        refine pure_ (i := 21) (N := some 80) (v := ?_) (a' := ?_) #[true, true, true, true, true, true, true, true, true, true, true, true, true, true, true, true, true, true, true, true, true, true, false, false, false, false, false, false, false] rfl rfl (any_of HT_.out (by kernel_rfl)) (fun _ _ _ h => h) (Or.inl ⟨by rfl, ?_⟩) ?_ ?_
                        rotate_left
                        · intro w'
                          go_simp
                          with_reducible rfl
                        rotate_left
                        · simp only [Act.put, List.setIfInBounds_toArray, List.set_cons_zero, List.set_cons_succ, i64_w, i32_w]
                          rfl
                        refine pure_ (i := 22) (N := some 81) (v := ?_) (a' := ?_) #[true, true, true, true, true, true, true, true, true, true, true, true, true, true, true, true, true, true, true, true, true, true, true, false, false, false, false, false, false] rfl rfl (any_of HT_.out (by kernel_rfl)) (fun _ _ _ h => h) (Or.inl ⟨by rfl, ?_⟩) ?_ ?_
                        rotate_left
                        · intro w'
                          go_simp
                          with_reducible rfl
                        rotate_left
                        · simp only [Act.put, List.setIfInBounds_toArray, List.set_cons_zero, List.set_cons_succ, i64_w, i32_w]
                          rfl
                        refine take_ (i := 23) (N := some 82) (v := ?_) (a' := ?_) #[true, true, true, true, true, true, true, true, true, true, true, true, true, true, true, true, true, true, true, true, true, true, true, true, false, false, false, false, false] rfl rfl (take_ofW HT_.out HW_.out (by kernel_rfl)) (fun _ _ _ h => h) (Or.inl ⟨by rfl, ?_⟩) hHeld ?_ ?_
                        rotate_left
                        · rintro w' ⟨s0, s1, s2, s3, s4, s5, s6⟩
                          go_simp
                          with_reducible rfl
                        rotate_left
                        · simp only [Act.put, List.setIfInBounds_toArray, List.set_cons_zero, List.set_cons_succ, i64_w, i32_w]
                          rfl
                        refine take_ (i := 24) (N := some 83) (v := ?_) (a' := ?_) #[true, true, true, true, true, true, true, true, true, true, true, true, true, true, true, true, true, true, true, true, true, true, true, true, true, false, false, false, false] rfl rfl (take_ofW HT_.out HW_.out (by kernel_rfl)) (fun _ _ _ h => h) (Or.inl ⟨by rfl, ?_⟩) hHeld ?_ ?_
                        rotate_left
                        · rintro w' ⟨s0, s1, s2, s3, s4, s5, s6⟩
                          go_simp
                          with_reducible rfl
                        rotate_left
                        · simp only [Act.put, List.setIfInBounds_toArray, List.set_cons_zero, List.set_cons_succ, i64_w, i32_w]
                          rfl
                        refine one_ (i := 25) (N := some 84) #[true, true, true, true, true, true, true, true, true, true, true, true, true, true, true, true, true, true, true, true, true, true, true, true, true, true, false, false, false] rfl rfl (one_of HT_.out (by kernel_rfl)) (by decide) (fun K hK => ?_)
                        refine Kd.R_lit_step k38 _ 38 ?hg (N := 84) ?hd (xs := ([(⟨10, (⟨#[49]⟩ : ByteArray)⟩ : S38), (⟨8, rdOf ByteArray.empty y329 (ji4)⟩ : S38)] : List (S38))) (inner := [.int .i64 10, .string (⟨#[49]⟩ : ByteArray), .int .i64 8, .string (rdOf ByteArray.empty y329 (ji4))]) (ok := fun _ => True) (okp := fun _ => True) ?hr ?hp (fun _ hk => hk) trivial (Below.refl _ _) (Nat.le_refl _) (by simp) ?_; (case hd => rfl); (case hg => rfl); (case hr => first | (go_simp; done) | (go_simp; rfl)); (case hp => exact (Reps.c2 (show Kd.M k38 _ _ _ (⟨10, (⟨#[49]⟩ : ByteArray)⟩ : S38) [.int .i64 10, .string (⟨#[49]⟩ : ByteArray)] from (k38_mkM _ _ _ (⟨10, (⟨#[49]⟩ : ByteArray)⟩ : S38) )) (Reps.c2 (show Kd.M k38 _ _ _ (⟨8, rdOf ByteArray.empty y329 (ji4)⟩ : S38) [.int .i64 8, .string (rdOf ByteArray.empty y329 (ji4))] from (k38_mkM _ _ _ (⟨8, rdOf ByteArray.empty y329 (ji4)⟩ : S38) )) (Reps.none _ _))))
                        intro v363 w55 ho56 hb hg_ hnew_
                        have HS6_ := (hb.cell (World.block_lt_of_cell? _ _ (hHeld.2.2.2.2.2.2))).trans (hHeld.2.2.2.2.2.2)
                        clear hg_ hnew_
                        (first | rw [← Ny362.out] at ho56 | (simp only [Int.reduceToNat] at ho56; rw [← Ny362.out] at ho56))
                        have n0_ := Aside0.mk (Kd.R_below (by (with_reducible repeat (first | apply Kd.R_alloc | apply Kd.R_drewN | apply Kd.R_drew)); exact HO331.out) hb)
                        have n1_ := Aside0.mk (Kd.R_below (by (with_reducible repeat (first | apply Kd.R_alloc | apply Kd.R_drewN | apply Kd.R_drew)); exact HO334.out) hb)
                        have n2_ := Aside0.mk (Kd.R_elder' (by (with_reducible repeat (first | apply Kd.R_alloc | apply Kd.R_drewN | apply Kd.R_drew)); exact HO339.out) (Kd.R_base ho56) hb)
                        have n3_ := Aside0.mk (Kd.R_elder' (by (with_reducible repeat (first | apply Kd.R_alloc | apply Kd.R_drewN | apply Kd.R_drew)); exact HO343.out) (Kd.R_base ho56) hb)
                        have n4_ := Aside0.mk (Kd.R_elder' (by (with_reducible repeat (first | apply Kd.R_alloc | apply Kd.R_drewN | apply Kd.R_drew)); exact HO347.out) (Kd.R_base ho56) hb)
                        have n5_ := Aside0.mk (Kd.R_elder' (by (with_reducible repeat (first | apply Kd.R_alloc | apply Kd.R_drewN | apply Kd.R_drew)); exact HO356.out) (Kd.R_base ho56) hb)
                        have n6_ := Aside0.mk (Kd.R_elder' (by (with_reducible repeat (first | apply Kd.R_alloc | apply Kd.R_drewN | apply Kd.R_drew)); exact HO360.out) (Kd.R_base ho56) hb)
                        have n7_ := Aside0.mk (Kd.R_lower (Kd.R_newB (Kd.R_newB (Kd.R_newB (Kd.R_new' (Kd.R_new' (Kd.R_new' (Kd.R_new' (Kd.R_new' ho56 (Kd.R_lt (by (with_reducible repeat (first | apply Kd.R_alloc | apply Kd.R_drewN | apply Kd.R_drew)); exact HO339.out))) (Kd.R_lt (by (with_reducible repeat (first | apply Kd.R_alloc | apply Kd.R_drewN | apply Kd.R_drew)); exact HO343.out))) (Kd.R_lt (by (with_reducible repeat (first | apply Kd.R_alloc | apply Kd.R_drewN | apply Kd.R_drew)); exact HO347.out))) (Kd.R_lt (by (with_reducible repeat (first | apply Kd.R_alloc | apply Kd.R_drewN | apply Kd.R_drew)); exact HO356.out))) (Kd.R_lt (by (with_reducible repeat (first | apply Kd.R_alloc | apply Kd.R_drewN | apply Kd.R_drew)); exact HO360.out))) (g := gb349) (o := .cells #[.int .i64 8, .string (rdOf ByteArray.empty y329 (ji4))] 38 (0, 0)) (by (with_reducible repeat (first | refine blk_drewN ?_ _ | refine blk_drew ?_ | refine blk_alloc ?_ _)); exact BK349.out)) (g := gb350) (o := .cells #[.int .i64 10, .string (⟨#[49]⟩ : ByteArray)] 38 (0, 0)) (by (with_reducible repeat (first | refine blk_drewN ?_ _ | refine blk_drew ?_ | refine blk_alloc ?_ _)); exact BK350.out)) (g := gb351) (o := .cells #[.int .i64 9, .string t335] 38 (0, 0)) (by (with_reducible repeat (first | refine blk_drewN ?_ _ | refine blk_drew ?_ | refine blk_alloc ?_ _)); exact BK351.out)) (below_size (by repeat (first | (with_reducible first | exact HB.out | apply below_alloc | apply pw_below_drewN | apply below_drew1 | refine below_set ?_ GE349.out | refine below_set ?_ GE350.out | refine below_set ?_ GE351.out) | exact HB.out))))
                        have n8_ := Aside0.mk (blk_below (g := gb349) (o := .cells #[.int .i64 8, .string (rdOf ByteArray.empty y329 (ji4))] 38 (0, 0)) (by (with_reducible repeat (first | refine blk_drewN ?_ _ | refine blk_drew ?_ | refine blk_alloc ?_ _)); exact BK349.out) hb)
                        have n9_ := Aside0.mk (blk_below (g := gb350) (o := .cells #[.int .i64 10, .string (⟨#[49]⟩ : ByteArray)] 38 (0, 0)) (by (with_reducible repeat (first | refine blk_drewN ?_ _ | refine blk_drew ?_ | refine blk_alloc ?_ _)); exact BK350.out) hb)
                        have n10_ := Aside0.mk (blk_below (g := gb351) (o := .cells #[.int .i64 9, .string t335] 38 (0, 0)) (by (with_reducible repeat (first | refine blk_drewN ?_ _ | refine blk_drew ?_ | refine blk_alloc ?_ _)); exact BK351.out) hb)
                        have n11_ := Aside0.mk (below_step (by repeat (first | (with_reducible first | exact HB.out | apply below_alloc | apply pw_below_drewN | apply below_drew1 | refine below_set ?_ GE349.out | refine below_set ?_ GE350.out | refine below_set ?_ GE351.out) | exact HB.out)) hb)
                        clear HO331
                        clear HO334
                        clear HO339
                        clear HO343
                        clear HO347
                        clear HO356
                        clear HO360
                        clear BK349
                        clear BK350
                        clear BK351
                        clear HB
                        have HO331 := n0_
                        have HO334 := n1_
                        have HO339 := n2_
                        have HO343 := n3_
                        have HO347 := n4_
                        have HO356 := n5_
                        have HO360 := n6_
                        have HO364 := n7_
                        have BK349 := n8_
                        have BK350 := n9_
                        have BK351 := n10_
                        have HB := n11_
                        clear n0_ n1_ n2_ n3_ n4_ n5_ n6_ n7_ n8_ n9_ n10_ n11_
                        clear hb ho56
                        obtain ⟨Ao57, co57, eo57⟩ := Kd.R_slice HO347.out
                        (first | subst eo57 | (injection eo57 with f1_ f2_ f3_; have f4_ := f1_.symm; have f5_ := f3_.symm; clear f1_ f2_ f3_; subst f4_; subst f5_))
                        obtain ⟨Ao58, co58, eo58⟩ := Kd.R_slice HO364.out
                        (first | subst eo58 | (injection eo58 with f1_ f2_ f3_; have f4_ := f1_.symm; have f5_ := f3_.symm; clear f1_ f2_ f3_; subst f4_; subst f5_))
                        refine hK.out _ _ ⟨(blk_cell BK350.out 0).trans rfl, (blk_cell BK350.out 1).trans rfl, (blk_cell BK351.out 0).trans rfl, (blk_cell BK351.out 1).trans rfl, (blk_cell BK349.out 0).trans rfl, (blk_cell BK349.out 1).trans rfl, HS6_⟩ (fun hHeld => ?_)
                        clear hK K
                        refine norm_ (a' := ?_) ?_ ?_
                        rotate_left
                        · show Act.put _ (some 84) _ = _
                          simp only [Act.put, List.setIfInBounds_toArray, List.set_cons_zero, List.set_cons_succ, i64_w, i32_w]
                          rfl
                        refine one_ (i := 26) (N := some 85) #[true, true, true, true, true, true, true, true, true, true, true, true, true, true, true, true, true, true, true, true, true, true, true, true, true, true, true, false, false] rfl rfl (one_of HT_.out (by kernel_rfl)) (by decide) (fun K hK => ?_)
                        refine goes_ Tryd.func30 (by kernel_rfl) rfl #[.slice Ao57 t345.length co57, .slice Ao58 y362.length co58] (by rfl) rfl rfl (by (try simp only [List.map_toArray, List.map_cons, List.map_nil]); first | done | rfl | (simp only [List.length_drop, List.length_take]; rfl)) ?_
                        with_reducible refine (api_Word_30.calls k _ _ t345 _ _ y362 t365 _ ?side1 ?side2 ?side3 ?side4 ?side5 A22.out).mono ?_
                        (case side1 => repeat (first | exact (Kd.R_reads' HO347.out).2.2 | (with_reducible refine Kd.C_alloc ?_ _) | (with_reducible refine Kd.C_drewN ?_ _) | (with_reducible refine Kd.C_drew ?_)))
                        (case side2 => exact (Kd.R_reads' HO347.out).2.1)
                        (case side3 => repeat (first | exact (Kd.R_reads' HO364.out).2.2 | (with_reducible refine Kd.C_alloc ?_ _) | (with_reducible refine Kd.C_drewN ?_ _) | (with_reducible refine Kd.C_drew ?_)))
                        (case side4 => exact (Kd.R_reads' HO364.out).2.1)
                        (case side5 => exact Glob.step HG.out (by repeat (first | (with_reducible first | exact HB.out | apply below_alloc | apply pw_below_drewN | apply below_drew1 | refine below_set ?_ GE349.out | refine below_set ?_ GE350.out | refine below_set ?_ GE351.out) | exact HB.out)))
                        rintro e w59 ⟨rfl, hb⟩
                        have HS6_ := (hb.cell (World.block_lt_of_cell? _ _ (hHeld.2.2.2.2.2.2))).trans (hHeld.2.2.2.2.2.2)
                        refine ⟨_, rfl, ?_⟩
                        have n0_ := Aside0.mk (Kd.R_below (by (with_reducible repeat (first | apply Kd.R_alloc | apply Kd.R_drewN | apply Kd.R_drew)); exact HO331.out) hb)
                        have n1_ := Aside0.mk (Kd.R_below (by (with_reducible repeat (first | apply Kd.R_alloc | apply Kd.R_drewN | apply Kd.R_drew)); exact HO334.out) hb)
                        have n2_ := Aside0.mk (Kd.R_below (by (with_reducible repeat (first | apply Kd.R_alloc | apply Kd.R_drewN | apply Kd.R_drew)); exact HO339.out) hb)
                        have n3_ := Aside0.mk (Kd.R_below (by (with_reducible repeat (first | apply Kd.R_alloc | apply Kd.R_drewN | apply Kd.R_drew)); exact HO343.out) hb)
                        have n4_ := Aside0.mk (Kd.R_below (by (with_reducible repeat (first | apply Kd.R_alloc | apply Kd.R_drewN | apply Kd.R_drew)); exact HO347.out) hb)
                        have n5_ := Aside0.mk (Kd.R_below (by (with_reducible repeat (first | apply Kd.R_alloc | apply Kd.R_drewN | apply Kd.R_drew)); exact HO356.out) hb)
                        have n6_ := Aside0.mk (Kd.R_below (by (with_reducible repeat (first | apply Kd.R_alloc | apply Kd.R_drewN | apply Kd.R_drew)); exact HO360.out) hb)
                        have n7_ := Aside0.mk (Kd.R_below (by (with_reducible repeat (first | apply Kd.R_alloc | apply Kd.R_drewN | apply Kd.R_drew)); exact HO364.out) hb)
                        have n8_ := Aside0.mk (blk_below (g := gb349) (o := .cells #[.int .i64 8, .string (rdOf ByteArray.empty y329 (ji4))] 38 (0, 0)) (by (with_reducible repeat (first | refine blk_drewN ?_ _ | refine blk_drew ?_ | refine blk_alloc ?_ _)); exact BK349.out) hb)
                        have n9_ := Aside0.mk (blk_below (g := gb350) (o := .cells #[.int .i64 10, .string (⟨#[49]⟩ : ByteArray)] 38 (0, 0)) (by (with_reducible repeat (first | refine blk_drewN ?_ _ | refine blk_drew ?_ | refine blk_alloc ?_ _)); exact BK350.out) hb)
                        have n10_ := Aside0.mk (blk_below (g := gb351) (o := .cells #[.int .i64 9, .string t335] 38 (0, 0)) (by (with_reducible repeat (first | refine blk_drewN ?_ _ | refine blk_drew ?_ | refine blk_alloc ?_ _)); exact BK351.out) hb)
                        have n11_ := Aside0.mk (below_step (by repeat (first | (with_reducible first | exact HB.out | apply below_alloc | apply pw_below_drewN | apply below_drew1 | refine below_set ?_ GE349.out | refine below_set ?_ GE350.out | refine below_set ?_ GE351.out) | exact HB.out)) hb)
                        clear HO331
                        clear HO334
                        clear HO339
                        clear HO343
                        clear HO347
                        clear HO356
                        clear HO360
                        clear HO364
                        clear BK349
                        clear BK350
                        clear BK351
                        clear HB
                        have HO331 := n0_
                        have HO334 := n1_
                        have HO339 := n2_
                        have HO343 := n3_
                        have HO347 := n4_
                        have HO356 := n5_
                        have HO360 := n6_
                        have HO364 := n7_
                        have BK349 := n8_
                        have BK350 := n9_
                        have BK351 := n10_
                        have HB := n11_
                        clear n0_ n1_ n2_ n3_ n4_ n5_ n6_ n7_ n8_ n9_ n10_ n11_
                        (try clear hb)
                        (try clear hb2)
                        (try clear hk)
                        (try clear hi)
                        refine hK.out _ _ ⟨(blk_cell BK350.out 0).trans rfl, (blk_cell BK350.out 1).trans rfl, (blk_cell BK351.out 0).trans rfl, (blk_cell BK351.out 1).trans rfl, (blk_cell BK349.out 0).trans rfl, (blk_cell BK349.out 1).trans rfl, HS6_⟩ (fun hHeld => ?_)
                        clear hK K
                        refine norm_ (a' := ?_) ?_ ?_
                        rotate_left
                        · show Act.put _ (some 85) _ = _
                          simp only [Act.put, List.setIfInBounds_toArray, List.set_cons_zero, List.set_cons_succ, i64_w, i32_w]
                          rfl
                        refine pure_ (i := 27) (N := some 86) (v := ?_) (a' := ?_) #[true, true, true, true, true, true, true, true, true, true, true, true, true, true, true, true, true, true, true, true, true, true, true, true, true, true, true, true, false] rfl rfl (any_of HT_.out (by kernel_rfl)) (fun _ _ _ h => h) (Or.inl ⟨by rfl, ?_⟩) ?_ ?_
                        rotate_left
                        · intro w'
                          go_simp
                          with_reducible rfl
                        rotate_left
                        · simp only [Act.put, List.setIfInBounds_toArray, List.set_cons_zero, List.set_cons_succ, i64_w, i32_w]
                          rfl
                        refine pure_ (i := 28) (N := some 4) (v := ?_) (a' := ?_) #[true, true, true, true, true, true, true, true, true, true, true, true, true, true, true, true, true, true, true, true, true, true, true, true, true, true, true, true, true] rfl rfl (any_of HT_.out (by kernel_rfl)) (fun _ _ _ h => h) (Or.inl ⟨by rfl, ?_⟩) ?_ ?_
                        rotate_left
                        · intro w'
                          go_simp
                          with_reducible rfl
                        rotate_left
                        · simp only [Act.put, List.setIfInBounds_toArray, List.set_cons_zero, List.set_cons_succ, i64_w, i32_w]
                          rfl
                        refine done_ (done_of HT_.out (by kernel_rfl)) ?_
                        try go_wp2
                        go_ret
                        exact ⟨by first | rfl | (simp [errW_none, errW_some] <;> rfl) | (simp only [← hji4]; first | rfl | (simp [errW_none, errW_some] <;> rfl)) | (simp [*, errW_none, errW_some] <;> rfl), by repeat (first | (with_reducible first | exact HB.out | apply below_alloc | apply pw_below_drewN | apply below_drew1 | refine below_set ?_ GE349.out | refine below_set ?_ GE350.out | refine below_set ?_ GE351.out) | exact HB.out)⟩
                      · replace c21 := Bool.eq_false_iff.mpr c21
                        subst c21
                        have H1 : (some false) = some r := by rw [if_neg (show ¬ (false = true) by decide)] at H; exact H
                        clear H
                        have H := H1
                        clear H1
                        exfalso
                        obtain rfl := Option.some.inj H
                        exact absurd hr_ (by decide)
                    · replace c19 := Bool.eq_false_iff.mpr c19
                      subst c19
                      have H1 : (some false) = some r := by rw [if_neg (show ¬ (false = true) by decide)] at H; exact H
                      clear H
                      have H := H1
                      clear H1
                      exfalso
                      obtain rfl := Option.some.inj H
                      exact absurd hr_ (by decide)
                  · rw [if_neg c17] at H
                    exact absurd H (by simp)
                · replace c16 := Bool.eq_false_iff.mpr c16
                  subst c16
                  have H1 : (some false) = some r := by rw [if_neg (show ¬ (false = true) by decide)] at H; exact H
                  clear H
                  have H := H1
                  clear H1
                  exfalso
                  obtain rfl := Option.some.inj H
                  exact absurd hr_ (by decide)
              · rw [if_neg c12] at H
                exact absurd H (by simp)
            · rw [if_neg c11] at H
              exact absurd H (by simp)
          · rw [if_neg c10] at H
            exact absurd H (by simp)
        · rw [if_neg c8] at H
          exact absurd H (by simp)
      · rw [if_neg c7] at H
        exact absurd H (by simp)
    · rw [if_neg c6] at H
      exact absurd H (by simp)
  · rw [if_neg c5] at H
    exact absurd H (by simp)

end Go.Proofs.YtgdjfcmmpjcaaaaDoor.Q

namespace Go.Proofs.YtgdjfcmmpjcaaaaDoor.Q
open Go.RowKit Go.Proofs.YtgdjfcmmpjcaaaaDoorW.PrintWords Go.Proofs.YtgdjfcmmpjcaaaaDoorW.PrintLast Go.Proofs.YtgdjfcmmpjcaaaaDoorW.Own Go.Proofs.YtgdjfcmmpjcaaaaDoorW.PrintMore
set_option linter.unusedVariables false
set_option linter.unusedSimpArgs false
namespace Rd
open Go Go.RowKit
def Opens {α : Type} (t : TypeId) (d : Kd α) (wf : α → Prop) (bulk : α → Nat) : Prop :=
  Tryd.prog.cellsOf t = d.sz ∧ ∀ (H : Type) (enc : TypeId × Value → H) (W : World) (fuel : Nat) (cs : List Value) (dd : DataW H) (ps : List MemPlace),
    DataW.trod enc Tryd.prog W 0 (fun _ => true) true fuel t cs = some (dd, ps) → ∃ x, d.K W x cs ∧ wf x ∧ bulk x ≤ Rows.uptoBulk dd
def OpensF {β : Type} (fs : List Field) (off : Nat) (d : Kd β) (wf : β → Prop) (bulk : β → Nat) : Prop :=
  ∀ (H : Type) (enc : TypeId × Value → H) (W : World) (n : Nat) (cs : List Value) (xs : List (DataW H × List MemPlace)), xs.length = fs.length →
    (∀ (i : Nat) (f : Field), fs[i]? = some f → DataW.trod enc Tryd.prog W 0 (fun _ => true) true n f.type ((cs.drop f.offset).take (Tryd.prog.cellsOf f.type)) = xs[i]?) → cs.length = off + d.sz →
    ∃ x, d.K W x (cs.drop off) ∧ wf x ∧ bulk x ≤ Rows.uptoBulkAll (xs.map (·.1))
theorem OpensF.cons {α β : Type} {f : Field} {fs : List Field} {off off' : Nat} {a : Kd α} {b : Kd β} {wf : α → Prop} {bulk : α → Nat} {wf' : β → Prop} {bulk' : β → Nat} (ho : f.offset = off) (ho' : off' = off + a.sz) (h : Opens f.type a wf bulk) (hr : OpensF fs off' b wf' bulk') :
    OpensF (f :: fs) off (Kd.pair a b) (fun x => wf x.1 ∧ wf' x.2) (fun x => bulk x.1 + bulk' x.2) := by
  intro H enc W n cs xs hl ht hc
  subst ho'
  obtain ⟨hsz, hop⟩ := h
  obtain ⟨x0, xs', rfl⟩ : ∃ x0 xs', xs = x0 :: xs' := by
    match xs, hl with
    | x0 :: xs', _ => exact ⟨x0, xs', rfl⟩
  have h0 := ht 0 f rfl
  rw [ho, hsz] at h0
  obtain ⟨x, hk, hw, hb⟩ := hop H enc W n _ _ _ h0
  have hc' : cs.length = off + a.sz + b.sz := by
    have e : (Kd.pair a b).sz = a.sz + b.sz := rfl
    rw [e] at hc
    omega
  obtain ⟨y, hk', hw', hb'⟩ := hr H enc W n cs xs' (by simpa using hl) (fun i g hg => by have := ht (i + 1) g (by simpa using hg); simpa using this) hc'
  refine ⟨(x, y), ⟨(cs.drop off).take a.sz, cs.drop (off + a.sz), ?_, hk, hk'⟩, ⟨hw, hw'⟩, ?_⟩
  · rw [← List.drop_drop, List.take_append_drop]
  · simp only [List.map_cons, Rows.uptoBulkAll]
    omega
theorem glob {W : World} (h : W.ShapedOpen Tryd.prog) : Glob W :=
  cell_of_shapedOpen_int (g := 0) (t := 3) (zero := #[.int .i64 0]) (k := .i64) h (of_decide_eq_true (by kernel_rfl)) (by kernel_rfl) rfl (by kernel_rfl) (by kernel_rfl) Tryd.underlying3
end Rd
end Go.Proofs.YtgdjfcmmpjcaaaaDoor.Q

-- Printed by this session's wip/np.py over the kit's print program. Not trusted: Lean checks it.
namespace Go.Proofs.YtgdjfcmmpjcaaaaDoor.Q
open Go.RowKit Go.Proofs.YtgdjfcmmpjcaaaaDoorW.PrintWords Go.Proofs.YtgdjfcmmpjcaaaaDoorW.PrintLast Go.Proofs.YtgdjfcmmpjcaaaaDoorW.Own Go.Proofs.YtgdjfcmmpjcaaaaDoorW.PrintMore
set_option linter.unusedVariables false
set_option linter.unusedSimpArgs false

/-- The pure statement of newellaw05_WordsShort. -/
def newellaw05_WordsShort.Pure : Prop := ∀ (a0 : Int) (a1 : Int), ((Lit.int .i64 a0).wf = true) → ((Lit.int .i64 a1).wf = true) → ∃ k, newellaw05_WordsShort.f k a0 a1 = some true
end Go.Proofs.YtgdjfcmmpjcaaaaDoor.Q

namespace Go.Proofs.YtgdjfcmmpjcaaaaDoorW.Px
open Go
theorem ba_ext {a b : ByteArray} (h : a.data.toList = b.data.toList) : a = b := by
  cases a; cases b; simp at h; subst h; rfl
theorem ba_size (a : ByteArray) : a.size = a.data.toList.length := Array.length_toList.symm
theorem ba_append (a b : ByteArray) : (a ++ b).data.toList = a.data.toList ++ b.data.toList := by simp [ByteArray.data_append]
theorem ba_toList (a : ByteArray) : a.toList = a.data.toList := Lib.toList_data a
end Go.Proofs.YtgdjfcmmpjcaaaaDoorW.Px

namespace Go.Proofs.YtgdjfcmmpjcaaaaDoor.Pure
open Go Go.RowKit Go.Proofs.YtgdjfcmmpjcaaaaDoor.Q Go.Proofs.YtgdjfcmmpjcaaaaDoorW.PrintWords
theorem awake5_40 : newellaw05_awake.f 40 = some true := by kernel_rfl
theorem awake5_ge (k : Nat) (h : 40 ≤ k) : newellaw05_awake.f k = some true := by
  obtain ⟨j, rfl⟩ := Nat.exists_eq_add_of_le h
  clear h
  induction j with
  | zero => exact awake5_40
  | succ j ih => exact newellaw05_awake.mono _ _ ih
end Go.Proofs.YtgdjfcmmpjcaaaaDoor.Pure

-- Printed by this session's wip/np.py over the kit's print program. Not trusted: Lean checks it.
namespace Go.Proofs.YtgdjfcmmpjcaaaaDoor.Q
open Go.RowKit Go.Proofs.YtgdjfcmmpjcaaaaDoorW.PrintWords Go.Proofs.YtgdjfcmmpjcaaaaDoorW.PrintLast Go.Proofs.YtgdjfcmmpjcaaaaDoorW.Own Go.Proofs.YtgdjfcmmpjcaaaaDoorW.PrintMore
attribute [local go_sem] max2_int min2_int max_two min_two max_three min_three max_four min_four
set_option linter.unusedVariables false
set_option linter.unusedSimpArgs false

/-! ### newelref01_Digit: function 78 -/
def newelref01_Digit.f (a0 : Int) : Option (Bool) := if a0 ≥ 48 then (some (decide (a0 ≤ 57))) else (some false)
set_option maxHeartbeats 8000000 in
set_option maxRecDepth 100000 in
theorem newelref01_Digit.calls (a0 : Int) (r : Bool) (w : World) (hG : Glob w) (h : newelref01_Digit.f a0 = some r) :
    Calls Tryd.prog 78 #[.int .u8 a0] w fun e w' => e = .returned (.bool r) ∧ Drawn0 w w' := by
  have HG := Aside0.mk hG
  clear hG
  have H : (if a0 ≥ 48 then (some (decide (a0 ≤ 57))) else (some false)) = some r := h
  clear h
  by_cases c2 : a0 ≥ 48
  · rw [if_pos c2] at H
    have c2b0 : decide (48 ≤ a0) = true := decide_eq_true c2
    clear c2
    obtain rfl := Option.some.inj H
    go_enter Tryd.func78, Tryd.ntmps78
    go_wp2
    go_ret
    exact ⟨by first | rfl | (simp; done) | (simp [*]; done), by repeat (first | exact Drawn0.refl _ | apply Drawn0.step)⟩
  · rw [if_neg c2] at H
    have c2b0 : decide (48 ≤ a0) = false := decide_eq_false c2
    clear c2
    obtain rfl := Option.some.inj H
    go_enter Tryd.func78, Tryd.ntmps78
    go_wp2
    go_ret
    exact ⟨by first | rfl | (simp; done) | (simp [*]; done), by repeat (first | exact Drawn0.refl _ | apply Drawn0.step)⟩

end Go.Proofs.YtgdjfcmmpjcaaaaDoor.Q
