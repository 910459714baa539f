/- Texts put together: what functions of the program compute, and plain words about them. -/
import Derived.Test.YtgdjfcmmpjcaaaaGreatDoorLawSpanBothM1
import Derived.Shelf.Strings.Builder1
import Derived.Shelf.Strings.Builder2
import Derived.Shelf.Strings.OnBuilder
import Derived.Shelf.Strings.Trim
import Derived.Shelf.Small.Utf8
import Derived.Shelf.Small.Strs
import Derived.Shelf.Small.Wraps
import Derived.Shelf.Strings.BuilderF
import Derived.Shelf.Strings.BuilderK
import Derived.Shelf.Strings.Builder2Cap
import Derived.Shelf.Strings.Search1
import Derived.Shelf.Strings.Search2
import Derived.Shelf.Strings.Cut
import Derived.Shelf.LaysM
import Derived.Shelf.Strings.Shaped
import Derived.Shelf.Strings.Prefix
import Derived.Shelf.Unicode.Decode
import Derived.Shelf.Strings.Runes
import Derived.Shelf.Strings.IndexAny
import Derived.Shelf.Strings.AsciiSet
import Derived.Shelf.Strings.IndexAnyAll
import Derived.Shelf.Unicode.DecodeSlow
import Derived.Shelf.Unicode.DecodeAny
import Derived.Shelf.Unicode.DecodeLast
import Derived.Shelf.Strings.BuilderCap
import Derived.Ground.Names2Prog
import Derived.Shelf.Slices.SearchI
import Derived.Test.YtgdjfcmmpjcaaaaGreatDoorProg
namespace Go.Proofs.YtgdjfcmmpjcaaaaGreatDoor.Q
open Go.RowKit Go.Proofs.YtgdjfcmmpjcaaaaGreatDoorW.PrintWords Go.Proofs.YtgdjfcmmpjcaaaaGreatDoorW.PrintLast Go.Proofs.YtgdjfcmmpjcaaaaGreatDoorW.Own Go.Proofs.YtgdjfcmmpjcaaaaGreatDoorW.PrintMore
attribute [local go_sem] max2_int min2_int max_two min_two max_three min_three max_four min_four   -- for this text's walks alone
set_option linter.unusedVariables false
set_option linter.unusedSimpArgs false
set_option maxHeartbeats 20000000
set_option maxRecDepth 100000
def newellaw07_few.l0 : Nat → List (S30) → Int → Option (Bool)
 | 0, _, _ => none
 | k + 1, x0, x3 => if x3 < (x0.length : Int) then (if 0 ≤ x3 then (if (((rd_T30 x0 x3).f0).size : Int) > 100 then (some false) else (if (((rd_T30 x0 x3).f1).size : Int) > 100 then (some false) else (newellaw07_few.l0 k x0 (wrap64 (x3 + 1))))) else (none)) else (some (decide ((x0.length : Int) ≤ 20)))
def newellaw07_few.f (k : Nat) (l0 : List (S30)) : Option (Bool) := newellaw07_few.l0 k l0 0
theorem newellaw07_few.mono_l : ∀ k, (∀ y0 y1, LeO (newellaw07_few.l0 k y0 y1) (newellaw07_few.l0 (k + 1) y0 y1))
 | 0 => fun _ _ r h => by simp [newellaw07_few.l0] at h
 | k + 1 => by
  have ih0 := newellaw07_few.mono_l k
  ·intro y0 y1
   unfold newellaw07_few.l0
   exact mo
theorem newellaw07_few.mono : ∀ a0 k, LeO (newellaw07_few.f k a0) (newellaw07_few.f (k + 1) a0) := by
 intro a0 k
 have ih0 := newellaw07_few.mono_l k
 unfold newellaw07_few.f
 exact mo
theorem newellaw07_few.calls (k : Nat) (A0 : Option Addr) (c0 : Nat) (l0 : List (S30)) (r : Bool) (w : World) (hr0 : Kd.C k30 w A0 l0.length l0) (hc0 : l0.length ≤ c0) (hG : Glob w) (h : newellaw07_few.f k l0 = some r) :
 Calls Tryz.prog 4 #[.slice A0 l0.length c0] w fun e w' => e = .returned (.bool r) ∧ Drawn0 w w' := by
 have HG := Aside0.mk hG
 clear hG
 have HR0 := Aside0.mk hr0
 have HC0 := Aside0.mk hc0
 clear hr0 hc0
 have H : (newellaw07_few.l0 k l0 0) = some r := h
 clear h
 have H' := Aside0.mk H
 clear H
 go_enter Tryz.func4, Tryz.ntmps4
 go_wp2
 go_loopg [3] k (fun kq v3 w' => ∃ (x3_1 : Int), v3 = .int .i64 x3_1 ∧ Aside0 (newellaw07_few.l0 kq l0 x3_1 = some r) ∧ Aside0 (kq ≤ k) ∧ Drawn0 w w')
 case atStart => exact ⟨(0), cA, H', ⟨Nat.le_refl _⟩, by repeat (first | exact Drawn0.refl _ | apply Drawn0.step)⟩
 clear H'
 obtain ⟨x3_1, rfl, HA, HK1, ⟨m1, rfl⟩⟩ := hrel
 cases gk with
 | zero => exact absurd HA.out (by simp [newellaw07_few.l0])
 | succ k1 =>
  have H := HA.out
  clear HA
  simp only [newellaw07_few.l0] at H
  by_cases c2 : x3_1 < (l0.length : Int)
  rotate_left
  ·rw [if_neg c2] at H
   have c2b0 := dF c2
   clear c2
   obtain rfl := Option.some.inj H
   go_wp2
   go_ret
   exact ⟨by first | rfl | (simp; done) | (simp [*]; done), by repeat (first | exact Drawn0.refl _ | apply Drawn0.step)⟩
  rw [if_pos c2] at H
  have c2b0 := dT c2
  clear c2
  obtain ⟨c3, H⟩ := gp H
  have c3b0 := dT c3
  clear c3
  by_cases c4 : (((rd_T30 l0 x3_1).f0).size : Int) > 100
  ·rw [if_pos c4] at H
   have c4b0 := dT c4
   have c4b1 : decide (100 < ((rd_T30 l0 x3_1).f0).size) = true := decide_eq_true (by omega)
   clear c4
   obtain rfl := Option.some.inj H
   have p101 : 0 ≤ (x3_1 : Int) := dA
   have q101 : x3_1 < (l0.length : Int) := dA
   obtain ⟨ad101, e101, hx101_0, hx101_1, hx101_2, hx101_3⟩ := at_T30 HR0.out x3_1 p101 q101
   cases e101
   replace p101 := eq_true p101
   replace q101 := eq_true q101
   go_wp2
   go_ret
   exact ⟨by first | rfl | (simp; done) | (simp [*]; done), by repeat (first | exact Drawn0.refl _ | apply Drawn0.step)⟩
  rw [if_neg c4] at H
  have c4b0 := dF c4
  have c4b1 : decide (100 < ((rd_T30 l0 x3_1).f0).size) = false := decide_eq_false (by omega)
  clear c4
  by_cases c5 : (((rd_T30 l0 x3_1).f1).size : Int) > 100
  ·rw [if_pos c5] at H
   have c5b0 := dT c5
   have c5b1 : decide (100 < ((rd_T30 l0 x3_1).f1).size) = true := decide_eq_true (by omega)
   clear c5
   obtain rfl := Option.some.inj H
   have p101 : 0 ≤ (x3_1 : Int) := dA
   have q101 : x3_1 < (l0.length : Int) := dA
   obtain ⟨ad101, e101, hx101_0, hx101_1, hx101_2, hx101_3⟩ := at_T30 HR0.out x3_1 p101 q101
   cases e101
   replace p101 := eq_true p101
   replace q101 := eq_true q101
   have p102 : 0 ≤ (x3_1 : Int) := dA
   have q102 : x3_1 < (l0.length : Int) := dA
   obtain ⟨ad102, e102, hx102_0, hx102_1, hx102_2, hx102_3⟩ := at_T30 HR0.out x3_1 p102 q102
   obtain rfl : ad101 = ad102 := (by injection e102)
   replace p102 := eq_true p102
   replace q102 := eq_true q102
   go_wp2
   go_ret
   exact ⟨by first | rfl | (simp; done) | (simp [*]; done), by repeat (first | exact Drawn0.refl _ | apply Drawn0.step)⟩
  rw [if_neg c5] at H
  have c5b0 := dF c5
  have c5b1 : decide (100 < ((rd_T30 l0 x3_1).f1).size) = false := decide_eq_false (by omega)
  clear c5
  have H' := Aside0.mk H
  clear H
  have p101 : 0 ≤ (x3_1 : Int) := dA
  have q101 : x3_1 < (l0.length : Int) := dA
  obtain ⟨ad101, e101, hx101_0, hx101_1, hx101_2, hx101_3⟩ := at_T30 HR0.out x3_1 p101 q101
  cases e101
  replace p101 := eq_true p101
  replace q101 := eq_true q101
  have p102 : 0 ≤ (x3_1 : Int) := dA
  have q102 : x3_1 < (l0.length : Int) := dA
  obtain ⟨ad102, e102, hx102_0, hx102_1, hx102_2, hx102_3⟩ := at_T30 HR0.out x3_1 p102 q102
  obtain rfl : ad101 = ad102 := (by injection e102)
  replace p102 := eq_true p102
  replace q102 := eq_true q102
  go_wp2
  go_roundg k1
  case measure => have := HK1.out; omega
  case rel => exact ⟨(wrap64 (x3_1 + 1)), cA, H', ⟨by have := HK1.out; omega⟩, by repeat (first | exact Drawn0.refl _ | apply Drawn0.step)⟩
def stringslite_HasPrefix.f (a0 : ByteArray) (a1 : ByteArray) : Option (Bool) := if (a0.size : Int) ≥ (a1.size : Int) then (if 0 ≤ (a1.size : Int) then (if (a1.size : Int) ≤ (a0.size : Int) then (some ((a0.extract 0 ((a1.size : Int) : Int).toNat).toList == a1.toList)) else (none)) else (none)) else (some false)
theorem stringslite_HasPrefix.calls (a0 : ByteArray) (a1 : ByteArray) (r : Bool) (w : World) (hG : Glob w) (h : stringslite_HasPrefix.f a0 a1 = some r) :
 Calls Tryz.prog 41 #[.string a0, .string a1] w fun e w' => e = .returned (.bool r) ∧ Drawn0 w w' := by
 have HG := Aside0.mk hG
 clear hG
 have H : (if (a0.size : Int) ≥ (a1.size : Int) then (if 0 ≤ (a1.size : Int) then (if (a1.size : Int) ≤ (a0.size : Int) then (some ((a0.extract 0 ((a1.size : Int) : Int).toNat).toList == a1.toList)) else (none)) else (none)) else (some false)) = some r := h
 clear h
 by_cases c3 : (a0.size : Int) ≥ (a1.size : Int)
 rotate_left
 ·rw [if_neg c3] at H
  have c3b0 := dF c3
  have c3b1 : decide (a1.size ≤ a0.size) = false := decide_eq_false (fun h => c3 (Int.ofNat_le.mpr h))
  clear c3
  obtain rfl := Option.some.inj H
  go_enter Tryz.func41, Tryz.ntmps41
  go_wp2
  go_ret
  exact ⟨by first | rfl | (simp; done) | (simp [*]; done), by repeat (first | exact Drawn0.refl _ | apply Drawn0.step)⟩
 rw [if_pos c3] at H
 have c3b0 := dT c3
 have c3b1 : decide (a1.size ≤ a0.size) = true := decide_eq_true (Int.ofNat_le.mp c3)
 clear c3
 obtain ⟨c4, H⟩ := gp H
 have c4b0 := eq_true c4
 have c4b1 := dT c4
 clear c4
 obtain ⟨c5, H⟩ := gp H
 have c5b0 := eq_true c5
 have c5b1 := dT c5
 clear c5
 obtain rfl := Option.some.inj H
 go_enter Tryz.func41, Tryz.ntmps41
 go_wp2
 go_ret
 exact ⟨by first | rfl | (simp; done) | (simp [*]; done), by repeat (first | exact Drawn0.refl _ | apply Drawn0.step)⟩
def strings_HasPrefix.f (a0 : ByteArray) (a1 : ByteArray) : Option (Bool) := (stringslite_HasPrefix.f a0 a1).bind fun t103 => (some t103)
theorem strings_HasPrefix.calls (a0 : ByteArray) (a1 : ByteArray) (r : Bool) (w : World) (hG : Glob w) (h : strings_HasPrefix.f a0 a1 = some r) :
 Calls Tryz.prog 24 #[.string a0, .string a1] w fun e w' => e = .returned (.bool r) ∧ Drawn0 w w' := by
 have HG := Aside0.mk hG
 clear hG
 have H : ((stringslite_HasPrefix.f a0 a1).bind fun t103 => (some t103)) = some r := h
 clear h
 replace H := bi H
 obtain ⟨t103, A30, H⟩ := H
 try dsimp only at H
 have A3 := Aside0.mk A30
 clear A30
 obtain rfl := Option.some.inj H
 go_enter Tryz.func24, Tryz.ntmps24
 go_wp2_with (first | (refine gl (some 7) Tryz.func41 #[.string a0, .string a1] ?_; (with_reducible refine (stringslite_HasPrefix.calls a0 a1 t103 _ ?side1 A3.out).mono ?_); (case side1 => exact Glob.drawn HG.out (by repeat (first | exact Drawn0.refl _ | apply Drawn0.step))); rintro e w' ⟨rfl, ⟨nd, rfl⟩⟩; refine ⟨_, rfl, ?_⟩))
 go_ret
 exact ⟨by first | rfl | (simp; done) | (simp [*]; done), by repeat (first | exact Drawn0.refl _ | apply Drawn0.step)⟩
def span_Is.f (a0 : ByteArray) : Option (Bool) := (strings_HasPrefix.f a0 (⟨#[91]⟩ : ByteArray)).bind fun t104 => (if t104 = true then (some true) else ((strings_HasPrefix.f a0 (⟨#[40]⟩ : ByteArray)).bind fun t105 => (some t105)))
theorem span_Is.calls (a0 : ByteArray) (r : Bool) (w : World) (hG : Glob w) (h : span_Is.f a0 = some r) :
 Calls Tryz.prog 10 #[.string a0] w fun e w' => e = .returned (.bool r) ∧ Drawn0 w w' := by
 have HG := Aside0.mk hG
 clear hG
 have H : ((strings_HasPrefix.f a0 (⟨#[91]⟩ : ByteArray)).bind fun t104 => (if t104 = true then (some true) else ((strings_HasPrefix.f a0 (⟨#[40]⟩ : ByteArray)).bind fun t105 => (some t105)))) = some r := h
 clear h
 replace H := bi H
 obtain ⟨t104, A20, H⟩ := H
 try dsimp only at H
 have A2 := Aside0.mk A20
 clear A20
 by_cases c3 : t104 = true
 ·subst c3
  replace H : (some true) = some r := by rw [if_pos rfl] at H; exact H
  obtain rfl := Option.some.inj H
  go_enter Tryz.func10, Tryz.ntmps10
  go_wp2_with (first | (refine gl (some 4) Tryz.func24 #[.string a0, .string (⟨#[91]⟩ : ByteArray)] ?_; (with_reducible refine (strings_HasPrefix.calls a0 (⟨#[91]⟩ : ByteArray) true _ ?side1 A2.out).mono ?_); (case side1 => exact Glob.drawn HG.out (by repeat (first | exact Drawn0.refl _ | apply Drawn0.step))); rintro e w' ⟨rfl, ⟨nd, rfl⟩⟩; refine ⟨_, rfl, ?_⟩))
  go_ret
  exact ⟨by first | rfl | (simp; done) | (simp [*]; done), by repeat (first | exact Drawn0.refl _ | apply Drawn0.step)⟩
 replace c3 := Bool.eq_false_iff.mpr c3
 subst c3
 replace H : ((strings_HasPrefix.f a0 (⟨#[40]⟩ : ByteArray)).bind fun t105 => (some t105)) = some r := by rw [if_neg nF] at H; exact H
 replace H := bi H
 obtain ⟨t105, A40, H⟩ := H
 try dsimp only at H
 have A4 := Aside0.mk A40
 clear A40
 obtain rfl := Option.some.inj H
 go_enter Tryz.func10, Tryz.ntmps10
 go_wp2_with (first | (refine gl (some 4) Tryz.func24 #[.string a0, .string (⟨#[91]⟩ : ByteArray)] ?_; (with_reducible refine (strings_HasPrefix.calls a0 (⟨#[91]⟩ : ByteArray) false _ ?side1 A2.out).mono ?_); (case side1 => exact Glob.drawn HG.out (by repeat (first | exact Drawn0.refl _ | apply Drawn0.step))); rintro e w' ⟨rfl, ⟨nd, rfl⟩⟩; refine ⟨_, rfl, ?_⟩) | (go_at_call 24; (with_reducible refine (strings_HasPrefix.calls a0 (⟨#[40]⟩ : ByteArray) t105 _ ?side1 A4.out).mono ?_); (case side1 => exact Glob.drawn HG.out (by repeat (first | exact Drawn0.refl _ | apply Drawn0.step))); rintro e w' ⟨rfl, ⟨nd, rfl⟩⟩))
 go_ret
 exact ⟨by first | rfl | (simp; done) | (simp [*]; done), by repeat (first | exact Drawn0.refl _ | apply Drawn0.step)⟩
def span_mark.f (a0 : Bool) (a1 : ByteArray) (a2 : ByteArray) : Option (ByteArray) := if a0 = true then (some a1) else (some a2)
theorem span_mark.calls (a0 : Bool) (a1 : ByteArray) (a2 : ByteArray) (r : ByteArray) (w : World) (hG : Glob w) (h : span_mark.f a0 a1 a2 = some r) :
 Calls Tryz.prog 25 #[.bool a0, .string a1, .string a2] w fun e w' => e = .returned (.string r) ∧ Drawn0 w w' := by
 have HG := Aside0.mk hG
 clear hG
 have H : (if a0 = true then (some a1) else (some a2)) = some r := h
 clear h
 by_cases c4 : a0 = true
 ·subst c4
  replace H : (some a1) = some r := by rw [if_pos rfl] at H; exact H
  obtain rfl := Option.some.inj H
  go_enter Tryz.func25, Tryz.ntmps25
  go_wp2
  go_ret
  exact ⟨by first | rfl | (simp; done) | (simp [*]; done), by repeat (first | exact Drawn0.refl _ | apply Drawn0.step)⟩
 replace c4 := Bool.eq_false_iff.mpr c4
 subst c4
 replace H : (some a2) = some r := by rw [if_neg nF] at H; exact H
 obtain rfl := Option.some.inj H
 go_enter Tryz.func25, Tryz.ntmps25
 go_wp2
 go_ret
 exact ⟨by first | rfl | (simp; done) | (simp [*]; done), by repeat (first | exact Drawn0.refl _ | apply Drawn0.step)⟩
end Go.Proofs.YtgdjfcmmpjcaaaaGreatDoor.Q
namespace Go.Proofs
open Go.Shelf
def Tryz.lays156_ren : Go.Shelf.Ren := ⟨fun | 156 => 26 | 165 => 42 | 166 => 43 | 169 => 44 | 240 => 62 | 241 => 63 | 276 => 84 | 277 => 85 | n => n, fun | 31 => 47 | 9 => 9 | 3 => 3 | 4 => 4 | 0 => 0 | 20 => 20 | 72 => 62 | 76 => 66 | 70 => 59 | 37 => 60 | 75 => 65 | 127 => 83 | 164 => 107 | 5 => 5 | 80 => 68 | n => n, fun | n => n⟩
theorem Tryz.lays156 : Go.Proofs.Lays.n156 Tryz.prog Tryz.lays156_ren := {
  mixed := by kernel_rfl
  f156 := Tryz.func26.trans (congrArg some (by kernel_rfl))
  f165 := Tryz.func42.trans (congrArg some (by kernel_rfl))
  f166 := Tryz.func43.trans (congrArg some (by kernel_rfl))
  f169 := Tryz.func44.trans (congrArg some (by kernel_rfl))
  f240 := Tryz.func62.trans (congrArg some (by kernel_rfl))
  f241 := Tryz.func63.trans (congrArg some (by kernel_rfl))
  f276 := Tryz.func84.trans (congrArg some (by kernel_rfl))
  f277 := Tryz.func85.trans (congrArg some (by kernel_rfl))
  t0 := Tryz.underlying0
  a0 := Tryz.isAgg0
  z0 := Tryz.sizeOf0
  v0 := Tryz.zeroValue0
  t3 := Tryz.underlying3
  a3 := Tryz.isAgg3
  z3 := Tryz.sizeOf3
  v3 := Tryz.zeroValue3
  t4 := Tryz.underlying4
  a4 := Tryz.isAgg4
  z4 := Tryz.sizeOf4
  v4 := Tryz.zeroValue4
  t9 := Tryz.underlying9
  a9 := Tryz.isAgg9
  z9 := Tryz.sizeOf9
  v9 := Tryz.zeroValue9
  t20 := Tryz.underlying20
  a20 := Tryz.isAgg20
  z20 := Tryz.sizeOf20
  v20 := Tryz.zeroValue20
  t31 := Tryz.underlying47
  a31 := Tryz.isAgg47
  z31 := Tryz.sizeOf47
  v31 := Tryz.zeroValue47
  t37 := Tryz.underlying60
  a37 := Tryz.isAgg60
  z37 := Tryz.sizeOf60
  v37 := Tryz.zeroValue60
  t70 := Tryz.underlying59
  a70 := Tryz.isAgg59
  z70 := Tryz.sizeOf59
  v70 := Tryz.zeroValue59
  t72 := Tryz.underlying62
  a72 := Tryz.isAgg62
  z72 := Tryz.sizeOf62
  v72 := Tryz.zeroValue62
  t75 := Tryz.underlying65
  a75 := Tryz.isAgg65
  z75 := Tryz.sizeOf65
  v75 := Tryz.zeroValue65
  t76 := Tryz.underlying66
  a76 := Tryz.isAgg66
  z76 := Tryz.sizeOf66
  v76 := Tryz.zeroValue66
  t127 := Tryz.underlying83
  a127 := Tryz.isAgg83
  z127 := Tryz.sizeOf83
  v127 := Tryz.zeroValue83
  t164 := Tryz.underlying107
  a164 := Tryz.isAgg107
  z164 := Tryz.sizeOf107
  v164 := Tryz.zeroValue107 }
theorem Tryz.Builder_Extra_156 : Builder.Extra Tryz.prog Tryz.lays156_ren := {
  sizeBuilder := by kernel_rfl
  liesBuilder := by kernel_rfl
  t5 := Tryz.underlying5
  a5 := Tryz.isAgg5
  z5 := Tryz.sizeOf5
  v5 := Tryz.zeroValue5
  infoByte := by kernel_rfl
  cellsByte := by kernel_rfl
  sizeByte := by kernel_rfl
  neB5 := by decide }
open Go.RowKit in
theorem Tryz.strings_Join_none (a : Option Addr) (c : Nat) (sep : ByteArray) (w : World) :
    Calls Tryz.prog 26 #[.slice a 0 c, .string sep] w fun e w' => e = .returned (.string ⟨#[]⟩) ∧ w' = w := Any.strings_Join_none Tryz.lays156 Tryz.Builder_Extra_156 a c sep w
open Go.RowKit in
theorem Tryz.strings_Join (bk o c : Nat) (xs : List ByteArray) (sep : ByteArray) (w : World) (hcells : ∀ (j : Nat) x, xs[j]? = some x → w.cell? ⟨bk, o + j, none⟩ = some (.string x)) (hbk : bk < w.heap.size) (hN : xs.length ≤ 140737488355328) (hcap : xs.length ≤ c) (hlen : (Lib.join (xs.map (·.data.toList)) sep.data.toList).length ≤ 140737488355328) :
    Calls Tryz.prog 26 #[.slice (some ⟨bk, o, none⟩) xs.length c, .string sep] w fun e w' => e = .returned (.string ⟨(Lib.join (xs.map (·.data.toList)) sep.data.toList).toArray⟩) ∧ Below w.heap.size w w' := Any.strings_Join Tryz.lays156 Tryz.Builder_Extra_156 bk o c xs sep w hcells hbk hN hcap hlen
def Tryz.lays161_ren : Go.Shelf.Ren := ⟨fun | 161 => 94 | 231 => 56 | 227 => 53 | 233 => 58 | 235 => 60 | 228 => 54 | 197 => 81 | 151 => 82 | 260 => 98 | 152 => 51 | 137 => 76 | 119 => 77 | 224 => 78 | 225 => 79 | 217 => 96 | 266 => 102 | n => n, fun | 9 => 9 | 4 => 4 | 3 => 3 | 5 => 5 | 117 => 77 | 116 => 76 | 0 => 0 | 124 => 82 | 105 => 104 | 21 => 21 | 119 => 119 | 46 => 103 | 139 => 122 | 138 => 121 | n => n, fun | 3 => 1 | 4 => 2 | n => n⟩
theorem Tryz.lays161 : Go.Proofs.Lays.n161 Tryz.prog Tryz.lays161_ren := {
  mixed := by kernel_rfl
  f119 := Tryz.func77.trans (congrArg some (by kernel_rfl))
  f137 := Tryz.func76.trans (congrArg some (by kernel_rfl))
  f151 := Tryz.func82.trans (congrArg some (by kernel_rfl))
  f152 := Tryz.func51.trans (congrArg some (by kernel_rfl))
  f161 := Tryz.func94.trans (congrArg some (by kernel_rfl))
  f197 := Tryz.func81.trans (congrArg some (by kernel_rfl))
  f217 := Tryz.func96.trans (congrArg some (by kernel_rfl))
  f224 := Tryz.func78.trans (congrArg some (by kernel_rfl))
  f225 := Tryz.func79.trans (congrArg some (by kernel_rfl))
  f227 := Tryz.func53.trans (congrArg some (by kernel_rfl))
  f228 := Tryz.func54.trans (congrArg some (by kernel_rfl))
  f231 := Tryz.func56.trans (congrArg some (by kernel_rfl))
  f233 := Tryz.func58.trans (congrArg some (by kernel_rfl))
  f235 := Tryz.func60.trans (congrArg some (by kernel_rfl))
  f260 := Tryz.func98.trans (congrArg some (by kernel_rfl))
  f266 := Tryz.func102.trans (congrArg some (by kernel_rfl))
  t0 := Tryz.underlying0
  a0 := Tryz.isAgg0
  z0 := Tryz.sizeOf0
  v0 := Tryz.zeroValue0
  t3 := Tryz.underlying3
  a3 := Tryz.isAgg3
  z3 := Tryz.sizeOf3
  v3 := Tryz.zeroValue3
  t4 := Tryz.underlying4
  a4 := Tryz.isAgg4
  z4 := Tryz.sizeOf4
  v4 := Tryz.zeroValue4
  t5 := Tryz.underlying5
  a5 := Tryz.isAgg5
  z5 := Tryz.sizeOf5
  v5 := Tryz.zeroValue5
  t9 := Tryz.underlying9
  a9 := Tryz.isAgg9
  z9 := Tryz.sizeOf9
  v9 := Tryz.zeroValue9
  t21 := Tryz.underlying21
  a21 := Tryz.isAgg21
  z21 := Tryz.sizeOf21
  v21 := Tryz.zeroValue21
  t46 := Tryz.underlying103
  a46 := Tryz.isAgg103
  z46 := Tryz.sizeOf103
  v46 := Tryz.zeroValue103
  t105 := Tryz.underlying104
  a105 := Tryz.isAgg104
  z105 := Tryz.sizeOf104
  v105 := Tryz.zeroValue104
  t116 := Tryz.underlying76
  a116 := Tryz.isAgg76
  z116 := Tryz.sizeOf76
  t117 := Tryz.underlying77
  a117 := Tryz.isAgg77
  z117 := Tryz.sizeOf77
  v117 := Tryz.zeroValue77
  t119 := Tryz.underlying119
  a119 := Tryz.isAgg119
  z119 := Tryz.sizeOf119
  t124 := Tryz.underlying82
  a124 := Tryz.isAgg82
  z124 := Tryz.sizeOf82
  v124 := Tryz.zeroValue82
  t138 := Tryz.underlying121
  a138 := Tryz.isAgg121
  z138 := Tryz.sizeOf121
  v138 := Tryz.zeroValue121
  t139 := Tryz.underlying122
  a139 := Tryz.isAgg122
  z139 := Tryz.sizeOf122
  v139 := Tryz.zeroValue122
  g3 := by kernel_rfl
  g4 := by kernel_rfl }
open Go.RowKit in
theorem Tryz.strings_TrimLeft_one (s : ByteArray) (c : UInt8) (hc : c.toNat < 128) (w : World) :
    Calls Tryz.prog 94 #[.string s, .string ⟨#[c]⟩] w fun e w' => e = .returned (.string ⟨(Lib.trimLeftB s.data.toList c).toArray⟩) ∧ w' = w := Any.strings_TrimLeft_one Tryz.lays161 s c hc w
def Tryz.lays160_ren : Go.Shelf.Ren := ⟨fun | 160 => 39 | 232 => 57 | 231 => 56 | 227 => 53 | 234 => 59 | 233 => 58 | 236 => 61 | 235 => 60 | 228 => 54 | 271 => 83 | 151 => 82 | 197 => 81 | 120 => 99 | 152 => 51 | 260 => 98 | 137 => 76 | 119 => 77 | 224 => 78 | 225 => 79 | 217 => 96 | 266 => 102 | n => n, fun | 9 => 9 | 4 => 4 | 3 => 3 | 5 => 5 | 117 => 77 | 116 => 76 | 0 => 0 | 124 => 82 | 21 => 21 | 105 => 104 | 46 => 103 | 119 => 119 | 139 => 122 | 138 => 121 | n => n, fun | 3 => 1 | 4 => 2 | n => n⟩
theorem Tryz.lays160 : Go.Proofs.Lays.n160 Tryz.prog Tryz.lays160_ren := {
  mixed := by kernel_rfl
  f119 := Tryz.func77.trans (congrArg some (by kernel_rfl))
  f120 := Tryz.func99.trans (congrArg some (by kernel_rfl))
  f137 := Tryz.func76.trans (congrArg some (by kernel_rfl))
  f151 := Tryz.func82.trans (congrArg some (by kernel_rfl))
  f152 := Tryz.func51.trans (congrArg some (by kernel_rfl))
  f160 := Tryz.func39.trans (congrArg some (by kernel_rfl))
  f197 := Tryz.func81.trans (congrArg some (by kernel_rfl))
  f217 := Tryz.func96.trans (congrArg some (by kernel_rfl))
  f224 := Tryz.func78.trans (congrArg some (by kernel_rfl))
  f225 := Tryz.func79.trans (congrArg some (by kernel_rfl))
  f227 := Tryz.func53.trans (congrArg some (by kernel_rfl))
  f228 := Tryz.func54.trans (congrArg some (by kernel_rfl))
  f231 := Tryz.func56.trans (congrArg some (by kernel_rfl))
  f232 := Tryz.func57.trans (congrArg some (by kernel_rfl))
  f233 := Tryz.func58.trans (congrArg some (by kernel_rfl))
  f234 := Tryz.func59.trans (congrArg some (by kernel_rfl))
  f235 := Tryz.func60.trans (congrArg some (by kernel_rfl))
  f236 := Tryz.func61.trans (congrArg some (by kernel_rfl))
  f260 := Tryz.func98.trans (congrArg some (by kernel_rfl))
  f266 := Tryz.func102.trans (congrArg some (by kernel_rfl))
  f271 := Tryz.func83.trans (congrArg some (by kernel_rfl))
  t0 := Tryz.underlying0
  a0 := Tryz.isAgg0
  z0 := Tryz.sizeOf0
  v0 := Tryz.zeroValue0
  t3 := Tryz.underlying3
  a3 := Tryz.isAgg3
  z3 := Tryz.sizeOf3
  v3 := Tryz.zeroValue3
  t4 := Tryz.underlying4
  a4 := Tryz.isAgg4
  z4 := Tryz.sizeOf4
  v4 := Tryz.zeroValue4
  t5 := Tryz.underlying5
  a5 := Tryz.isAgg5
  z5 := Tryz.sizeOf5
  v5 := Tryz.zeroValue5
  t9 := Tryz.underlying9
  a9 := Tryz.isAgg9
  z9 := Tryz.sizeOf9
  v9 := Tryz.zeroValue9
  t21 := Tryz.underlying21
  a21 := Tryz.isAgg21
  z21 := Tryz.sizeOf21
  v21 := Tryz.zeroValue21
  t46 := Tryz.underlying103
  a46 := Tryz.isAgg103
  z46 := Tryz.sizeOf103
  v46 := Tryz.zeroValue103
  t105 := Tryz.underlying104
  a105 := Tryz.isAgg104
  z105 := Tryz.sizeOf104
  v105 := Tryz.zeroValue104
  t116 := Tryz.underlying76
  a116 := Tryz.isAgg76
  z116 := Tryz.sizeOf76
  t117 := Tryz.underlying77
  a117 := Tryz.isAgg77
  z117 := Tryz.sizeOf77
  v117 := Tryz.zeroValue77
  t119 := Tryz.underlying119
  a119 := Tryz.isAgg119
  z119 := Tryz.sizeOf119
  t124 := Tryz.underlying82
  a124 := Tryz.isAgg82
  z124 := Tryz.sizeOf82
  v124 := Tryz.zeroValue82
  t138 := Tryz.underlying121
  a138 := Tryz.isAgg121
  z138 := Tryz.sizeOf121
  v138 := Tryz.zeroValue121
  t139 := Tryz.underlying122
  a139 := Tryz.isAgg122
  z139 := Tryz.sizeOf122
  v139 := Tryz.zeroValue122
  g3 := by kernel_rfl
  g4 := by kernel_rfl }
open Go.RowKit in
theorem Tryz.strings_Trim_one (s : ByteArray) (c : UInt8) (hc : c.toNat < 128) (w : World) (hs : s.size ≤ 9223372036854775807) :
    Calls Tryz.prog 39 #[.string s, .string ⟨#[c]⟩] w fun e w' => e = .returned (.string ⟨(Lib.trimB s.data.toList c).toArray⟩) ∧ (w' = w ∨ w' = w.drew) := Any.strings_Trim_one Tryz.lays160 s c hc w hs
def Tryz.lays119_ren : Go.Shelf.Ren := ⟨fun | 119 => 77 | n => n, fun | 21 => 21 | 4 => 4 | n => n, fun | n => n⟩
theorem Tryz.lays119 : Go.Proofs.Lays.n119 Tryz.prog Tryz.lays119_ren := {
  mixed := by kernel_rfl
  f119 := Tryz.func77.trans (congrArg some (by kernel_rfl))
  t4 := Tryz.underlying4
  a4 := Tryz.isAgg4
  z4 := Tryz.sizeOf4
  v4 := Tryz.zeroValue4
  t21 := Tryz.underlying21
  a21 := Tryz.isAgg21
  z21 := Tryz.sizeOf21
  v21 := Tryz.zeroValue21 }
theorem Tryz.utf8_ValidRune (r : Int) (w : World) :
    Calls Tryz.prog 77 #[.int .i32 r] w fun e w' => e = .returned (.bool (Lib.validRune r)) ∧ w' = w := Any.utf8_ValidRune Tryz.lays119 r w
def Tryz.lays137_ren : Go.Shelf.Ren := ⟨fun | 137 => 76 | 217 => 96 | 266 => 102 | n => n, fun | 9 => 9 | 5 => 5 | 3 => 3 | n => n, fun | n => n⟩
theorem Tryz.lays137 : Go.Proofs.Lays.n137 Tryz.prog Tryz.lays137_ren := {
  mixed := by kernel_rfl
  f137 := Tryz.func76.trans (congrArg some (by kernel_rfl))
  f217 := Tryz.func96.trans (congrArg some (by kernel_rfl))
  f266 := Tryz.func102.trans (congrArg some (by kernel_rfl))
  t3 := Tryz.underlying3
  a3 := Tryz.isAgg3
  z3 := Tryz.sizeOf3
  v3 := Tryz.zeroValue3
  t5 := Tryz.underlying5
  a5 := Tryz.isAgg5
  z5 := Tryz.sizeOf5
  v5 := Tryz.zeroValue5
  t9 := Tryz.underlying9
  a9 := Tryz.isAgg9
  z9 := Tryz.sizeOf9
  v9 := Tryz.zeroValue9 }
open Go.RowKit in
theorem Tryz.strings_IndexByte (s : ByteArray) (c : Int) (w : World) :
    Calls Tryz.prog 76 #[.string s, .int .u8 c] w fun e w' => e = .returned (.int .i64 (Lib.indexByte s.data.toList c.toNat.toUInt8)) ∧ w' = w := Any.strings_IndexByte Tryz.lays137 s c w
def Tryz.lays215_ren : Go.Shelf.Ren := ⟨fun | 215 => 100 | n => n, fun | 3 => 3 | 4 => 4 | n => n, fun | n => n⟩
def Tryz.lays219_ren : Go.Shelf.Ren := ⟨fun | 219 => 80 | 217 => 96 | 225 => 79 | 224 => 78 | 267 => 97 | 266 => 102 | 314 => 103 | n => n, fun | 9 => 9 | 3 => 3 | 4 => 4 | 5 => 5 | 46 => 103 | 146 => 117 | 51 => 116 | n => n, fun | 1 => 0 | n => n⟩
def Tryz.lays145_ren : Go.Shelf.Ren := ⟨fun | 145 => 38 | 220 => 55 | 219 => 80 | 217 => 96 | 225 => 79 | 224 => 78 | 267 => 97 | 266 => 102 | 314 => 103 | n => n, fun | 9 => 9 | 4 => 4 | 59 => 56 | 3 => 3 | 5 => 5 | 46 => 103 | 146 => 117 | 51 => 116 | n => n, fun | 1 => 0 | n => n⟩
theorem Tryz.lays145 : Go.Proofs.Lays.n145 Tryz.prog Tryz.lays145_ren := {
  mixed := by kernel_rfl
  f145 := Tryz.func38.trans (congrArg some (by kernel_rfl))
  f217 := Tryz.func96.trans (congrArg some (by kernel_rfl))
  f219 := Tryz.func80.trans (congrArg some (by kernel_rfl))
  f220 := Tryz.func55.trans (congrArg some (by kernel_rfl))
  f224 := Tryz.func78.trans (congrArg some (by kernel_rfl))
  f225 := Tryz.func79.trans (congrArg some (by kernel_rfl))
  f266 := Tryz.func102.trans (congrArg some (by kernel_rfl))
  f267 := Tryz.func97.trans (congrArg some (by kernel_rfl))
  f314 := Tryz.func103.trans (congrArg some (by kernel_rfl))
  t3 := Tryz.underlying3
  a3 := Tryz.isAgg3
  z3 := Tryz.sizeOf3
  v3 := Tryz.zeroValue3
  t4 := Tryz.underlying4
  a4 := Tryz.isAgg4
  z4 := Tryz.sizeOf4
  v4 := Tryz.zeroValue4
  t5 := Tryz.underlying5
  a5 := Tryz.isAgg5
  z5 := Tryz.sizeOf5
  v5 := Tryz.zeroValue5
  t9 := Tryz.underlying9
  a9 := Tryz.isAgg9
  z9 := Tryz.sizeOf9
  v9 := Tryz.zeroValue9
  t46 := Tryz.underlying103
  a46 := Tryz.isAgg103
  z46 := Tryz.sizeOf103
  v46 := Tryz.zeroValue103
  t51 := Tryz.underlying116
  a51 := Tryz.isAgg116
  z51 := Tryz.sizeOf116
  v51 := Tryz.zeroValue116
  t59 := Tryz.underlying56
  a59 := Tryz.isAgg56
  z59 := Tryz.sizeOf56
  v59 := Tryz.zeroValue56
  t146 := Tryz.underlying117
  a146 := Tryz.isAgg117
  z146 := Tryz.sizeOf117
  v146 := Tryz.zeroValue117
  g1 := by kernel_rfl }
open Go.RowKit Go.Lib in
theorem Tryz.strings_Cut (s sep : ByteArray) (m : Int) (w : World) (hs : s.size < 4294967281) (hm : w.cell? ⟨0, 0, none⟩ = some (.int .i64 m)) :
    Calls Tryz.prog 38 #[.string s, .string sep] w fun e w' => e = .returned (.tuple #[.string ⟨(Lib.cut s.data.toList sep.data.toList).1.toArray⟩, .string ⟨(Lib.cut s.data.toList sep.data.toList).2.1.toArray⟩, .bool (Lib.cut s.data.toList sep.data.toList).2.2]) ∧ ∃ n, w' = w.drewN n := Any.strings_Cut Tryz.lays145 s sep m w hs hm
def Tryz.lays152_ren : Go.Shelf.Ren := ⟨fun | 152 => 51 | 137 => 76 | 119 => 77 | 224 => 78 | 225 => 79 | 217 => 96 | 266 => 102 | n => n, fun | 9 => 9 | 21 => 21 | 3 => 3 | 4 => 4 | 5 => 5 | 0 => 0 | 46 => 103 | n => n, fun | n => n⟩
theorem Tryz.lays152 : Go.Proofs.Lays.n152 Tryz.prog Tryz.lays152_ren := {
  mixed := by kernel_rfl
  f119 := Tryz.func77.trans (congrArg some (by kernel_rfl))
  f137 := Tryz.func76.trans (congrArg some (by kernel_rfl))
  f152 := Tryz.func51.trans (congrArg some (by kernel_rfl))
  f217 := Tryz.func96.trans (congrArg some (by kernel_rfl))
  f224 := Tryz.func78.trans (congrArg some (by kernel_rfl))
  f225 := Tryz.func79.trans (congrArg some (by kernel_rfl))
  f266 := Tryz.func102.trans (congrArg some (by kernel_rfl))
  t0 := Tryz.underlying0
  a0 := Tryz.isAgg0
  z0 := Tryz.sizeOf0
  v0 := Tryz.zeroValue0
  t3 := Tryz.underlying3
  a3 := Tryz.isAgg3
  z3 := Tryz.sizeOf3
  v3 := Tryz.zeroValue3
  t4 := Tryz.underlying4
  a4 := Tryz.isAgg4
  z4 := Tryz.sizeOf4
  v4 := Tryz.zeroValue4
  t5 := Tryz.underlying5
  a5 := Tryz.isAgg5
  z5 := Tryz.sizeOf5
  v5 := Tryz.zeroValue5
  t9 := Tryz.underlying9
  a9 := Tryz.isAgg9
  z9 := Tryz.sizeOf9
  v9 := Tryz.zeroValue9
  t21 := Tryz.underlying21
  a21 := Tryz.isAgg21
  z21 := Tryz.sizeOf21
  v21 := Tryz.zeroValue21
  t46 := Tryz.underlying103
  a46 := Tryz.isAgg103
  z46 := Tryz.sizeOf103
  v46 := Tryz.zeroValue103 }
open Go.RowKit Go.Lib in
theorem Tryz.strings_IndexRune_ascii (s : ByteArray) (r : Int) (w : World) (h0 : 0 ≤ r) (h1 : r < 128) :
    Calls Tryz.prog 51 #[.string s, .int .i32 r] w fun e w' => e = .returned (.int .i64 (Lib.indexByte s.data.toList r.toNat.toUInt8)) ∧ w' = w := Any.strings_IndexRune_ascii Tryz.lays152 s r w h0 h1
def Tryz.lays226_ren : Go.Shelf.Ren := ⟨fun | 226 => 52 | n => n, fun | 3 => 3 | 4 => 4 | n => n, fun | n => n⟩
theorem Tryz.lays226 : Go.Proofs.Lays.n226 Tryz.prog Tryz.lays226_ren := {
  mixed := by kernel_rfl
  f226 := Tryz.func52.trans (congrArg some (by kernel_rfl))
  t3 := Tryz.underlying3
  a3 := Tryz.isAgg3
  z3 := Tryz.sizeOf3
  v3 := Tryz.zeroValue3
  t4 := Tryz.underlying4
  a4 := Tryz.isAgg4
  z4 := Tryz.sizeOf4
  v4 := Tryz.zeroValue4 }
open Go.RowKit Go.Lib in
theorem Tryz.strings_shouldUseASCIISet (n : Int) (w : World) :
    Calls Tryz.prog 52 #[.int .i64 n] w fun e w' => e = .returned (.bool (decide (8 < n))) ∧ w' = w := Any.strings_shouldUseASCIISet Tryz.lays226 n w
def Tryz.lays153_ren : Go.Shelf.Ren := ⟨fun | 153 => 37 | 152 => 51 | 226 => 52 | 227 => 53 | 228 => 54 | 137 => 76 | 119 => 77 | 224 => 78 | 225 => 79 | 217 => 96 | 266 => 102 | n => n, fun | 9 => 9 | 3 => 3 | 4 => 4 | 5 => 5 | 21 => 21 | 117 => 77 | 116 => 76 | 0 => 0 | 46 => 103 | 124 => 82 | n => n, fun | n => n⟩
theorem Tryz.lays153 : Go.Proofs.Lays.n153 Tryz.prog Tryz.lays153_ren := {
  mixed := by kernel_rfl
  f119 := Tryz.func77.trans (congrArg some (by kernel_rfl))
  f137 := Tryz.func76.trans (congrArg some (by kernel_rfl))
  f152 := Tryz.func51.trans (congrArg some (by kernel_rfl))
  f153 := Tryz.func37.trans (congrArg some (by kernel_rfl))
  f217 := Tryz.func96.trans (congrArg some (by kernel_rfl))
  f224 := Tryz.func78.trans (congrArg some (by kernel_rfl))
  f225 := Tryz.func79.trans (congrArg some (by kernel_rfl))
  f226 := Tryz.func52.trans (congrArg some (by kernel_rfl))
  f227 := Tryz.func53.trans (congrArg some (by kernel_rfl))
  f228 := Tryz.func54.trans (congrArg some (by kernel_rfl))
  f266 := Tryz.func102.trans (congrArg some (by kernel_rfl))
  t0 := Tryz.underlying0
  a0 := Tryz.isAgg0
  z0 := Tryz.sizeOf0
  v0 := Tryz.zeroValue0
  t3 := Tryz.underlying3
  a3 := Tryz.isAgg3
  z3 := Tryz.sizeOf3
  v3 := Tryz.zeroValue3
  t4 := Tryz.underlying4
  a4 := Tryz.isAgg4
  z4 := Tryz.sizeOf4
  v4 := Tryz.zeroValue4
  t5 := Tryz.underlying5
  a5 := Tryz.isAgg5
  z5 := Tryz.sizeOf5
  v5 := Tryz.zeroValue5
  t9 := Tryz.underlying9
  a9 := Tryz.isAgg9
  z9 := Tryz.sizeOf9
  v9 := Tryz.zeroValue9
  t21 := Tryz.underlying21
  a21 := Tryz.isAgg21
  z21 := Tryz.sizeOf21
  v21 := Tryz.zeroValue21
  t46 := Tryz.underlying103
  a46 := Tryz.isAgg103
  z46 := Tryz.sizeOf103
  v46 := Tryz.zeroValue103
  t116 := Tryz.underlying76
  a116 := Tryz.isAgg76
  z116 := Tryz.sizeOf76
  t117 := Tryz.underlying77
  a117 := Tryz.isAgg77
  z117 := Tryz.sizeOf77
  v117 := Tryz.zeroValue77
  t124 := Tryz.underlying82
  a124 := Tryz.isAgg82
  z124 := Tryz.sizeOf82
  v124 := Tryz.zeroValue82 }
open Go.RowKit Go.Lib in
theorem Tryz.strings_IndexAny_long (hv116 : ∀ w, (zeroValue 76).run Tryz.prog w = .ok (.agg (Array.replicate 256 (.bool false))) w) (s chars : ByteArray) (w : World) (h2 : 2 ≤ chars.size) (h8 : 8 < s.size) (hs : s.size < 4294967281) (hcs : chars.size < 4294967281) (hascii : ∀ (j : Nat) b, chars.data.toList[j]? = some b → b.toNat < 128) :
    Calls Tryz.prog 37 #[.string s, .string chars] w fun e w' => e = .returned (.int .i64 (Lib.indexAny s.data.toList chars.data.toList)) ∧ w' = ((w.alloc (.cells (Lib.setCells chars.data.toList) 76)).alloc (.cells (Lib.setCells chars.data.toList) 76)) := Any.strings_IndexAny_long Tryz.lays153 hv116 (by kernel_rfl) s chars w h2 h8 hs hcs hascii
end Go.Proofs
namespace Go.Proofs.YtgdjfcmmpjcaaaaGreatDoor.Q
open Go.RowKit Go.Proofs.YtgdjfcmmpjcaaaaGreatDoorW.PrintWords Go.Proofs.YtgdjfcmmpjcaaaaGreatDoorW.PrintLast Go.Proofs.YtgdjfcmmpjcaaaaGreatDoorW.Own Go.Proofs.YtgdjfcmmpjcaaaaGreatDoorW.PrintMore
attribute [local go_sem] max2_int min2_int max_two min_two max_three min_three max_four min_four   -- for this text's walks alone
set_option linter.unusedVariables false
set_option linter.unusedSimpArgs false
set_option maxHeartbeats 20000000
set_option maxRecDepth 100000
def strings_Join.f (l0 : List ByteArray) (a1 : ByteArray) : Option ByteArray := if l0.length ≤ 140737488355328 ∧ (Lib.join (l0.map (·.data.toList)) a1.data.toList).length ≤ 140737488355328 then some ⟨(Lib.join (l0.map (·.data.toList)) a1.data.toList).toArray⟩ else none
theorem strings_Join.calls (A0 : Option Addr) (c0 : Nat) (l0 : List ByteArray) (a1 : ByteArray) (r : ByteArray) (w : World) (hr0 : Kd.C Kd.string w A0 l0.length l0) (hc0 : l0.length ≤ c0) (hG : Glob w) (h : strings_Join.f l0 a1 = some r) :
 Calls Tryz.prog 26 #[.slice A0 l0.length c0, .string a1] w fun e w' => e = .returned (.string r) ∧ Below w.heap.size w w' := by
 unfold strings_Join.f at h
 split at h
 ·rename_i hs
  obtain rfl := Option.some.inj h
  rcases Nat.eq_zero_or_pos l0.length with hz | hz
  ·obtain rfl : l0 = [] := List.eq_nil_of_length_eq_zero hz
   exact (Tryz.strings_Join_none A0 c0 a1 w).mono fun e w' hh => ⟨hh.1, by rw [hh.2]; exact Below.refl _ _⟩
  ·obtain ⟨ad, rfl, h0⟩ := Kd.at_string hr0 (0 : Int) (by omega) (by omega)
   have hall : ∀ (j : Nat) x, l0[j]? = some x → w.cell? (ad.add j) = some (.string x) := by
    intro j x hx
    obtain ⟨hj, rfl⟩ := List.getElem?_eq_some_iff.1 hx
    obtain ⟨ad', e', hc⟩ := Kd.at_string hr0 (j : Int) (by omega) (by omega)
    obtain rfl := Option.some.inj e'
    rw [Int.toNat_natCast] at hc
    rw [hc]
    congr 2
    unfold rdOf
    rw [Int.toNat_natCast, List.getD_eq_getElem?_getD, List.getElem?_eq_getElem hj]; rfl
   obtain ⟨bk, o, sp⟩ := ad
   have hsp : sp = none := by
    have h1 : w.cell? ⟨bk, o, sp⟩ = some (.string (rdOf ByteArray.empty l0 0)) := h0
    cases sp with
    | none => rfl
    | some p =>
     exfalso
     unfold World.cell? at h1
     dsimp only at h1
     split at h1
     ·simp at h1
     ·cases h1
   subst hsp
   refine (Tryz.strings_Join bk o c0 l0 a1 w (fun j x hx => ?_) ?_ hs.1 hc0 hs.2).mono fun e w' hh => hh
   ·have := hall j x hx
    unfold Addr.add at this
    by_cases j0 : j = 0
    ·subst j0; simpa using this
    ·simpa [j0] using this
   ·exact World.block_lt_of_cell? w _ h0
 ·exact absurd h (by simp)
def span_Text.l0 : Nat → List ByteArray → List (S30) → Int → Int → Option (ByteArray)
 | 0, _, _, _, _ => none
 | k + 1, x3, x7, x8, x9 => if x9 < x8 then (if 0 ≤ x9 then (if x9 < (x7.length : Int) then (if ((rd_T30 x7 x9).f0).size + 1 ≤ 9223372036854775807 then (if (((rd_T30 x7 x9).f0) ++ (⟨#[44]⟩ : ByteArray)).size + ((rd_T30 x7 x9).f1).size ≤ 9223372036854775807 then (if ((rd_T30 x7 x9).f0).toList = ((rd_T30 x7 x9).f1).toList then (if (rd_T30 x7 x9).f2 = true then (if (rd_T30 x7 x9).f3 = true then ((span_mark.f ((rd_T30 x7 x9).f2) (⟨#[91]⟩ : ByteArray) (⟨#[40]⟩ : ByteArray)).bind fun t247 => (if t247.size + ((rd_T30 x7 x9).f0).size ≤ 9223372036854775807 then ((span_mark.f ((rd_T30 x7 x9).f3) (⟨#[93]⟩ : ByteArray) (⟨#[41]⟩ : ByteArray)).bind fun t248 => (if (t247 ++ ((rd_T30 x7 x9).f0)).size + t248.size ≤ 9223372036854775807 then (if x3.length < 8796093022208 then (span_Text.l0 k (x3 ++ [(t247 ++ ((rd_T30 x7 x9).f0)) ++ t248]) x7 x8 (wrap64 (x9 + 1))) else (none)) else (none))) else (none))) else ((span_mark.f ((rd_T30 x7 x9).f2) (⟨#[91]⟩ : ByteArray) (⟨#[40]⟩ : ByteArray)).bind fun t252 => (if t252.size + ((((rd_T30 x7 x9).f0) ++ (⟨#[44]⟩ : ByteArray)) ++ ((rd_T30 x7 x9).f1)).size ≤ 9223372036854775807 then ((span_mark.f ((rd_T30 x7 x9).f3) (⟨#[93]⟩ : ByteArray) (⟨#[41]⟩ : ByteArray)).bind fun t253 => (if (t252 ++ ((((rd_T30 x7 x9).f0) ++ (⟨#[44]⟩ : ByteArray)) ++ ((rd_T30 x7 x9).f1))).size + t253.size ≤ 9223372036854775807 then (if x3.length < 8796093022208 then (span_Text.l0 k (x3 ++ [(t252 ++ ((((rd_T30 x7 x9).f0) ++ (⟨#[44]⟩ : ByteArray)) ++ ((rd_T30 x7 x9).f1))) ++ t253]) x7 x8 (wrap64 (x9 + 1))) else (none)) else (none))) else (none)))) else ((span_mark.f ((rd_T30 x7 x9).f2) (⟨#[91]⟩ : ByteArray) (⟨#[40]⟩ : ByteArray)).bind fun t257 => (if t257.size + ((((rd_T30 x7 x9).f0) ++ (⟨#[44]⟩ : ByteArray)) ++ ((rd_T30 x7 x9).f1)).size ≤ 9223372036854775807 then ((span_mark.f ((rd_T30 x7 x9).f3) (⟨#[93]⟩ : ByteArray) (⟨#[41]⟩ : ByteArray)).bind fun t258 => (if (t257 ++ ((((rd_T30 x7 x9).f0) ++ (⟨#[44]⟩ : ByteArray)) ++ ((rd_T30 x7 x9).f1))).size + t258.size ≤ 9223372036854775807 then (if x3.length < 8796093022208 then (span_Text.l0 k (x3 ++ [(t257 ++ ((((rd_T30 x7 x9).f0) ++ (⟨#[44]⟩ : ByteArray)) ++ ((rd_T30 x7 x9).f1))) ++ t258]) x7 x8 (wrap64 (x9 + 1))) else (none)) else (none))) else (none)))) else ((span_mark.f ((rd_T30 x7 x9).f2) (⟨#[91]⟩ : ByteArray) (⟨#[40]⟩ : ByteArray)).bind fun t262 => (if t262.size + ((((rd_T30 x7 x9).f0) ++ (⟨#[44]⟩ : ByteArray)) ++ ((rd_T30 x7 x9).f1)).size ≤ 9223372036854775807 then ((span_mark.f ((rd_T30 x7 x9).f3) (⟨#[93]⟩ : ByteArray) (⟨#[41]⟩ : ByteArray)).bind fun t263 => (if (t262 ++ ((((rd_T30 x7 x9).f0) ++ (⟨#[44]⟩ : ByteArray)) ++ ((rd_T30 x7 x9).f1))).size + t263.size ≤ 9223372036854775807 then (if x3.length < 8796093022208 then (span_Text.l0 k (x3 ++ [(t262 ++ ((((rd_T30 x7 x9).f0) ++ (⟨#[44]⟩ : ByteArray)) ++ ((rd_T30 x7 x9).f1))) ++ t263]) x7 x8 (wrap64 (x9 + 1))) else (none)) else (none))) else (none)))) else (none)) else (none)) else (none)) else (none)) else ((strings_Join.f x3 (⟨#[44]⟩ : ByteArray)).bind fun t267 => (some t267))
def span_Text.f (k : Nat) (l0 : List (S30)) : Option (ByteArray) := span_Text.l0 k ([] : List ByteArray) l0 (l0.length : Int) 0
theorem span_Text.mono_l : ∀ k, (∀ y0 y1 y2 y3, LeO (span_Text.l0 k y0 y1 y2 y3) (span_Text.l0 (k + 1) y0 y1 y2 y3))
 | 0 => fun _ _ _ _ r h => by simp [span_Text.l0] at h
 | k + 1 => by
  have ih0 := span_Text.mono_l k
  ·intro y0 y1 y2 y3
   unfold span_Text.l0
   exact mo
theorem span_Text.mono : ∀ a0 k, LeO (span_Text.f k a0) (span_Text.f (k + 1) a0) := by
 intro a0 k
 have ih0 := span_Text.mono_l k
 unfold span_Text.f
 exact mo
def span_Text.T8 : Bool × List (List Nat × List Nat) := (true, [([], []), ([], []), ([1], [1]), ([2], [2]), ([], []), ([3, 4], [3, 4]), ([], []), ([6], [6]), ([7, 3], [7]), ([5, 8], [5, 8]), ([9], [9]), ([0, 10, 8], [0, 10]), ([11, 11, 0, 1, 2, 3, 4, 5, 6, 7, 8, 9, 10, 11], [0, 11])])
def span_Text.B8 : List Nat := [0, 0, 2, 6, 0, 30, 0, 64, 206, 510, 1022, 2047, 4095]
theorem span_Text.tab8 : rtab .any (opsOf Tryz.f11 8) = span_Text.T8 := by kernel_rfl
theorem span_Text.bits8 : waitsOk span_Text.T8.2 span_Text.B8 = true := by kernel_rfl
theorem span_Text.calls (k : Nat) (A0 : Option Addr) (c0 : Nat) (l0 : List (S30)) (r : ByteArray) (w : World) (hr0 : Kd.C k30 w A0 l0.length l0) (hc0 : l0.length ≤ c0) (hG : Glob w) (h : span_Text.f k l0 = some r) :
 Calls Tryz.prog 11 #[.slice A0 l0.length c0] w fun e w' => e = .returned (.string r) ∧ Below w.heap.size w w' := by
 have hu30 := Tryz.underlying30
 have HG := Aside0.mk hG
 clear hG
 have HR0 := Aside0.mk hr0
 have HC0 := Aside0.mk hc0
 clear hr0 hc0
 have HB := Aside0.mk (Below.refl w.heap.size w)
 have H : (span_Text.l0 k ([] : List ByteArray) l0 (l0.length : Int) 0) = some r := h
 clear h
 have H' := Aside0.mk H
 clear H
 go_enter Tryz.func11, Tryz.ntmps11
 go_wp2
 go_loopg [3, 9] k (fun kq v3 v9 w' => ∃ (x3_1 : List ByteArray) (x9_1 : Int), v9 = .int .i64 x9_1 ∧ Aside0 (span_Text.l0 kq x3_1 l0 (l0.length : Int) x9_1 = some r) ∧ Aside0 (kq ≤ k) ∧ Aside0 (Kd.R Kd.string 9 w' w.heap.size (fun _ => True) v3 x3_1) ∧ Aside0 (Below w.heap.size w w'))
 case atStart => exact ⟨(([] : List ByteArray)), (0), cA, H', ⟨Nat.le_refl _⟩, ⟨by first | exact Kd.R_nil _ _ _ _ _ | exact Kd.N_nil _ _ _ _ _ | exact Kd.V_nil _ _ _ _ _ | exact Kd.Q_nil _ _ _ _ _ | exact Kd.S_nil _ _ _ _ _⟩, ⟨bE⟩⟩
 clear H'
 try clear c1
 obtain ⟨x3_1, x9_1, rfl, HA, HK1, HO_3, HB⟩ := hrel
 cases gk with
 | zero => exact absurd HA.out (by simp [span_Text.l0])
 | succ k1 =>
  have H := HA.out
  clear HA
  simp only [span_Text.l0] at H
  (try simp only [toList_lit] at H)
  by_cases c2 : x9_1 < (l0.length : Int)
  rotate_left
  ·rw [if_neg c2] at H
   have c2b0 := dF c2
   clear c2
   replace H := bi H
   obtain ⟨t267, A520, H⟩ := H
   try dsimp only at H
   have A52 := Aside0.mk A520
   clear A520
   obtain rfl := Option.some.inj H
   obtain ⟨Ao53, co53, eo53⟩ := Kd.R_slice HO_3.out
   subst eo53
   go_wp2_with (first | (refine gl (some 48) Tryz.func26 #[.slice Ao53 x3_1.length co53, .string (⟨#[44]⟩ : ByteArray)] ?_; (with_reducible refine (strings_Join.calls _ _ x3_1 (⟨#[44]⟩ : ByteArray) t267 _ ?side1 ?side2 (gS HG) A52.out).mono ?_); (case side1 => repeat (first | exact (Kd.R_reads' HO_3.out).2.2 | (with_reducible refine Kd.C_alloc ?_ _) | (with_reducible refine Kd.C_drewN ?_ _) | (with_reducible refine Kd.C_drew ?_))); (case side2 => exact (Kd.R_reads' HO_3.out).2.1); rintro e w54 ⟨rfl, hb⟩; refine ⟨_, rfl, ?_⟩; replace HO_3 := rB HO_3 hb; replace HB := sB hb; (try clear hb)))
   go_ret
   exact ⟨eA, bE⟩
  rw [if_pos c2] at H
  have c2b0 := dT c2
  clear c2
  obtain ⟨c3, H⟩ := gp H
  have c3b0 := dT c3
  clear c3
  obtain ⟨c4, H⟩ := gp H
  have c4b0 := dT c4
  clear c4
  obtain ⟨c5, H⟩ := gp H
  have c5b0 := eq_true c5
  have c5b1 := dT c5
  try have c5b2 : (9223372036854775807 < ((rd_T30 l0 x9_1).f0).size + 1) = False := eq_false (Nat.not_lt.2 c5)
  obtain ⟨c6, H⟩ := gp H
  have c6b0 := eq_true c6
  have c6b1 := dT c6
  try have c6b2 : (9223372036854775807 < (((rd_T30 l0 x9_1).f0) ++ (⟨#[44]⟩ : ByteArray)).size + ((rd_T30 l0 x9_1).f1).size) = False := eq_false (Nat.not_lt.2 c6)
  have c6n : (((rd_T30 l0 x9_1).f0).size + 1) + ((rd_T30 l0 x9_1).f1).size ≤ 9223372036854775807 := by have z_ := c6; simp only [ByteArray.size_append] at z_; exact z_
  have c6m : (9223372036854775807 < (((rd_T30 l0 x9_1).f0).size + 1) + ((rd_T30 l0 x9_1).f1).size) = False := eq_false (Nat.not_lt.2 c6n)
  clear c6 c6b0 c6b1
  try clear c6b2
  by_cases c7 : ((rd_T30 l0 x9_1).f0).toList = ((rd_T30 l0 x9_1).f1).toList
  rotate_left
  ·rw [if_neg c7] at H
   obtain ⟨c7b0, c7b1⟩ := eqF c7
   replace H := bi H
   obtain ⟨t262, A420, H⟩ := H
   try dsimp only at H
   have A42 := Aside0.mk A420
   clear A420
   obtain ⟨c43, H⟩ := gp H
   have c43b0 := eq_true c43
   have c43b1 := dT c43
   try have c43b2 : (9223372036854775807 < t262.size + ((((rd_T30 l0 x9_1).f0) ++ (⟨#[44]⟩ : ByteArray)) ++ ((rd_T30 l0 x9_1).f1)).size) = False := eq_false (Nat.not_lt.2 c43)
   have c43n : t262.size + ((((rd_T30 l0 x9_1).f0).size + 1) + ((rd_T30 l0 x9_1).f1).size) ≤ 9223372036854775807 := by have z_ := c43; simp only [ByteArray.size_append] at z_; exact z_
   have c43m : (9223372036854775807 < t262.size + ((((rd_T30 l0 x9_1).f0).size + 1) + ((rd_T30 l0 x9_1).f1).size)) = False := eq_false (Nat.not_lt.2 c43n)
   clear c43 c43b0 c43b1
   try clear c43b2
   replace H := bi H
   obtain ⟨t263, A440, H⟩ := H
   try dsimp only at H
   have A44 := Aside0.mk A440
   clear A440
   obtain ⟨c45, H⟩ := gp H
   have c45b0 := eq_true c45
   have c45b1 := dT c45
   try have c45b2 : (9223372036854775807 < (t262 ++ ((((rd_T30 l0 x9_1).f0) ++ (⟨#[44]⟩ : ByteArray)) ++ ((rd_T30 l0 x9_1).f1))).size + t263.size) = False := eq_false (Nat.not_lt.2 c45)
   have c45n : (t262.size + ((((rd_T30 l0 x9_1).f0).size + 1) + ((rd_T30 l0 x9_1).f1).size)) + t263.size ≤ 9223372036854775807 := by have z_ := c45; simp only [ByteArray.size_append] at z_; exact z_
   have c45m : (9223372036854775807 < (t262.size + ((((rd_T30 l0 x9_1).f0).size + 1) + ((rd_T30 l0 x9_1).f1).size)) + t263.size) = False := eq_false (Nat.not_lt.2 c45n)
   clear c45 c45b0 c45b1
   try clear c45b2
   obtain ⟨c46, H⟩ := gp H
   have LMc46 := Aside0.mk c46
   clear c46
   obtain ⟨y264, hy264⟩ : ∃ y_ : List ByteArray, y_ = (x3_1 ++ [(t262 ++ ((((rd_T30 l0 x9_1).f0) ++ (⟨#[44]⟩ : ByteArray)) ++ ((rd_T30 l0 x9_1).f1))) ++ t263]) := ⟨_, rfl⟩
   replace H : (span_Text.l0 k1 y264 l0 (l0.length : Int) (wrap64 (x9_1 + 1))) = some r := by first | (rw [hy264]; with_reducible exact H) | (have H2_ := (Option.bind_some _ _).symm.trans H; rw [hy264]; with_reducible exact H2_) | (have H2_ := (Option.bind_some _ _).symm.trans H; with_reducible exact H2_) | with_reducible exact H | (rw [hy264]; exact H) | exact H
   have Ny264 := Aside0.mk hy264
   clear hy264
   have H' := Aside0.mk H
   clear H
   have p245 : 0 ≤ (x9_1 : Int) := dA
   have q245 : x9_1 < (l0.length : Int) := dA
   obtain ⟨ad245, e245, hx245_0, hx245_1, hx245_2, hx245_3⟩ := at_T30 HR0.out x9_1 p245 q245
   cases e245
   replace hx245_0 := (HB.out.cell (World.block_lt_of_cell? w _ hx245_0)).trans hx245_0
   replace hx245_1 := (HB.out.cell (World.block_lt_of_cell? w _ hx245_1)).trans hx245_1
   replace hx245_2 := (HB.out.cell (World.block_lt_of_cell? w _ hx245_2)).trans hx245_2
   replace hx245_3 := (HB.out.cell (World.block_lt_of_cell? w _ hx245_3)).trans hx245_3
   replace p245 := eq_true p245
   replace q245 := eq_true q245
   try go_wp2_with (first | (refine be 5 #[.string (⟨#[]⟩ : ByteArray), .string (⟨#[]⟩ : ByteArray), .bool false, .bool false] 30 ?_; intro gb246 hg w47 hbox hb; replace HO_3 := rB HO_3 hb; have BK246 := Aside0.mk (hbox); have GW246 := gW hg; have GE246 := gW hg; replace HB := sB hb; clear hb hbox hg; have hcz48_0 : w47.cell? ⟨gb246, 0, none⟩ = some (.string (⟨#[]⟩ : ByteArray)) := (blk_cell BK246.out 0).trans rfl; have hcz48_1 : w47.cell? ⟨gb246, 1, none⟩ = some (.string (⟨#[]⟩ : ByteArray)) := (blk_cell BK246.out 1).trans rfl; have hcz48_2 : w47.cell? ⟨gb246, 2, none⟩ = some (.bool false) := (blk_cell BK246.out 2).trans rfl; have hcz48_3 : w47.cell? ⟨gb246, 3, none⟩ = some (.bool false) := (blk_cell BK246.out 3).trans rfl; have hfz48_0 := blk_frozen BK246.out 0; have hfz48_1 := blk_frozen BK246.out 1; have hfz48_2 := blk_frozen BK246.out 2; have hfz48_3 := blk_frozen BK246.out 3))
   have n0_ : Aside0 (Kd.R Kd.string 9 ((((w47.setCell ⟨gb246, 0, none⟩ (.string ((rd_T30 l0 x9_1).f0))).setCell ⟨gb246, 1, none⟩ (.string ((rd_T30 l0 x9_1).f1))).setCell ⟨gb246, 2, none⟩ (.bool ((rd_T30 l0 x9_1).f2))).setCell ⟨gb246, 3, none⟩ (.bool ((rd_T30 l0 x9_1).f3))) w.heap.size (fun _ => True) u3 x3_1) := ⟨by (with_reducible repeat (first | apply Kd.R_alloc | apply Kd.R_drewN | apply Kd.R_drew)); exact Kd.R_mono (Kd.R_far (p := ⟨gb246, 3, none⟩) (Kd.R_far (p := ⟨gb246, 2, none⟩) (Kd.R_far (p := ⟨gb246, 1, none⟩) (Kd.R_far (p := ⟨gb246, 0, none⟩) (Kd.R_types HO_3.out BK246.out (by decide)) (fun _ hk => hk.2) (.string ((rd_T30 l0 x9_1).f0))) (fun _ hk => hk.2) (.string ((rd_T30 l0 x9_1).f1))) (fun _ hk => hk.2) (.bool ((rd_T30 l0 x9_1).f2))) (fun _ hk => hk.2) (.bool ((rd_T30 l0 x9_1).f3))) (fun _ hk => trivial)⟩
   have n1_ : Aside0 (((((w47.setCell ⟨gb246, 0, none⟩ (.string ((rd_T30 l0 x9_1).f0))).setCell ⟨gb246, 1, none⟩ (.string ((rd_T30 l0 x9_1).f1))).setCell ⟨gb246, 2, none⟩ (.bool ((rd_T30 l0 x9_1).f2))).setCell ⟨gb246, 3, none⟩ (.bool ((rd_T30 l0 x9_1).f3))).heap[gb246]? = some (.cells #[.string ((rd_T30 l0 x9_1).f0), .string ((rd_T30 l0 x9_1).f1), .bool ((rd_T30 l0 x9_1).f2), .bool ((rd_T30 l0 x9_1).f3)] 30 (0, 0))) := ⟨bP BK246⟩
   have n2_ : Aside0 (Below w.heap.size w ((((w47.setCell ⟨gb246, 0, none⟩ (.string ((rd_T30 l0 x9_1).f0))).setCell ⟨gb246, 1, none⟩ (.string ((rd_T30 l0 x9_1).f1))).setCell ⟨gb246, 2, none⟩ (.bool ((rd_T30 l0 x9_1).f2))).setCell ⟨gb246, 3, none⟩ (.bool ((rd_T30 l0 x9_1).f3)))) := ⟨bG⟩
   (try clear HO_3)
   (try clear BK246)
   (try clear HB)
   generalize ((((w47.setCell ⟨gb246, 0, none⟩ (.string ((rd_T30 l0 x9_1).f0))).setCell ⟨gb246, 1, none⟩ (.string ((rd_T30 l0 x9_1).f1))).setCell ⟨gb246, 2, none⟩ (.bool ((rd_T30 l0 x9_1).f2))).setCell ⟨gb246, 3, none⟩ (.bool ((rd_T30 l0 x9_1).f3))) = w49 at n0_ n1_ n2_ ⊢
   have HO_3 := n0_
   have BK246 := n1_
   have HB := n2_
   clear n0_ n1_ n2_
   replace HO_3 := Aside0.mk (Kd.R_drew HO_3.out)
   replace BK246 := Aside0.mk (blk_drew BK246.out)
   replace HB := Aside0.mk (below_drew1 HB.out)
   refine start_ (n := 13) (S := fun w' => w'.cell? ⟨gb246, 0, none⟩ = some (.string ((rd_T30 l0 x9_1).f0)) ∧ w'.cell? ⟨gb246, 1, none⟩ = some (.string ((rd_T30 l0 x9_1).f1)) ∧ w'.cell? ⟨gb246, 2, none⟩ = some (.bool ((rd_T30 l0 x9_1).f2)) ∧ w'.cell? ⟨gb246, 3, none⟩ = some (.bool ((rd_T30 l0 x9_1).f3))) (ds := []) #[false, false, false, false, false, false, false, false, false, false, false, false, false] (by kernel_rfl) rfl rfl ⟨(blk_cell BK246.out 0).trans rfl, (blk_cell BK246.out 1).trans rfl, (blk_cell BK246.out 2).trans rfl, (blk_cell BK246.out 3).trans rfl⟩ (fun hHeld => ?_); refine with_tabW span_Text.tab8 span_Text.bits8 (fun HT_ HW_ => ?_)
   generalize w49.drew = w50 at HO_3 BK246 HB hHeld ⊢
   refine pz 0 (some 34) HT_ ?_
   refine pz 1 (some 35) HT_ ?_
   refine pz 4 (some 38) HT_ ?_
   refine pz 6 (some 40) HT_ ?_
   refine tm 2 (some 36) HT_ HW_ hHeld ?_
   refine tm 7 (some 41) HT_ HW_ hHeld ?_
   refine on 3 (some 37) HT_ (fun K hK => ?_)
   refine goes_ Tryz.func25 (by kernel_rfl) rfl #[.bool ((rd_T30 l0 x9_1).f2), .string (⟨#[91]⟩ : ByteArray), .string (⟨#[40]⟩ : ByteArray)] (by rfl) rfl rfl mA ?_
   with_reducible refine (span_mark.calls ((rd_T30 l0 x9_1).f2) (⟨#[91]⟩ : ByteArray) (⟨#[40]⟩ : ByteArray) t262 _ (gS HG) A42.out).mono ?_
   rintro e w' ⟨rfl, ⟨nd, rfl⟩⟩
   refine ⟨_, rfl, ?_⟩
   refine hK.out _ _ ⟨(blk_cell BK246.out 0).trans rfl, (blk_cell BK246.out 1).trans rfl, (blk_cell BK246.out 2).trans rfl, (blk_cell BK246.out 3).trans rfl⟩ (fun hHeld => ?_)
   clear hK K
   refine nz (some 37) ?_
   refine pz 5 (some 39) HT_ ?_
   refine on 8 (some 42) HT_ (fun K hK => ?_)
   refine goes_ Tryz.func25 (by kernel_rfl) rfl #[.bool ((rd_T30 l0 x9_1).f3), .string (⟨#[93]⟩ : ByteArray), .string (⟨#[41]⟩ : ByteArray)] (by rfl) rfl rfl mA ?_
   with_reducible refine (span_mark.calls ((rd_T30 l0 x9_1).f3) (⟨#[93]⟩ : ByteArray) (⟨#[41]⟩ : ByteArray) t263 _ (gS HG) A44.out).mono ?_
   rintro e w' ⟨rfl, ⟨nd, rfl⟩⟩
   refine ⟨_, rfl, ?_⟩
   refine hK.out _ _ ⟨(blk_cell BK246.out 0).trans rfl, (blk_cell BK246.out 1).trans rfl, (blk_cell BK246.out 2).trans rfl, (blk_cell BK246.out 3).trans rfl⟩ (fun hHeld => ?_)
   clear hK K
   refine nz (some 42) ?_
   refine pz 9 (some 43) HT_ ?_
   refine on 10 (some 44) HT_ (fun K hK => ?_)
   refine value_ (w1 := ?_) (v := ?_) (by rfl) rfl ?_ ?_
   rotate_left 2
   ·go_simp
    constructor
    ·rfl
    ·rfl
   refine hK.out _ _ ⟨(blk_cell (blk_alloc BK246.out _) 0).trans rfl, (blk_cell (blk_alloc BK246.out _) 1).trans rfl, (blk_cell (blk_alloc BK246.out _) 2).trans rfl, (blk_cell (blk_alloc BK246.out _) 3).trans rfl⟩ (fun hHeld => ?_)
   clear hK K
   refine nz (some 44) ?_
   refine on 11 (some 45) HT_ (fun K hK => ?_)
   refine Kd.R_append_step Kd.string (w0 := w) w.heap.size (by rfl) (.tmp 34) (.tmp 44) 47 9 (.string ⟨#[]⟩) 16 rfl Tryz.underlying47 info9 rfl (by decide) (by omega) u3 x3_1 ((t262 ++ ((((rd_T30 l0 x9_1).f0) ++ (⟨#[44]⟩ : ByteArray)) ++ ((rd_T30 l0 x9_1).f1))) ++ t263) [.string ((t262 ++ ((((rd_T30 l0 x9_1).f0) ++ (⟨#[44]⟩ : ByteArray)) ++ ((rd_T30 l0 x9_1).f1))) ++ t263)] (fun _ => True) (fun _ => False) rfl rfl ?aP (fun _ hk => hk.elim) ?aF ?aO ?aB ?aS ?aL ?_
   (case aP => exact rfl)
   (case aB => exact bG)
   (case aF => exact (fun _ _ => trivial))
   (case aO => exact (kR HO_3))
   (case aS => exact (below_size bG))
   (case aL => have := LMc46.out; omega)
   intro v265 w51 ho hb hg hat
   rw [← Ny264.out] at ho
   replace BK246 := Aside0.mk (blk_grown (g := gb246) (o := .cells #[.string ((rd_T30 l0 x9_1).f0), .string ((rd_T30 l0 x9_1).f1), .bool ((rd_T30 l0 x9_1).f2), .bool ((rd_T30 l0 x9_1).f3)] 30 (0, 0)) (bK BK246) hg (Kd.R_ne HO_3.out BK246.out (by decide)))
   replace HB := Aside0.mk (hb)
   have HO266 := Aside0.mk (ho)
   clear HO_3
   clear ho hb hg hat
   refine hK.out _ _ ⟨(blk_cell BK246.out 0).trans rfl, (blk_cell BK246.out 1).trans rfl, (blk_cell BK246.out 2).trans rfl, (blk_cell BK246.out 3).trans rfl⟩ (fun hHeld => ?_)
   clear hK K
   refine nz (some 45) ?_
   refine pz 12 (some 3) HT_ ?_
   refine done_ (done_of HT_.out (by kernel_rfl)) ?_
   try go_wp2
   go_roundg k1
   case measure => have := HK1.out; omega
   case rel => exact ⟨(y264), (wrap64 (x9_1 + 1)), cA, H', ⟨by have := HK1.out; omega⟩, ⟨kR HO266⟩, ⟨bG⟩⟩
  rw [if_pos c7] at H
  obtain ⟨c7b0, c7b1⟩ := eqT c7
  clear c7
  obtain ⟨bq8, hbq8⟩ : ∃ b_ : Bool, b_ = ((rd_T30 l0 x9_1).f2) := ⟨_, rfl⟩
  replace H : (if bq8 = true then (if (rd_T30 l0 x9_1).f3 = true then ((span_mark.f (bq8) (⟨#[91]⟩ : ByteArray) (⟨#[40]⟩ : ByteArray)).bind fun t247 => (if t247.size + ((rd_T30 l0 x9_1).f0).size ≤ 9223372036854775807 then ((span_mark.f ((rd_T30 l0 x9_1).f3) (⟨#[93]⟩ : ByteArray) (⟨#[41]⟩ : ByteArray)).bind fun t248 => (if (t247 ++ ((rd_T30 l0 x9_1).f0)).size + t248.size ≤ 9223372036854775807 then (if x3_1.length < 8796093022208 then (span_Text.l0 k1 (x3_1 ++ [(t247 ++ ((rd_T30 l0 x9_1).f0)) ++ t248]) l0 (l0.length : Int) (wrap64 (x9_1 + 1))) else (none)) else (none))) else (none))) else ((span_mark.f (bq8) (⟨#[91]⟩ : ByteArray) (⟨#[40]⟩ : ByteArray)).bind fun t252 => (if t252.size + ((((rd_T30 l0 x9_1).f0) ++ (⟨#[44]⟩ : ByteArray)) ++ ((rd_T30 l0 x9_1).f1)).size ≤ 9223372036854775807 then ((span_mark.f ((rd_T30 l0 x9_1).f3) (⟨#[93]⟩ : ByteArray) (⟨#[41]⟩ : ByteArray)).bind fun t253 => (if (t252 ++ ((((rd_T30 l0 x9_1).f0) ++ (⟨#[44]⟩ : ByteArray)) ++ ((rd_T30 l0 x9_1).f1))).size + t253.size ≤ 9223372036854775807 then (if x3_1.length < 8796093022208 then (span_Text.l0 k1 (x3_1 ++ [(t252 ++ ((((rd_T30 l0 x9_1).f0) ++ (⟨#[44]⟩ : ByteArray)) ++ ((rd_T30 l0 x9_1).f1))) ++ t253]) l0 (l0.length : Int) (wrap64 (x9_1 + 1))) else (none)) else (none))) else (none)))) else ((span_mark.f (bq8) (⟨#[91]⟩ : ByteArray) (⟨#[40]⟩ : ByteArray)).bind fun t257 => (if t257.size + ((((rd_T30 l0 x9_1).f0) ++ (⟨#[44]⟩ : ByteArray)) ++ ((rd_T30 l0 x9_1).f1)).size ≤ 9223372036854775807 then ((span_mark.f ((rd_T30 l0 x9_1).f3) (⟨#[93]⟩ : ByteArray) (⟨#[41]⟩ : ByteArray)).bind fun t258 => (if (t257 ++ ((((rd_T30 l0 x9_1).f0) ++ (⟨#[44]⟩ : ByteArray)) ++ ((rd_T30 l0 x9_1).f1))).size + t258.size ≤ 9223372036854775807 then (if x3_1.length < 8796093022208 then (span_Text.l0 k1 (x3_1 ++ [(t257 ++ ((((rd_T30 l0 x9_1).f0) ++ (⟨#[44]⟩ : ByteArray)) ++ ((rd_T30 l0 x9_1).f1))) ++ t258]) l0 (l0.length : Int) (wrap64 (x9_1 + 1))) else (none)) else (none))) else (none)))) = some r := by rw [← hbq8] at H; exact H
  have Nbq8 := Aside0.mk hbq8
  clear hbq8
  by_cases c9 : bq8 = true
  rotate_left
  ·replace c9 := Bool.eq_false_iff.mpr c9
   subst c9
   replace H : ((span_mark.f (false) (⟨#[91]⟩ : ByteArray) (⟨#[40]⟩ : ByteArray)).bind fun t257 => (if t257.size + ((((rd_T30 l0 x9_1).f0) ++ (⟨#[44]⟩ : ByteArray)) ++ ((rd_T30 l0 x9_1).f1)).size ≤ 9223372036854775807 then ((span_mark.f ((rd_T30 l0 x9_1).f3) (⟨#[93]⟩ : ByteArray) (⟨#[41]⟩ : ByteArray)).bind fun t258 => (if (t257 ++ ((((rd_T30 l0 x9_1).f0) ++ (⟨#[44]⟩ : ByteArray)) ++ ((rd_T30 l0 x9_1).f1))).size + t258.size ≤ 9223372036854775807 then (if x3_1.length < 8796093022208 then (span_Text.l0 k1 (x3_1 ++ [(t257 ++ ((((rd_T30 l0 x9_1).f0) ++ (⟨#[44]⟩ : ByteArray)) ++ ((rd_T30 l0 x9_1).f1))) ++ t258]) l0 (l0.length : Int) (wrap64 (x9_1 + 1))) else (none)) else (none))) else (none))) = some r := by rw [if_neg nF] at H; exact H
   replace H := bi H
   obtain ⟨t257, A320, H⟩ := H
   try dsimp only at H
   have A32 := Aside0.mk A320
   clear A320
   obtain ⟨c33, H⟩ := gp H
   have c33b0 := eq_true c33
   have c33b1 := dT c33
   try have c33b2 : (9223372036854775807 < t257.size + ((((rd_T30 l0 x9_1).f0) ++ (⟨#[44]⟩ : ByteArray)) ++ ((rd_T30 l0 x9_1).f1)).size) = False := eq_false (Nat.not_lt.2 c33)
   have c33n : t257.size + ((((rd_T30 l0 x9_1).f0).size + 1) + ((rd_T30 l0 x9_1).f1).size) ≤ 9223372036854775807 := by have z_ := c33; simp only [ByteArray.size_append] at z_; exact z_
   have c33m : (9223372036854775807 < t257.size + ((((rd_T30 l0 x9_1).f0).size + 1) + ((rd_T30 l0 x9_1).f1).size)) = False := eq_false (Nat.not_lt.2 c33n)
   clear c33 c33b0 c33b1
   try clear c33b2
   replace H := bi H
   obtain ⟨t258, A340, H⟩ := H
   try dsimp only at H
   have A34 := Aside0.mk A340
   clear A340
   obtain ⟨c35, H⟩ := gp H
   have c35b0 := eq_true c35
   have c35b1 := dT c35
   try have c35b2 : (9223372036854775807 < (t257 ++ ((((rd_T30 l0 x9_1).f0) ++ (⟨#[44]⟩ : ByteArray)) ++ ((rd_T30 l0 x9_1).f1))).size + t258.size) = False := eq_false (Nat.not_lt.2 c35)
   have c35n : (t257.size + ((((rd_T30 l0 x9_1).f0).size + 1) + ((rd_T30 l0 x9_1).f1).size)) + t258.size ≤ 9223372036854775807 := by have z_ := c35; simp only [ByteArray.size_append] at z_; exact z_
   have c35m : (9223372036854775807 < (t257.size + ((((rd_T30 l0 x9_1).f0).size + 1) + ((rd_T30 l0 x9_1).f1).size)) + t258.size) = False := eq_false (Nat.not_lt.2 c35n)
   clear c35 c35b0 c35b1
   try clear c35b2
   obtain ⟨c36, H⟩ := gp H
   have LMc36 := Aside0.mk c36
   clear c36
   obtain ⟨y259, hy259⟩ : ∃ y_ : List ByteArray, y_ = (x3_1 ++ [(t257 ++ ((((rd_T30 l0 x9_1).f0) ++ (⟨#[44]⟩ : ByteArray)) ++ ((rd_T30 l0 x9_1).f1))) ++ t258]) := ⟨_, rfl⟩
   replace H : (span_Text.l0 k1 y259 l0 (l0.length : Int) (wrap64 (x9_1 + 1))) = some r := by first | (rw [hy259]; with_reducible exact H) | (have H2_ := (Option.bind_some _ _).symm.trans H; rw [hy259]; with_reducible exact H2_) | (have H2_ := (Option.bind_some _ _).symm.trans H; with_reducible exact H2_) | with_reducible exact H | (rw [hy259]; exact H) | exact H
   have Ny259 := Aside0.mk hy259
   clear hy259
   have H' := Aside0.mk H
   clear H
   have p245 : 0 ≤ (x9_1 : Int) := dA
   have q245 : x9_1 < (l0.length : Int) := dA
   obtain ⟨ad245, e245, hx245_0, hx245_1, hx245_2, hx245_3⟩ := at_T30 HR0.out x9_1 p245 q245
   (try rw [← Nbq8.out] at hx245_2)
   (try rw [← Nbq8.out] at hx245_3)
   cases e245
   replace hx245_0 := (HB.out.cell (World.block_lt_of_cell? w _ hx245_0)).trans hx245_0
   replace hx245_1 := (HB.out.cell (World.block_lt_of_cell? w _ hx245_1)).trans hx245_1
   replace hx245_2 := (HB.out.cell (World.block_lt_of_cell? w _ hx245_2)).trans hx245_2
   replace hx245_3 := (HB.out.cell (World.block_lt_of_cell? w _ hx245_3)).trans hx245_3
   replace p245 := eq_true p245
   replace q245 := eq_true q245
   try go_wp2_with (first | (refine be 5 #[.string (⟨#[]⟩ : ByteArray), .string (⟨#[]⟩ : ByteArray), .bool false, .bool false] 30 ?_; intro gb246 hg w37 hbox hb; replace HO_3 := rB HO_3 hb; have BK246 := Aside0.mk (hbox); have GW246 := gW hg; have GE246 := gW hg; replace HB := sB hb; clear hb hbox hg; have hcz38_0 : w37.cell? ⟨gb246, 0, none⟩ = some (.string (⟨#[]⟩ : ByteArray)) := (blk_cell BK246.out 0).trans rfl; have hcz38_1 : w37.cell? ⟨gb246, 1, none⟩ = some (.string (⟨#[]⟩ : ByteArray)) := (blk_cell BK246.out 1).trans rfl; have hcz38_2 : w37.cell? ⟨gb246, 2, none⟩ = some (.bool false) := (blk_cell BK246.out 2).trans rfl; have hcz38_3 : w37.cell? ⟨gb246, 3, none⟩ = some (.bool false) := (blk_cell BK246.out 3).trans rfl; have hfz38_0 := blk_frozen BK246.out 0; have hfz38_1 := blk_frozen BK246.out 1; have hfz38_2 := blk_frozen BK246.out 2; have hfz38_3 := blk_frozen BK246.out 3))
   have n0_ : Aside0 (Kd.R Kd.string 9 ((((w37.setCell ⟨gb246, 0, none⟩ (.string ((rd_T30 l0 x9_1).f0))).setCell ⟨gb246, 1, none⟩ (.string ((rd_T30 l0 x9_1).f1))).setCell ⟨gb246, 2, none⟩ (.bool false)).setCell ⟨gb246, 3, none⟩ (.bool ((rd_T30 l0 x9_1).f3))) w.heap.size (fun _ => True) u3 x3_1) := ⟨by (with_reducible repeat (first | apply Kd.R_alloc | apply Kd.R_drewN | apply Kd.R_drew)); exact Kd.R_mono (Kd.R_far (p := ⟨gb246, 3, none⟩) (Kd.R_far (p := ⟨gb246, 2, none⟩) (Kd.R_far (p := ⟨gb246, 1, none⟩) (Kd.R_far (p := ⟨gb246, 0, none⟩) (Kd.R_types HO_3.out BK246.out (by decide)) (fun _ hk => hk.2) (.string ((rd_T30 l0 x9_1).f0))) (fun _ hk => hk.2) (.string ((rd_T30 l0 x9_1).f1))) (fun _ hk => hk.2) (.bool false)) (fun _ hk => hk.2) (.bool ((rd_T30 l0 x9_1).f3))) (fun _ hk => trivial)⟩
   have n1_ : Aside0 (((((w37.setCell ⟨gb246, 0, none⟩ (.string ((rd_T30 l0 x9_1).f0))).setCell ⟨gb246, 1, none⟩ (.string ((rd_T30 l0 x9_1).f1))).setCell ⟨gb246, 2, none⟩ (.bool false)).setCell ⟨gb246, 3, none⟩ (.bool ((rd_T30 l0 x9_1).f3))).heap[gb246]? = some (.cells #[.string ((rd_T30 l0 x9_1).f0), .string ((rd_T30 l0 x9_1).f1), .bool false, .bool ((rd_T30 l0 x9_1).f3)] 30 (0, 0))) := ⟨bP BK246⟩
   have n2_ : Aside0 (Below w.heap.size w ((((w37.setCell ⟨gb246, 0, none⟩ (.string ((rd_T30 l0 x9_1).f0))).setCell ⟨gb246, 1, none⟩ (.string ((rd_T30 l0 x9_1).f1))).setCell ⟨gb246, 2, none⟩ (.bool false)).setCell ⟨gb246, 3, none⟩ (.bool ((rd_T30 l0 x9_1).f3)))) := ⟨bG⟩
   (try clear HO_3)
   (try clear BK246)
   (try clear HB)
   generalize ((((w37.setCell ⟨gb246, 0, none⟩ (.string ((rd_T30 l0 x9_1).f0))).setCell ⟨gb246, 1, none⟩ (.string ((rd_T30 l0 x9_1).f1))).setCell ⟨gb246, 2, none⟩ (.bool false)).setCell ⟨gb246, 3, none⟩ (.bool ((rd_T30 l0 x9_1).f3))) = w39 at n0_ n1_ n2_ ⊢
   have HO_3 := n0_
   have BK246 := n1_
   have HB := n2_
   clear n0_ n1_ n2_
   replace HO_3 := Aside0.mk (Kd.R_drew HO_3.out)
   replace BK246 := Aside0.mk (blk_drew BK246.out)
   replace HB := Aside0.mk (below_drew1 HB.out)
   refine start_ (n := 13) (S := fun w' => w'.cell? ⟨gb246, 0, none⟩ = some (.string ((rd_T30 l0 x9_1).f0)) ∧ w'.cell? ⟨gb246, 1, none⟩ = some (.string ((rd_T30 l0 x9_1).f1)) ∧ w'.cell? ⟨gb246, 2, none⟩ = some (.bool false) ∧ w'.cell? ⟨gb246, 3, none⟩ = some (.bool ((rd_T30 l0 x9_1).f3))) (ds := []) #[false, false, false, false, false, false, false, false, false, false, false, false, false] (by kernel_rfl) rfl rfl ⟨(blk_cell BK246.out 0).trans rfl, (blk_cell BK246.out 1).trans rfl, (blk_cell BK246.out 2).trans rfl, (blk_cell BK246.out 3).trans rfl⟩ (fun hHeld => ?_); refine with_tabW span_Text.tab8 span_Text.bits8 (fun HT_ HW_ => ?_)
   generalize w39.drew = w40 at HO_3 BK246 HB hHeld ⊢
   refine pz 0 (some 34) HT_ ?_
   refine pz 1 (some 35) HT_ ?_
   refine pz 4 (some 38) HT_ ?_
   refine pz 6 (some 40) HT_ ?_
   refine tm 2 (some 36) HT_ HW_ hHeld ?_
   refine tm 7 (some 41) HT_ HW_ hHeld ?_
   refine on 3 (some 37) HT_ (fun K hK => ?_)
   refine goes_ Tryz.func25 (by kernel_rfl) rfl #[.bool false, .string (⟨#[91]⟩ : ByteArray), .string (⟨#[40]⟩ : ByteArray)] (by rfl) rfl rfl mA ?_
   with_reducible refine (span_mark.calls false (⟨#[91]⟩ : ByteArray) (⟨#[40]⟩ : ByteArray) t257 _ (gS HG) A32.out).mono ?_
   rintro e w' ⟨rfl, ⟨nd, rfl⟩⟩
   refine ⟨_, rfl, ?_⟩
   refine hK.out _ _ ⟨(blk_cell BK246.out 0).trans rfl, (blk_cell BK246.out 1).trans rfl, (blk_cell BK246.out 2).trans rfl, (blk_cell BK246.out 3).trans rfl⟩ (fun hHeld => ?_)
   clear hK K
   refine nz (some 37) ?_
   refine pz 5 (some 39) HT_ ?_
   refine on 8 (some 42) HT_ (fun K hK => ?_)
   refine goes_ Tryz.func25 (by kernel_rfl) rfl #[.bool ((rd_T30 l0 x9_1).f3), .string (⟨#[93]⟩ : ByteArray), .string (⟨#[41]⟩ : ByteArray)] (by rfl) rfl rfl mA ?_
   with_reducible refine (span_mark.calls ((rd_T30 l0 x9_1).f3) (⟨#[93]⟩ : ByteArray) (⟨#[41]⟩ : ByteArray) t258 _ (gS HG) A34.out).mono ?_
   rintro e w' ⟨rfl, ⟨nd, rfl⟩⟩
   refine ⟨_, rfl, ?_⟩
   refine hK.out _ _ ⟨(blk_cell BK246.out 0).trans rfl, (blk_cell BK246.out 1).trans rfl, (blk_cell BK246.out 2).trans rfl, (blk_cell BK246.out 3).trans rfl⟩ (fun hHeld => ?_)
   clear hK K
   refine nz (some 42) ?_
   refine pz 9 (some 43) HT_ ?_
   refine on 10 (some 44) HT_ (fun K hK => ?_)
   refine value_ (w1 := ?_) (v := ?_) (by rfl) rfl ?_ ?_
   rotate_left 2
   ·go_simp
    constructor
    ·rfl
    ·rfl
   refine hK.out _ _ ⟨(blk_cell (blk_alloc BK246.out _) 0).trans rfl, (blk_cell (blk_alloc BK246.out _) 1).trans rfl, (blk_cell (blk_alloc BK246.out _) 2).trans rfl, (blk_cell (blk_alloc BK246.out _) 3).trans rfl⟩ (fun hHeld => ?_)
   clear hK K
   refine nz (some 44) ?_
   refine on 11 (some 45) HT_ (fun K hK => ?_)
   refine Kd.R_append_step Kd.string (w0 := w) w.heap.size (by rfl) (.tmp 34) (.tmp 44) 47 9 (.string ⟨#[]⟩) 16 rfl Tryz.underlying47 info9 rfl (by decide) (by omega) u3 x3_1 ((t257 ++ ((((rd_T30 l0 x9_1).f0) ++ (⟨#[44]⟩ : ByteArray)) ++ ((rd_T30 l0 x9_1).f1))) ++ t258) [.string ((t257 ++ ((((rd_T30 l0 x9_1).f0) ++ (⟨#[44]⟩ : ByteArray)) ++ ((rd_T30 l0 x9_1).f1))) ++ t258)] (fun _ => True) (fun _ => False) rfl rfl ?aP (fun _ hk => hk.elim) ?aF ?aO ?aB ?aS ?aL ?_
   (case aP => exact rfl)
   (case aB => exact bG)
   (case aF => exact (fun _ _ => trivial))
   (case aO => exact (kR HO_3))
   (case aS => exact (below_size bG))
   (case aL => have := LMc36.out; omega)
   intro v260 w41 ho hb hg hat
   rw [← Ny259.out] at ho
   replace BK246 := Aside0.mk (blk_grown (g := gb246) (o := .cells #[.string ((rd_T30 l0 x9_1).f0), .string ((rd_T30 l0 x9_1).f1), .bool false, .bool ((rd_T30 l0 x9_1).f3)] 30 (0, 0)) (bK BK246) hg (Kd.R_ne HO_3.out BK246.out (by decide)))
   replace HB := Aside0.mk (hb)
   have HO261 := Aside0.mk (ho)
   clear HO_3
   clear ho hb hg hat
   refine hK.out _ _ ⟨(blk_cell BK246.out 0).trans rfl, (blk_cell BK246.out 1).trans rfl, (blk_cell BK246.out 2).trans rfl, (blk_cell BK246.out 3).trans rfl⟩ (fun hHeld => ?_)
   clear hK K
   refine nz (some 45) ?_
   refine pz 12 (some 3) HT_ ?_
   refine done_ (done_of HT_.out (by kernel_rfl)) ?_
   try go_wp2
   go_roundg k1
   case measure => have := HK1.out; omega
   case rel => exact ⟨(y259), (wrap64 (x9_1 + 1)), cA, H', ⟨by have := HK1.out; omega⟩, ⟨kR HO261⟩, ⟨bG⟩⟩
  subst c9
  replace H : (if (rd_T30 l0 x9_1).f3 = true then ((span_mark.f (true) (⟨#[91]⟩ : ByteArray) (⟨#[40]⟩ : ByteArray)).bind fun t247 => (if t247.size + ((rd_T30 l0 x9_1).f0).size ≤ 9223372036854775807 then ((span_mark.f ((rd_T30 l0 x9_1).f3) (⟨#[93]⟩ : ByteArray) (⟨#[41]⟩ : ByteArray)).bind fun t248 => (if (t247 ++ ((rd_T30 l0 x9_1).f0)).size + t248.size ≤ 9223372036854775807 then (if x3_1.length < 8796093022208 then (span_Text.l0 k1 (x3_1 ++ [(t247 ++ ((rd_T30 l0 x9_1).f0)) ++ t248]) l0 (l0.length : Int) (wrap64 (x9_1 + 1))) else (none)) else (none))) else (none))) else ((span_mark.f (true) (⟨#[91]⟩ : ByteArray) (⟨#[40]⟩ : ByteArray)).bind fun t252 => (if t252.size + ((((rd_T30 l0 x9_1).f0) ++ (⟨#[44]⟩ : ByteArray)) ++ ((rd_T30 l0 x9_1).f1)).size ≤ 9223372036854775807 then ((span_mark.f ((rd_T30 l0 x9_1).f3) (⟨#[93]⟩ : ByteArray) (⟨#[41]⟩ : ByteArray)).bind fun t253 => (if (t252 ++ ((((rd_T30 l0 x9_1).f0) ++ (⟨#[44]⟩ : ByteArray)) ++ ((rd_T30 l0 x9_1).f1))).size + t253.size ≤ 9223372036854775807 then (if x3_1.length < 8796093022208 then (span_Text.l0 k1 (x3_1 ++ [(t252 ++ ((((rd_T30 l0 x9_1).f0) ++ (⟨#[44]⟩ : ByteArray)) ++ ((rd_T30 l0 x9_1).f1))) ++ t253]) l0 (l0.length : Int) (wrap64 (x9_1 + 1))) else (none)) else (none))) else (none)))) = some r := by rw [if_pos rfl] at H; exact H
  obtain ⟨bq10, hbq10⟩ : ∃ b_ : Bool, b_ = ((rd_T30 l0 x9_1).f3) := ⟨_, rfl⟩
  replace H : (if bq10 = true then ((span_mark.f (true) (⟨#[91]⟩ : ByteArray) (⟨#[40]⟩ : ByteArray)).bind fun t247 => (if t247.size + ((rd_T30 l0 x9_1).f0).size ≤ 9223372036854775807 then ((span_mark.f (bq10) (⟨#[93]⟩ : ByteArray) (⟨#[41]⟩ : ByteArray)).bind fun t248 => (if (t247 ++ ((rd_T30 l0 x9_1).f0)).size + t248.size ≤ 9223372036854775807 then (if x3_1.length < 8796093022208 then (span_Text.l0 k1 (x3_1 ++ [(t247 ++ ((rd_T30 l0 x9_1).f0)) ++ t248]) l0 (l0.length : Int) (wrap64 (x9_1 + 1))) else (none)) else (none))) else (none))) else ((span_mark.f (true) (⟨#[91]⟩ : ByteArray) (⟨#[40]⟩ : ByteArray)).bind fun t252 => (if t252.size + ((((rd_T30 l0 x9_1).f0) ++ (⟨#[44]⟩ : ByteArray)) ++ ((rd_T30 l0 x9_1).f1)).size ≤ 9223372036854775807 then ((span_mark.f (bq10) (⟨#[93]⟩ : ByteArray) (⟨#[41]⟩ : ByteArray)).bind fun t253 => (if (t252 ++ ((((rd_T30 l0 x9_1).f0) ++ (⟨#[44]⟩ : ByteArray)) ++ ((rd_T30 l0 x9_1).f1))).size + t253.size ≤ 9223372036854775807 then (if x3_1.length < 8796093022208 then (span_Text.l0 k1 (x3_1 ++ [(t252 ++ ((((rd_T30 l0 x9_1).f0) ++ (⟨#[44]⟩ : ByteArray)) ++ ((rd_T30 l0 x9_1).f1))) ++ t253]) l0 (l0.length : Int) (wrap64 (x9_1 + 1))) else (none)) else (none))) else (none)))) = some r := by rw [← hbq10] at H; exact H
  have Nbq10 := Aside0.mk hbq10
  clear hbq10
  by_cases c11 : bq10 = true
  ·subst c11
   replace H : ((span_mark.f (true) (⟨#[91]⟩ : ByteArray) (⟨#[40]⟩ : ByteArray)).bind fun t247 => (if t247.size + ((rd_T30 l0 x9_1).f0).size ≤ 9223372036854775807 then ((span_mark.f (true) (⟨#[93]⟩ : ByteArray) (⟨#[41]⟩ : ByteArray)).bind fun t248 => (if (t247 ++ ((rd_T30 l0 x9_1).f0)).size + t248.size ≤ 9223372036854775807 then (if x3_1.length < 8796093022208 then (span_Text.l0 k1 (x3_1 ++ [(t247 ++ ((rd_T30 l0 x9_1).f0)) ++ t248]) l0 (l0.length : Int) (wrap64 (x9_1 + 1))) else (none)) else (none))) else (none))) = some r := by rw [if_pos rfl] at H; exact H
   replace H := bi H
   obtain ⟨t247, A120, H⟩ := H
   try dsimp only at H
   have A12 := Aside0.mk A120
   clear A120
   obtain ⟨c13, H⟩ := gp H
   have c13b0 := eq_true c13
   have c13b1 := dT c13
   try have c13b2 : (9223372036854775807 < t247.size + ((rd_T30 l0 x9_1).f0).size) = False := eq_false (Nat.not_lt.2 c13)
   replace H := bi H
   obtain ⟨t248, A140, H⟩ := H
   try dsimp only at H
   have A14 := Aside0.mk A140
   clear A140
   obtain ⟨c15, H⟩ := gp H
   have c15b0 := eq_true c15
   have c15b1 := dT c15
   try have c15b2 : (9223372036854775807 < (t247 ++ ((rd_T30 l0 x9_1).f0)).size + t248.size) = False := eq_false (Nat.not_lt.2 c15)
   have c15n : (t247.size + ((rd_T30 l0 x9_1).f0).size) + t248.size ≤ 9223372036854775807 := by have z_ := c15; simp only [ByteArray.size_append] at z_; exact z_
   have c15m : (9223372036854775807 < (t247.size + ((rd_T30 l0 x9_1).f0).size) + t248.size) = False := eq_false (Nat.not_lt.2 c15n)
   clear c15 c15b0 c15b1
   try clear c15b2
   obtain ⟨c16, H⟩ := gp H
   have LMc16 := Aside0.mk c16
   clear c16
   obtain ⟨y249, hy249⟩ : ∃ y_ : List ByteArray, y_ = (x3_1 ++ [(t247 ++ ((rd_T30 l0 x9_1).f0)) ++ t248]) := ⟨_, rfl⟩
   replace H : (span_Text.l0 k1 y249 l0 (l0.length : Int) (wrap64 (x9_1 + 1))) = some r := by first | (rw [hy249]; with_reducible exact H) | (have H2_ := (Option.bind_some _ _).symm.trans H; rw [hy249]; with_reducible exact H2_) | (have H2_ := (Option.bind_some _ _).symm.trans H; with_reducible exact H2_) | with_reducible exact H | (rw [hy249]; exact H) | exact H
   have Ny249 := Aside0.mk hy249
   clear hy249
   have H' := Aside0.mk H
   clear H
   have p245 : 0 ≤ (x9_1 : Int) := dA
   have q245 : x9_1 < (l0.length : Int) := dA
   obtain ⟨ad245, e245, hx245_0, hx245_1, hx245_2, hx245_3⟩ := at_T30 HR0.out x9_1 p245 q245
   (try rw [← Nbq8.out] at hx245_2)
   (try rw [← Nbq10.out] at hx245_2)
   (try rw [← Nbq8.out] at hx245_3)
   (try rw [← Nbq10.out] at hx245_3)
   cases e245
   replace hx245_0 := (HB.out.cell (World.block_lt_of_cell? w _ hx245_0)).trans hx245_0
   replace hx245_1 := (HB.out.cell (World.block_lt_of_cell? w _ hx245_1)).trans hx245_1
   replace hx245_2 := (HB.out.cell (World.block_lt_of_cell? w _ hx245_2)).trans hx245_2
   replace hx245_3 := (HB.out.cell (World.block_lt_of_cell? w _ hx245_3)).trans hx245_3
   replace p245 := eq_true p245
   replace q245 := eq_true q245
   try go_wp2_with (first | (refine be 5 #[.string (⟨#[]⟩ : ByteArray), .string (⟨#[]⟩ : ByteArray), .bool false, .bool false] 30 ?_; intro gb246 hg w17 hbox hb; replace HO_3 := rB HO_3 hb; have BK246 := Aside0.mk (hbox); have GW246 := gW hg; have GE246 := gW hg; replace HB := sB hb; clear hb hbox hg; have hcz18_0 : w17.cell? ⟨gb246, 0, none⟩ = some (.string (⟨#[]⟩ : ByteArray)) := (blk_cell BK246.out 0).trans rfl; have hcz18_1 : w17.cell? ⟨gb246, 1, none⟩ = some (.string (⟨#[]⟩ : ByteArray)) := (blk_cell BK246.out 1).trans rfl; have hcz18_2 : w17.cell? ⟨gb246, 2, none⟩ = some (.bool false) := (blk_cell BK246.out 2).trans rfl; have hcz18_3 : w17.cell? ⟨gb246, 3, none⟩ = some (.bool false) := (blk_cell BK246.out 3).trans rfl; have hfz18_0 := blk_frozen BK246.out 0; have hfz18_1 := blk_frozen BK246.out 1; have hfz18_2 := blk_frozen BK246.out 2; have hfz18_3 := blk_frozen BK246.out 3))
   have n0_ : Aside0 (Kd.R Kd.string 9 ((((w17.setCell ⟨gb246, 0, none⟩ (.string ((rd_T30 l0 x9_1).f0))).setCell ⟨gb246, 1, none⟩ (.string ((rd_T30 l0 x9_1).f1))).setCell ⟨gb246, 2, none⟩ (.bool true)).setCell ⟨gb246, 3, none⟩ (.bool true)) w.heap.size (fun _ => True) u3 x3_1) := ⟨by (with_reducible repeat (first | apply Kd.R_alloc | apply Kd.R_drewN | apply Kd.R_drew)); exact Kd.R_mono (Kd.R_far (p := ⟨gb246, 3, none⟩) (Kd.R_far (p := ⟨gb246, 2, none⟩) (Kd.R_far (p := ⟨gb246, 1, none⟩) (Kd.R_far (p := ⟨gb246, 0, none⟩) (Kd.R_types HO_3.out BK246.out (by decide)) (fun _ hk => hk.2) (.string ((rd_T30 l0 x9_1).f0))) (fun _ hk => hk.2) (.string ((rd_T30 l0 x9_1).f1))) (fun _ hk => hk.2) (.bool true)) (fun _ hk => hk.2) (.bool true)) (fun _ hk => trivial)⟩
   have n1_ : Aside0 (((((w17.setCell ⟨gb246, 0, none⟩ (.string ((rd_T30 l0 x9_1).f0))).setCell ⟨gb246, 1, none⟩ (.string ((rd_T30 l0 x9_1).f1))).setCell ⟨gb246, 2, none⟩ (.bool true)).setCell ⟨gb246, 3, none⟩ (.bool true)).heap[gb246]? = some (.cells #[.string ((rd_T30 l0 x9_1).f0), .string ((rd_T30 l0 x9_1).f1), .bool true, .bool true] 30 (0, 0))) := ⟨bP BK246⟩
   have n2_ : Aside0 (Below w.heap.size w ((((w17.setCell ⟨gb246, 0, none⟩ (.string ((rd_T30 l0 x9_1).f0))).setCell ⟨gb246, 1, none⟩ (.string ((rd_T30 l0 x9_1).f1))).setCell ⟨gb246, 2, none⟩ (.bool true)).setCell ⟨gb246, 3, none⟩ (.bool true))) := ⟨bG⟩
   (try clear HO_3)
   (try clear BK246)
   (try clear HB)
   generalize ((((w17.setCell ⟨gb246, 0, none⟩ (.string ((rd_T30 l0 x9_1).f0))).setCell ⟨gb246, 1, none⟩ (.string ((rd_T30 l0 x9_1).f1))).setCell ⟨gb246, 2, none⟩ (.bool true)).setCell ⟨gb246, 3, none⟩ (.bool true)) = w19 at n0_ n1_ n2_ ⊢
   have HO_3 := n0_
   have BK246 := n1_
   have HB := n2_
   clear n0_ n1_ n2_
   replace HO_3 := Aside0.mk (Kd.R_drew HO_3.out)
   replace BK246 := Aside0.mk (blk_drew BK246.out)
   replace HB := Aside0.mk (below_drew1 HB.out)
   refine start_ (n := 13) (S := fun w' => w'.cell? ⟨gb246, 0, none⟩ = some (.string ((rd_T30 l0 x9_1).f0)) ∧ w'.cell? ⟨gb246, 1, none⟩ = some (.string ((rd_T30 l0 x9_1).f1)) ∧ w'.cell? ⟨gb246, 2, none⟩ = some (.bool true) ∧ w'.cell? ⟨gb246, 3, none⟩ = some (.bool true)) (ds := []) #[false, false, false, false, false, false, false, false, false, false, false, false, false] (by kernel_rfl) rfl rfl ⟨(blk_cell BK246.out 0).trans rfl, (blk_cell BK246.out 1).trans rfl, (blk_cell BK246.out 2).trans rfl, (blk_cell BK246.out 3).trans rfl⟩ (fun hHeld => ?_); refine with_tabW span_Text.tab8 span_Text.bits8 (fun HT_ HW_ => ?_)
   generalize w19.drew = w20 at HO_3 BK246 HB hHeld ⊢
   refine pz 0 (some 34) HT_ ?_
   refine pz 1 (some 35) HT_ ?_
   refine pz 4 (some 38) HT_ ?_
   refine pz 6 (some 40) HT_ ?_
   refine tm 2 (some 36) HT_ HW_ hHeld ?_
   refine tm 7 (some 41) HT_ HW_ hHeld ?_
   refine on 3 (some 37) HT_ (fun K hK => ?_)
   refine goes_ Tryz.func25 (by kernel_rfl) rfl #[.bool true, .string (⟨#[91]⟩ : ByteArray), .string (⟨#[40]⟩ : ByteArray)] (by rfl) rfl rfl mA ?_
   with_reducible refine (span_mark.calls true (⟨#[91]⟩ : ByteArray) (⟨#[40]⟩ : ByteArray) t247 _ (gS HG) A12.out).mono ?_
   rintro e w' ⟨rfl, ⟨nd, rfl⟩⟩
   refine ⟨_, rfl, ?_⟩
   refine hK.out _ _ ⟨(blk_cell BK246.out 0).trans rfl, (blk_cell BK246.out 1).trans rfl, (blk_cell BK246.out 2).trans rfl, (blk_cell BK246.out 3).trans rfl⟩ (fun hHeld => ?_)
   clear hK K
   refine nz (some 37) ?_
   refine pz 5 (some 39) HT_ ?_
   refine on 8 (some 42) HT_ (fun K hK => ?_)
   refine goes_ Tryz.func25 (by kernel_rfl) rfl #[.bool true, .string (⟨#[93]⟩ : ByteArray), .string (⟨#[41]⟩ : ByteArray)] (by rfl) rfl rfl mA ?_
   with_reducible refine (span_mark.calls true (⟨#[93]⟩ : ByteArray) (⟨#[41]⟩ : ByteArray) t248 _ (gS HG) A14.out).mono ?_
   rintro e w' ⟨rfl, ⟨nd, rfl⟩⟩
   refine ⟨_, rfl, ?_⟩
   refine hK.out _ _ ⟨(blk_cell BK246.out 0).trans rfl, (blk_cell BK246.out 1).trans rfl, (blk_cell BK246.out 2).trans rfl, (blk_cell BK246.out 3).trans rfl⟩ (fun hHeld => ?_)
   clear hK K
   refine nz (some 42) ?_
   refine pz 9 (some 43) HT_ ?_
   refine on 10 (some 44) HT_ (fun K hK => ?_)
   refine value_ (w1 := ?_) (v := ?_) (by rfl) rfl ?_ ?_
   rotate_left 2
   ·go_simp
    constructor
    ·rfl
    ·rfl
   refine hK.out _ _ ⟨(blk_cell (blk_alloc BK246.out _) 0).trans rfl, (blk_cell (blk_alloc BK246.out _) 1).trans rfl, (blk_cell (blk_alloc BK246.out _) 2).trans rfl, (blk_cell (blk_alloc BK246.out _) 3).trans rfl⟩ (fun hHeld => ?_)
   clear hK K
   refine nz (some 44) ?_
   refine on 11 (some 45) HT_ (fun K hK => ?_)
   refine Kd.R_append_step Kd.string (w0 := w) w.heap.size (by rfl) (.tmp 34) (.tmp 44) 47 9 (.string ⟨#[]⟩) 16 rfl Tryz.underlying47 info9 rfl (by decide) (by omega) u3 x3_1 ((t247 ++ ((rd_T30 l0 x9_1).f0)) ++ t248) [.string ((t247 ++ ((rd_T30 l0 x9_1).f0)) ++ t248)] (fun _ => True) (fun _ => False) rfl rfl ?aP (fun _ hk => hk.elim) ?aF ?aO ?aB ?aS ?aL ?_
   (case aP => exact rfl)
   (case aB => exact bG)
   (case aF => exact (fun _ _ => trivial))
   (case aO => exact (kR HO_3))
   (case aS => exact (below_size bG))
   (case aL => have := LMc16.out; omega)
   intro v250 w21 ho hb hg hat
   rw [← Ny249.out] at ho
   replace BK246 := Aside0.mk (blk_grown (g := gb246) (o := .cells #[.string ((rd_T30 l0 x9_1).f0), .string ((rd_T30 l0 x9_1).f1), .bool true, .bool true] 30 (0, 0)) (bK BK246) hg (Kd.R_ne HO_3.out BK246.out (by decide)))
   replace HB := Aside0.mk (hb)
   have HO251 := Aside0.mk (ho)
   clear HO_3
   clear ho hb hg hat
   refine hK.out _ _ ⟨(blk_cell BK246.out 0).trans rfl, (blk_cell BK246.out 1).trans rfl, (blk_cell BK246.out 2).trans rfl, (blk_cell BK246.out 3).trans rfl⟩ (fun hHeld => ?_)
   clear hK K
   refine nz (some 45) ?_
   refine pz 12 (some 3) HT_ ?_
   refine done_ (done_of HT_.out (by kernel_rfl)) ?_
   try go_wp2
   go_roundg k1
   case measure => have := HK1.out; omega
   case rel => exact ⟨(y249), (wrap64 (x9_1 + 1)), cA, H', ⟨by have := HK1.out; omega⟩, ⟨kR HO251⟩, ⟨bG⟩⟩
  replace c11 := Bool.eq_false_iff.mpr c11
  subst c11
  replace H : ((span_mark.f (true) (⟨#[91]⟩ : ByteArray) (⟨#[40]⟩ : ByteArray)).bind fun t252 => (if t252.size + ((((rd_T30 l0 x9_1).f0) ++ (⟨#[44]⟩ : ByteArray)) ++ ((rd_T30 l0 x9_1).f1)).size ≤ 9223372036854775807 then ((span_mark.f (false) (⟨#[93]⟩ : ByteArray) (⟨#[41]⟩ : ByteArray)).bind fun t253 => (if (t252 ++ ((((rd_T30 l0 x9_1).f0) ++ (⟨#[44]⟩ : ByteArray)) ++ ((rd_T30 l0 x9_1).f1))).size + t253.size ≤ 9223372036854775807 then (if x3_1.length < 8796093022208 then (span_Text.l0 k1 (x3_1 ++ [(t252 ++ ((((rd_T30 l0 x9_1).f0) ++ (⟨#[44]⟩ : ByteArray)) ++ ((rd_T30 l0 x9_1).f1))) ++ t253]) l0 (l0.length : Int) (wrap64 (x9_1 + 1))) else (none)) else (none))) else (none))) = some r := by rw [if_neg nF] at H; exact H
  replace H := bi H
  obtain ⟨t252, A220, H⟩ := H
  try dsimp only at H
  have A22 := Aside0.mk A220
  clear A220
  obtain ⟨c23, H⟩ := gp H
  have c23b0 := eq_true c23
  have c23b1 := dT c23
  try have c23b2 : (9223372036854775807 < t252.size + ((((rd_T30 l0 x9_1).f0) ++ (⟨#[44]⟩ : ByteArray)) ++ ((rd_T30 l0 x9_1).f1)).size) = False := eq_false (Nat.not_lt.2 c23)
  have c23n : t252.size + ((((rd_T30 l0 x9_1).f0).size + 1) + ((rd_T30 l0 x9_1).f1).size) ≤ 9223372036854775807 := by have z_ := c23; simp only [ByteArray.size_append] at z_; exact z_
  have c23m : (9223372036854775807 < t252.size + ((((rd_T30 l0 x9_1).f0).size + 1) + ((rd_T30 l0 x9_1).f1).size)) = False := eq_false (Nat.not_lt.2 c23n)
  clear c23 c23b0 c23b1
  try clear c23b2
  replace H := bi H
  obtain ⟨t253, A240, H⟩ := H
  try dsimp only at H
  have A24 := Aside0.mk A240
  clear A240
  obtain ⟨c25, H⟩ := gp H
  have c25b0 := eq_true c25
  have c25b1 := dT c25
  try have c25b2 : (9223372036854775807 < (t252 ++ ((((rd_T30 l0 x9_1).f0) ++ (⟨#[44]⟩ : ByteArray)) ++ ((rd_T30 l0 x9_1).f1))).size + t253.size) = False := eq_false (Nat.not_lt.2 c25)
  have c25n : (t252.size + ((((rd_T30 l0 x9_1).f0).size + 1) + ((rd_T30 l0 x9_1).f1).size)) + t253.size ≤ 9223372036854775807 := by have z_ := c25; simp only [ByteArray.size_append] at z_; exact z_
  have c25m : (9223372036854775807 < (t252.size + ((((rd_T30 l0 x9_1).f0).size + 1) + ((rd_T30 l0 x9_1).f1).size)) + t253.size) = False := eq_false (Nat.not_lt.2 c25n)
  clear c25 c25b0 c25b1
  try clear c25b2
  obtain ⟨c26, H⟩ := gp H
  have LMc26 := Aside0.mk c26
  clear c26
  obtain ⟨y254, hy254⟩ : ∃ y_ : List ByteArray, y_ = (x3_1 ++ [(t252 ++ ((((rd_T30 l0 x9_1).f0) ++ (⟨#[44]⟩ : ByteArray)) ++ ((rd_T30 l0 x9_1).f1))) ++ t253]) := ⟨_, rfl⟩
  replace H : (span_Text.l0 k1 y254 l0 (l0.length : Int) (wrap64 (x9_1 + 1))) = some r := by first | (rw [hy254]; with_reducible exact H) | (have H2_ := (Option.bind_some _ _).symm.trans H; rw [hy254]; with_reducible exact H2_) | (have H2_ := (Option.bind_some _ _).symm.trans H; with_reducible exact H2_) | with_reducible exact H | (rw [hy254]; exact H) | exact H
  have Ny254 := Aside0.mk hy254
  clear hy254
  have H' := Aside0.mk H
  clear H
  have p245 : 0 ≤ (x9_1 : Int) := dA
  have q245 : x9_1 < (l0.length : Int) := dA
  obtain ⟨ad245, e245, hx245_0, hx245_1, hx245_2, hx245_3⟩ := at_T30 HR0.out x9_1 p245 q245
  (try rw [← Nbq8.out] at hx245_2)
  (try rw [← Nbq10.out] at hx245_2)
  (try rw [← Nbq8.out] at hx245_3)
  (try rw [← Nbq10.out] at hx245_3)
  cases e245
  replace hx245_0 := (HB.out.cell (World.block_lt_of_cell? w _ hx245_0)).trans hx245_0
  replace hx245_1 := (HB.out.cell (World.block_lt_of_cell? w _ hx245_1)).trans hx245_1
  replace hx245_2 := (HB.out.cell (World.block_lt_of_cell? w _ hx245_2)).trans hx245_2
  replace hx245_3 := (HB.out.cell (World.block_lt_of_cell? w _ hx245_3)).trans hx245_3
  replace p245 := eq_true p245
  replace q245 := eq_true q245
  try go_wp2_with (first | (refine be 5 #[.string (⟨#[]⟩ : ByteArray), .string (⟨#[]⟩ : ByteArray), .bool false, .bool false] 30 ?_; intro gb246 hg w27 hbox hb; replace HO_3 := rB HO_3 hb; have BK246 := Aside0.mk (hbox); have GW246 := gW hg; have GE246 := gW hg; replace HB := sB hb; clear hb hbox hg; have hcz28_0 : w27.cell? ⟨gb246, 0, none⟩ = some (.string (⟨#[]⟩ : ByteArray)) := (blk_cell BK246.out 0).trans rfl; have hcz28_1 : w27.cell? ⟨gb246, 1, none⟩ = some (.string (⟨#[]⟩ : ByteArray)) := (blk_cell BK246.out 1).trans rfl; have hcz28_2 : w27.cell? ⟨gb246, 2, none⟩ = some (.bool false) := (blk_cell BK246.out 2).trans rfl; have hcz28_3 : w27.cell? ⟨gb246, 3, none⟩ = some (.bool false) := (blk_cell BK246.out 3).trans rfl; have hfz28_0 := blk_frozen BK246.out 0; have hfz28_1 := blk_frozen BK246.out 1; have hfz28_2 := blk_frozen BK246.out 2; have hfz28_3 := blk_frozen BK246.out 3))
  have n0_ : Aside0 (Kd.R Kd.string 9 ((((w27.setCell ⟨gb246, 0, none⟩ (.string ((rd_T30 l0 x9_1).f0))).setCell ⟨gb246, 1, none⟩ (.string ((rd_T30 l0 x9_1).f1))).setCell ⟨gb246, 2, none⟩ (.bool true)).setCell ⟨gb246, 3, none⟩ (.bool false)) w.heap.size (fun _ => True) u3 x3_1) := ⟨by (with_reducible repeat (first | apply Kd.R_alloc | apply Kd.R_drewN | apply Kd.R_drew)); exact Kd.R_mono (Kd.R_far (p := ⟨gb246, 3, none⟩) (Kd.R_far (p := ⟨gb246, 2, none⟩) (Kd.R_far (p := ⟨gb246, 1, none⟩) (Kd.R_far (p := ⟨gb246, 0, none⟩) (Kd.R_types HO_3.out BK246.out (by decide)) (fun _ hk => hk.2) (.string ((rd_T30 l0 x9_1).f0))) (fun _ hk => hk.2) (.string ((rd_T30 l0 x9_1).f1))) (fun _ hk => hk.2) (.bool true)) (fun _ hk => hk.2) (.bool false)) (fun _ hk => trivial)⟩
  have n1_ : Aside0 (((((w27.setCell ⟨gb246, 0, none⟩ (.string ((rd_T30 l0 x9_1).f0))).setCell ⟨gb246, 1, none⟩ (.string ((rd_T30 l0 x9_1).f1))).setCell ⟨gb246, 2, none⟩ (.bool true)).setCell ⟨gb246, 3, none⟩ (.bool false)).heap[gb246]? = some (.cells #[.string ((rd_T30 l0 x9_1).f0), .string ((rd_T30 l0 x9_1).f1), .bool true, .bool false] 30 (0, 0))) := ⟨bP BK246⟩
  have n2_ : Aside0 (Below w.heap.size w ((((w27.setCell ⟨gb246, 0, none⟩ (.string ((rd_T30 l0 x9_1).f0))).setCell ⟨gb246, 1, none⟩ (.string ((rd_T30 l0 x9_1).f1))).setCell ⟨gb246, 2, none⟩ (.bool true)).setCell ⟨gb246, 3, none⟩ (.bool false))) := ⟨bG⟩
  (try clear HO_3)
  (try clear BK246)
  (try clear HB)
  generalize ((((w27.setCell ⟨gb246, 0, none⟩ (.string ((rd_T30 l0 x9_1).f0))).setCell ⟨gb246, 1, none⟩ (.string ((rd_T30 l0 x9_1).f1))).setCell ⟨gb246, 2, none⟩ (.bool true)).setCell ⟨gb246, 3, none⟩ (.bool false)) = w29 at n0_ n1_ n2_ ⊢
  have HO_3 := n0_
  have BK246 := n1_
  have HB := n2_
  clear n0_ n1_ n2_
  replace HO_3 := Aside0.mk (Kd.R_drew HO_3.out)
  replace BK246 := Aside0.mk (blk_drew BK246.out)
  replace HB := Aside0.mk (below_drew1 HB.out)
  refine start_ (n := 13) (S := fun w' => w'.cell? ⟨gb246, 0, none⟩ = some (.string ((rd_T30 l0 x9_1).f0)) ∧ w'.cell? ⟨gb246, 1, none⟩ = some (.string ((rd_T30 l0 x9_1).f1)) ∧ w'.cell? ⟨gb246, 2, none⟩ = some (.bool true) ∧ w'.cell? ⟨gb246, 3, none⟩ = some (.bool false)) (ds := []) #[false, false, false, false, false, false, false, false, false, false, false, false, false] (by kernel_rfl) rfl rfl ⟨(blk_cell BK246.out 0).trans rfl, (blk_cell BK246.out 1).trans rfl, (blk_cell BK246.out 2).trans rfl, (blk_cell BK246.out 3).trans rfl⟩ (fun hHeld => ?_); refine with_tabW span_Text.tab8 span_Text.bits8 (fun HT_ HW_ => ?_)
  generalize w29.drew = w30 at HO_3 BK246 HB hHeld ⊢
  refine pz 0 (some 34) HT_ ?_
  refine pz 1 (some 35) HT_ ?_
  refine pz 4 (some 38) HT_ ?_
  refine pz 6 (some 40) HT_ ?_
  refine tm 2 (some 36) HT_ HW_ hHeld ?_
  refine tm 7 (some 41) HT_ HW_ hHeld ?_
  refine on 3 (some 37) HT_ (fun K hK => ?_)
  refine goes_ Tryz.func25 (by kernel_rfl) rfl #[.bool true, .string (⟨#[91]⟩ : ByteArray), .string (⟨#[40]⟩ : ByteArray)] (by rfl) rfl rfl mA ?_
  with_reducible refine (span_mark.calls true (⟨#[91]⟩ : ByteArray) (⟨#[40]⟩ : ByteArray) t252 _ (gS HG) A22.out).mono ?_
  rintro e w' ⟨rfl, ⟨nd, rfl⟩⟩
  refine ⟨_, rfl, ?_⟩
  refine hK.out _ _ ⟨(blk_cell BK246.out 0).trans rfl, (blk_cell BK246.out 1).trans rfl, (blk_cell BK246.out 2).trans rfl, (blk_cell BK246.out 3).trans rfl⟩ (fun hHeld => ?_)
  clear hK K
  refine nz (some 37) ?_
  refine pz 5 (some 39) HT_ ?_
  refine on 8 (some 42) HT_ (fun K hK => ?_)
  refine goes_ Tryz.func25 (by kernel_rfl) rfl #[.bool false, .string (⟨#[93]⟩ : ByteArray), .string (⟨#[41]⟩ : ByteArray)] (by rfl) rfl rfl mA ?_
  with_reducible refine (span_mark.calls false (⟨#[93]⟩ : ByteArray) (⟨#[41]⟩ : ByteArray) t253 _ (gS HG) A24.out).mono ?_
  rintro e w' ⟨rfl, ⟨nd, rfl⟩⟩
  refine ⟨_, rfl, ?_⟩
  refine hK.out _ _ ⟨(blk_cell BK246.out 0).trans rfl, (blk_cell BK246.out 1).trans rfl, (blk_cell BK246.out 2).trans rfl, (blk_cell BK246.out 3).trans rfl⟩ (fun hHeld => ?_)
  clear hK K
  refine nz (some 42) ?_
  refine pz 9 (some 43) HT_ ?_
  refine on 10 (some 44) HT_ (fun K hK => ?_)
  refine value_ (w1 := ?_) (v := ?_) (by rfl) rfl ?_ ?_
  rotate_left 2
  ·go_simp
   constructor
   ·rfl
   ·rfl
  refine hK.out _ _ ⟨(blk_cell (blk_alloc BK246.out _) 0).trans rfl, (blk_cell (blk_alloc BK246.out _) 1).trans rfl, (blk_cell (blk_alloc BK246.out _) 2).trans rfl, (blk_cell (blk_alloc BK246.out _) 3).trans rfl⟩ (fun hHeld => ?_)
  clear hK K
  refine nz (some 44) ?_
  refine on 11 (some 45) HT_ (fun K hK => ?_)
  refine Kd.R_append_step Kd.string (w0 := w) w.heap.size (by rfl) (.tmp 34) (.tmp 44) 47 9 (.string ⟨#[]⟩) 16 rfl Tryz.underlying47 info9 rfl (by decide) (by omega) u3 x3_1 ((t252 ++ ((((rd_T30 l0 x9_1).f0) ++ (⟨#[44]⟩ : ByteArray)) ++ ((rd_T30 l0 x9_1).f1))) ++ t253) [.string ((t252 ++ ((((rd_T30 l0 x9_1).f0) ++ (⟨#[44]⟩ : ByteArray)) ++ ((rd_T30 l0 x9_1).f1))) ++ t253)] (fun _ => True) (fun _ => False) rfl rfl ?aP (fun _ hk => hk.elim) ?aF ?aO ?aB ?aS ?aL ?_
  (case aP => exact rfl)
  (case aB => exact bG)
  (case aF => exact (fun _ _ => trivial))
  (case aO => exact (kR HO_3))
  (case aS => exact (below_size bG))
  (case aL => have := LMc26.out; omega)
  intro v255 w31 ho hb hg hat
  rw [← Ny254.out] at ho
  replace BK246 := Aside0.mk (blk_grown (g := gb246) (o := .cells #[.string ((rd_T30 l0 x9_1).f0), .string ((rd_T30 l0 x9_1).f1), .bool true, .bool false] 30 (0, 0)) (bK BK246) hg (Kd.R_ne HO_3.out BK246.out (by decide)))
  replace HB := Aside0.mk (hb)
  have HO256 := Aside0.mk (ho)
  clear HO_3
  clear ho hb hg hat
  refine hK.out _ _ ⟨(blk_cell BK246.out 0).trans rfl, (blk_cell BK246.out 1).trans rfl, (blk_cell BK246.out 2).trans rfl, (blk_cell BK246.out 3).trans rfl⟩ (fun hHeld => ?_)
  clear hK K
  refine nz (some 45) ?_
  refine pz 12 (some 3) HT_ ?_
  refine done_ (done_of HT_.out (by kernel_rfl)) ?_
  try go_wp2
  go_roundg k1
  case measure => have := HK1.out; omega
  case rel => exact ⟨(y254), (wrap64 (x9_1 + 1)), cA, H', ⟨by have := HK1.out; omega⟩, ⟨kR HO256⟩, ⟨bG⟩⟩
def cmp_isNaN_int.f (a0 : Int) : Option (Bool) := some (a0 != a0)
theorem cmp_isNaN_int.calls (a0 : Int) (r : Bool) (w : World) (hG : Glob w) (h : cmp_isNaN_int.f a0 = some r) :
 Calls Tryz.prog 100 #[.int .i64 a0] w fun e w' => e = .returned (.bool r) ∧ Drawn0 w w' := by
 have HG := Aside0.mk hG
 clear hG
 have H : (some (a0 != a0)) = some r := h
 clear h
 obtain rfl := Option.some.inj H
 go_enter Tryz.func100, Tryz.ntmps100
 go_wp2
 go_ret
 exact ⟨by first | rfl | (simp; done) | (simp [*]; done), by repeat (first | exact Drawn0.refl _ | apply Drawn0.step)⟩
def cmp_Compare_int.f (a0 : Int) (a1 : Int) : Option (Int) := (cmp_isNaN_int.f a0).bind fun t180 => ((cmp_isNaN_int.f a1).bind fun t181 => (if t180 = true then (if t181 = true then (some 0) else (some (-1))) else (if t181 = true then (some 1) else (if a0 < a1 then (some (-1)) else (if a0 > a1 then (some 1) else (some 0))))))
theorem cmp_Compare_int.calls (a0 : Int) (a1 : Int) (r : Int) (w : World) (hG : Glob w) (h : cmp_Compare_int.f a0 a1 = some r) :
 Calls Tryz.prog 89 #[.int .i64 a0, .int .i64 a1] w fun e w' => e = .returned (.int .i64 r) ∧ Drawn0 w w' := by
 have HG := Aside0.mk hG
 clear hG
 have H : ((cmp_isNaN_int.f a0).bind fun t180 => ((cmp_isNaN_int.f a1).bind fun t181 => (if t180 = true then (if t181 = true then (some 0) else (some (-1))) else (if t181 = true then (some 1) else (if a0 < a1 then (some (-1)) else (if a0 > a1 then (some 1) else (some 0))))))) = some r := h
 clear h
 replace H := bi H
 obtain ⟨t180, A30, H⟩ := H
 try dsimp only at H
 have A3 := Aside0.mk A30
 clear A30
 replace H := bi H
 obtain ⟨t181, A40, H⟩ := H
 try dsimp only at H
 have A4 := Aside0.mk A40
 clear A40
 by_cases c5 : t180 = true
 ·subst c5
  replace H : (if t181 = true then (some 0) else (some (-1))) = some r := by rw [if_pos rfl] at H; exact H
  by_cases c6 : t181 = true
  ·subst c6
   replace H : (some 0) = some r := by rw [if_pos rfl] at H; exact H
   obtain rfl := Option.some.inj H
   go_enter Tryz.func89, Tryz.ntmps89
   go_wp2_with (first | (refine gl (some 8) Tryz.func100 #[.int .i64 a0] ?_; (with_reducible refine (cmp_isNaN_int.calls a0 true _ ?side1 A3.out).mono ?_); (case side1 => exact Glob.drawn HG.out (by repeat (first | exact Drawn0.refl _ | apply Drawn0.step))); rintro e w' ⟨rfl, ⟨nd, rfl⟩⟩; refine ⟨_, rfl, ?_⟩) | (refine gl (some 10) Tryz.func100 #[.int .i64 a1] ?_; (with_reducible refine (cmp_isNaN_int.calls a1 true _ ?side1 A4.out).mono ?_); (case side1 => exact Glob.drawn HG.out (by repeat (first | exact Drawn0.refl _ | apply Drawn0.step))); rintro e w' ⟨rfl, ⟨nd, rfl⟩⟩; refine ⟨_, rfl, ?_⟩))
   go_ret
   exact ⟨by first | rfl | (simp; done) | (simp [*]; done), by repeat (first | exact Drawn0.refl _ | apply Drawn0.step)⟩
  replace c6 := Bool.eq_false_iff.mpr c6
  subst c6
  replace H : (some (-1)) = some r := by rw [if_neg nF] at H; exact H
  obtain rfl := Option.some.inj H
  go_enter Tryz.func89, Tryz.ntmps89
  go_wp2_with (first | (refine gl (some 8) Tryz.func100 #[.int .i64 a0] ?_; (with_reducible refine (cmp_isNaN_int.calls a0 true _ ?side1 A3.out).mono ?_); (case side1 => exact Glob.drawn HG.out (by repeat (first | exact Drawn0.refl _ | apply Drawn0.step))); rintro e w' ⟨rfl, ⟨nd, rfl⟩⟩; refine ⟨_, rfl, ?_⟩) | (refine gl (some 10) Tryz.func100 #[.int .i64 a1] ?_; (with_reducible refine (cmp_isNaN_int.calls a1 false _ ?side1 A4.out).mono ?_); (case side1 => exact Glob.drawn HG.out (by repeat (first | exact Drawn0.refl _ | apply Drawn0.step))); rintro e w' ⟨rfl, ⟨nd, rfl⟩⟩; refine ⟨_, rfl, ?_⟩))
  go_ret
  exact ⟨by first | rfl | (simp; done) | (simp [*]; done), by repeat (first | exact Drawn0.refl _ | apply Drawn0.step)⟩
 replace c5 := Bool.eq_false_iff.mpr c5
 subst c5
 replace H : (if t181 = true then (some 1) else (if a0 < a1 then (some (-1)) else (if a0 > a1 then (some 1) else (some 0)))) = some r := by rw [if_neg nF] at H; exact H
 by_cases c7 : t181 = true
 ·subst c7
  replace H : (some 1) = some r := by rw [if_pos rfl] at H; exact H
  obtain rfl := Option.some.inj H
  go_enter Tryz.func89, Tryz.ntmps89
  go_wp2_with (first | (refine gl (some 8) Tryz.func100 #[.int .i64 a0] ?_; (with_reducible refine (cmp_isNaN_int.calls a0 false _ ?side1 A3.out).mono ?_); (case side1 => exact Glob.drawn HG.out (by repeat (first | exact Drawn0.refl _ | apply Drawn0.step))); rintro e w' ⟨rfl, ⟨nd, rfl⟩⟩; refine ⟨_, rfl, ?_⟩) | (refine gl (some 10) Tryz.func100 #[.int .i64 a1] ?_; (with_reducible refine (cmp_isNaN_int.calls a1 true _ ?side1 A4.out).mono ?_); (case side1 => exact Glob.drawn HG.out (by repeat (first | exact Drawn0.refl _ | apply Drawn0.step))); rintro e w' ⟨rfl, ⟨nd, rfl⟩⟩; refine ⟨_, rfl, ?_⟩))
  go_ret
  exact ⟨by first | rfl | (simp; done) | (simp [*]; done), by repeat (first | exact Drawn0.refl _ | apply Drawn0.step)⟩
 replace c7 := Bool.eq_false_iff.mpr c7
 subst c7
 replace H : (if a0 < a1 then (some (-1)) else (if a0 > a1 then (some 1) else (some 0))) = some r := by rw [if_neg nF] at H; exact H
 by_cases c8 : a0 < a1
 ·rw [if_pos c8] at H
  have c8b0 := dT c8
  clear c8
  obtain rfl := Option.some.inj H
  go_enter Tryz.func89, Tryz.ntmps89
  go_wp2_with (first | (refine gl (some 8) Tryz.func100 #[.int .i64 a0] ?_; (with_reducible refine (cmp_isNaN_int.calls a0 false _ ?side1 A3.out).mono ?_); (case side1 => exact Glob.drawn HG.out (by repeat (first | exact Drawn0.refl _ | apply Drawn0.step))); rintro e w' ⟨rfl, ⟨nd, rfl⟩⟩; refine ⟨_, rfl, ?_⟩) | (refine gl (some 10) Tryz.func100 #[.int .i64 a1] ?_; (with_reducible refine (cmp_isNaN_int.calls a1 false _ ?side1 A4.out).mono ?_); (case side1 => exact Glob.drawn HG.out (by repeat (first | exact Drawn0.refl _ | apply Drawn0.step))); rintro e w' ⟨rfl, ⟨nd, rfl⟩⟩; refine ⟨_, rfl, ?_⟩))
  go_ret
  exact ⟨by first | rfl | (simp; done) | (simp [*]; done), by repeat (first | exact Drawn0.refl _ | apply Drawn0.step)⟩
 rw [if_neg c8] at H
 have c8b0 := dF c8
 clear c8
 by_cases c9 : a0 > a1
 rotate_left
 ·rw [if_neg c9] at H
  have c9b0 := dF c9
  clear c9
  obtain rfl := Option.some.inj H
  go_enter Tryz.func89, Tryz.ntmps89
  go_wp2_with (first | (refine gl (some 8) Tryz.func100 #[.int .i64 a0] ?_; (with_reducible refine (cmp_isNaN_int.calls a0 false _ ?side1 A3.out).mono ?_); (case side1 => exact Glob.drawn HG.out (by repeat (first | exact Drawn0.refl _ | apply Drawn0.step))); rintro e w' ⟨rfl, ⟨nd, rfl⟩⟩; refine ⟨_, rfl, ?_⟩) | (refine gl (some 10) Tryz.func100 #[.int .i64 a1] ?_; (with_reducible refine (cmp_isNaN_int.calls a1 false _ ?side1 A4.out).mono ?_); (case side1 => exact Glob.drawn HG.out (by repeat (first | exact Drawn0.refl _ | apply Drawn0.step))); rintro e w' ⟨rfl, ⟨nd, rfl⟩⟩; refine ⟨_, rfl, ?_⟩))
  go_ret
  exact ⟨by first | rfl | (simp; done) | (simp [*]; done), by repeat (first | exact Drawn0.refl _ | apply Drawn0.step)⟩
 rw [if_pos c9] at H
 have c9b0 := dT c9
 clear c9
 obtain rfl := Option.some.inj H
 go_enter Tryz.func89, Tryz.ntmps89
 go_wp2_with (first | (refine gl (some 8) Tryz.func100 #[.int .i64 a0] ?_; (with_reducible refine (cmp_isNaN_int.calls a0 false _ ?side1 A3.out).mono ?_); (case side1 => exact Glob.drawn HG.out (by repeat (first | exact Drawn0.refl _ | apply Drawn0.step))); rintro e w' ⟨rfl, ⟨nd, rfl⟩⟩; refine ⟨_, rfl, ?_⟩) | (refine gl (some 10) Tryz.func100 #[.int .i64 a1] ?_; (with_reducible refine (cmp_isNaN_int.calls a1 false _ ?side1 A4.out).mono ?_); (case side1 => exact Glob.drawn HG.out (by repeat (first | exact Drawn0.refl _ | apply Drawn0.step))); rintro e w' ⟨rfl, ⟨nd, rfl⟩⟩; refine ⟨_, rfl, ?_⟩))
 go_ret
 exact ⟨by first | rfl | (simp; done) | (simp [*]; done), by repeat (first | exact Drawn0.refl _ | apply Drawn0.step)⟩
def cmp_isNaN_string.f (a0 : ByteArray) : Option (Bool) := some (a0.toList != a0.toList)
theorem cmp_isNaN_string.calls (a0 : ByteArray) (r : Bool) (w : World) (hG : Glob w) (h : cmp_isNaN_string.f a0 = some r) :
 Calls Tryz.prog 101 #[.string a0] w fun e w' => e = .returned (.bool r) ∧ Drawn0 w w' := by
 have HG := Aside0.mk hG
 clear hG
 have H : (some (a0.toList != a0.toList)) = some r := h
 clear h
 obtain rfl := Option.some.inj H
 go_enter Tryz.func101, Tryz.ntmps101
 go_wp2
 go_ret
 exact ⟨by first | rfl | (simp; done) | (simp [*]; done), by repeat (first | exact Drawn0.refl _ | apply Drawn0.step)⟩
section
theorem bytesLess_turn : ∀ x y : List UInt8, (!(Op.bytesLess x y || x == y)) = Op.bytesLess y x
 | [], [] => rfl
 | [], _ :: _ => rfl
 | _ :: _, [] => rfl
 | a :: x, b :: y => by
  have ih := bytesLess_turn x y
  rcases Nat.lt_trichotomy a.toNat b.toNat with h | h | h
  ·have h1 : decide (a < b) = true := decide_eq_true (UInt8.lt_iff_toNat_lt.2 h)
   have h2 : decide (b < a) = false := decide_eq_false (fun g => by have := UInt8.lt_iff_toNat_lt.1 g; omega)
   have h3 : (b == a) = false := by rw [Bool.eq_false_iff]; intro g; rw [beq_iff_eq] at g; rw [g] at h; omega
   simp [Op.bytesLess, h1, h2, h3]
  ·obtain rfl : a = b := UInt8.toNat_inj.1 h
   have h1 : decide (a < a) = false := decide_eq_false (fun g => by have := UInt8.lt_iff_toNat_lt.1 g; omega)
   simp only [Op.bytesLess, h1, beq_self_eq_true, Bool.true_and, Bool.false_or]
   rw [← ih]
   simp
  ·have h1 : decide (b < a) = true := decide_eq_true (UInt8.lt_iff_toNat_lt.2 h)
   have h2 : decide (a < b) = false := decide_eq_false (fun g => by have := UInt8.lt_iff_toNat_lt.1 g; omega)
   have h3 : (a == b) = false := by rw [Bool.eq_false_iff]; intro g; rw [beq_iff_eq] at g; rw [g] at h; omega
   have h4 : ¬ a = b := by simpa using h3
   simp [Op.bytesLess, h1, h2, h3, h4]
theorem binOp_gtr_turned (t : TypeId) (a b : ByteArray) : binOp .gtr t (.string a) (.string b) = pure (.bool (Op.bytesLess b.toList a.toList)) := by
 rw [← bytesLess_turn]
 simp [binOp, Op.stringOp]
attribute [local go_sem] binOp_gtr_turned
def cmp_Compare_string.f (a0 : ByteArray) (a1 : ByteArray) : Option (Int) := (cmp_isNaN_string.f a0).bind fun t182 => ((cmp_isNaN_string.f a1).bind fun t183 => (if t182 = true then (if t183 = true then (some 0) else (some (-1))) else (if t183 = true then (some 1) else (if (Op.bytesLess a0.toList a1.toList) = true then (some (-1)) else (if (Op.bytesLess a1.toList a0.toList) = true then (some 1) else (some 0))))))
theorem cmp_Compare_string.calls (a0 : ByteArray) (a1 : ByteArray) (r : Int) (w : World) (hG : Glob w) (h : cmp_Compare_string.f a0 a1 = some r) :
 Calls Tryz.prog 90 #[.string a0, .string a1] w fun e w' => e = .returned (.int .i64 r) ∧ Drawn0 w w' := by
 have HG := Aside0.mk hG
 clear hG
 have H : ((cmp_isNaN_string.f a0).bind fun t182 => ((cmp_isNaN_string.f a1).bind fun t183 => (if t182 = true then (if t183 = true then (some 0) else (some (-1))) else (if t183 = true then (some 1) else (if (Op.bytesLess a0.toList a1.toList) = true then (some (-1)) else (if (Op.bytesLess a1.toList a0.toList) = true then (some 1) else (some 0))))))) = some r := h
 clear h
 replace H := bi H
 obtain ⟨t182, A30, H⟩ := H
 try dsimp only at H
 have A3 := Aside0.mk A30
 clear A30
 replace H := bi H
 obtain ⟨t183, A40, H⟩ := H
 try dsimp only at H
 have A4 := Aside0.mk A40
 clear A40
 by_cases c5 : t182 = true
 ·subst c5
  replace H : (if t183 = true then (some 0) else (some (-1))) = some r := by rw [if_pos rfl] at H; exact H
  by_cases c6 : t183 = true
  ·subst c6
   replace H : (some 0) = some r := by rw [if_pos rfl] at H; exact H
   obtain rfl := Option.some.inj H
   go_enter Tryz.func90, Tryz.ntmps90
   go_wp2_with (first | (refine gl (some 8) Tryz.func101 #[.string a0] ?_; (with_reducible refine (cmp_isNaN_string.calls a0 true _ ?side1 A3.out).mono ?_); (case side1 => exact Glob.drawn HG.out (by repeat (first | exact Drawn0.refl _ | apply Drawn0.step))); rintro e w' ⟨rfl, ⟨nd, rfl⟩⟩; refine ⟨_, rfl, ?_⟩) | (refine gl (some 10) Tryz.func101 #[.string a1] ?_; (with_reducible refine (cmp_isNaN_string.calls a1 true _ ?side1 A4.out).mono ?_); (case side1 => exact Glob.drawn HG.out (by repeat (first | exact Drawn0.refl _ | apply Drawn0.step))); rintro e w' ⟨rfl, ⟨nd, rfl⟩⟩; refine ⟨_, rfl, ?_⟩))
   go_ret
   exact ⟨by first | rfl | (simp; done) | (simp [*]; done), by repeat (first | exact Drawn0.refl _ | apply Drawn0.step)⟩
  replace c6 := Bool.eq_false_iff.mpr c6
  subst c6
  replace H : (some (-1)) = some r := by rw [if_neg nF] at H; exact H
  obtain rfl := Option.some.inj H
  go_enter Tryz.func90, Tryz.ntmps90
  go_wp2_with (first | (refine gl (some 8) Tryz.func101 #[.string a0] ?_; (with_reducible refine (cmp_isNaN_string.calls a0 true _ ?side1 A3.out).mono ?_); (case side1 => exact Glob.drawn HG.out (by repeat (first | exact Drawn0.refl _ | apply Drawn0.step))); rintro e w' ⟨rfl, ⟨nd, rfl⟩⟩; refine ⟨_, rfl, ?_⟩) | (refine gl (some 10) Tryz.func101 #[.string a1] ?_; (with_reducible refine (cmp_isNaN_string.calls a1 false _ ?side1 A4.out).mono ?_); (case side1 => exact Glob.drawn HG.out (by repeat (first | exact Drawn0.refl _ | apply Drawn0.step))); rintro e w' ⟨rfl, ⟨nd, rfl⟩⟩; refine ⟨_, rfl, ?_⟩))
  go_ret
  exact ⟨by first | rfl | (simp; done) | (simp [*]; done), by repeat (first | exact Drawn0.refl _ | apply Drawn0.step)⟩
 replace c5 := Bool.eq_false_iff.mpr c5
 subst c5
 replace H : (if t183 = true then (some 1) else (if (Op.bytesLess a0.toList a1.toList) = true then (some (-1)) else (if (Op.bytesLess a1.toList a0.toList) = true then (some 1) else (some 0)))) = some r := by rw [if_neg nF] at H; exact H
 by_cases c7 : t183 = true
 ·subst c7
  replace H : (some 1) = some r := by rw [if_pos rfl] at H; exact H
  obtain rfl := Option.some.inj H
  go_enter Tryz.func90, Tryz.ntmps90
  go_wp2_with (first | (refine gl (some 8) Tryz.func101 #[.string a0] ?_; (with_reducible refine (cmp_isNaN_string.calls a0 false _ ?side1 A3.out).mono ?_); (case side1 => exact Glob.drawn HG.out (by repeat (first | exact Drawn0.refl _ | apply Drawn0.step))); rintro e w' ⟨rfl, ⟨nd, rfl⟩⟩; refine ⟨_, rfl, ?_⟩) | (refine gl (some 10) Tryz.func101 #[.string a1] ?_; (with_reducible refine (cmp_isNaN_string.calls a1 true _ ?side1 A4.out).mono ?_); (case side1 => exact Glob.drawn HG.out (by repeat (first | exact Drawn0.refl _ | apply Drawn0.step))); rintro e w' ⟨rfl, ⟨nd, rfl⟩⟩; refine ⟨_, rfl, ?_⟩))
  go_ret
  exact ⟨by first | rfl | (simp; done) | (simp [*]; done), by repeat (first | exact Drawn0.refl _ | apply Drawn0.step)⟩
 replace c7 := Bool.eq_false_iff.mpr c7
 subst c7
 replace H : (if (Op.bytesLess a0.toList a1.toList) = true then (some (-1)) else (if (Op.bytesLess a1.toList a0.toList) = true then (some 1) else (some 0))) = some r := by rw [if_neg nF] at H; exact H
 by_cases c8 : (Op.bytesLess a0.toList a1.toList) = true
 ·rw [if_pos c8] at H
  have c8b0 : (Op.bytesLess a0.toList a1.toList) = true := c8
  clear c8
  obtain rfl := Option.some.inj H
  go_enter Tryz.func90, Tryz.ntmps90
  go_wp2_with (first | (refine gl (some 8) Tryz.func101 #[.string a0] ?_; (with_reducible refine (cmp_isNaN_string.calls a0 false _ ?side1 A3.out).mono ?_); (case side1 => exact Glob.drawn HG.out (by repeat (first | exact Drawn0.refl _ | apply Drawn0.step))); rintro e w' ⟨rfl, ⟨nd, rfl⟩⟩; refine ⟨_, rfl, ?_⟩) | (refine gl (some 10) Tryz.func101 #[.string a1] ?_; (with_reducible refine (cmp_isNaN_string.calls a1 false _ ?side1 A4.out).mono ?_); (case side1 => exact Glob.drawn HG.out (by repeat (first | exact Drawn0.refl _ | apply Drawn0.step))); rintro e w' ⟨rfl, ⟨nd, rfl⟩⟩; refine ⟨_, rfl, ?_⟩))
  go_ret
  exact ⟨by first | rfl | (simp; done) | (simp [*]; done), by repeat (first | exact Drawn0.refl _ | apply Drawn0.step)⟩
 rw [if_neg c8] at H
 have c8b0 : (Op.bytesLess a0.toList a1.toList) = false := by simpa using c8
 clear c8
 by_cases c9 : (Op.bytesLess a1.toList a0.toList) = true
 rotate_left
 ·rw [if_neg c9] at H
  have c9b0 : (Op.bytesLess a1.toList a0.toList) = false := by simpa using c9
  clear c9
  obtain rfl := Option.some.inj H
  go_enter Tryz.func90, Tryz.ntmps90
  go_wp2_with (first | (refine gl (some 8) Tryz.func101 #[.string a0] ?_; (with_reducible refine (cmp_isNaN_string.calls a0 false _ ?side1 A3.out).mono ?_); (case side1 => exact Glob.drawn HG.out (by repeat (first | exact Drawn0.refl _ | apply Drawn0.step))); rintro e w' ⟨rfl, ⟨nd, rfl⟩⟩; refine ⟨_, rfl, ?_⟩) | (refine gl (some 10) Tryz.func101 #[.string a1] ?_; (with_reducible refine (cmp_isNaN_string.calls a1 false _ ?side1 A4.out).mono ?_); (case side1 => exact Glob.drawn HG.out (by repeat (first | exact Drawn0.refl _ | apply Drawn0.step))); rintro e w' ⟨rfl, ⟨nd, rfl⟩⟩; refine ⟨_, rfl, ?_⟩))
  go_ret
  exact ⟨by first | rfl | (simp; done) | (simp [*]; done), by repeat (first | exact Drawn0.refl _ | apply Drawn0.step)⟩
 rw [if_pos c9] at H
 have c9b0 : (Op.bytesLess a1.toList a0.toList) = true := c9
 clear c9
 obtain rfl := Option.some.inj H
 go_enter Tryz.func90, Tryz.ntmps90
 go_wp2_with (first | (refine gl (some 8) Tryz.func101 #[.string a0] ?_; (with_reducible refine (cmp_isNaN_string.calls a0 false _ ?side1 A3.out).mono ?_); (case side1 => exact Glob.drawn HG.out (by repeat (first | exact Drawn0.refl _ | apply Drawn0.step))); rintro e w' ⟨rfl, ⟨nd, rfl⟩⟩; refine ⟨_, rfl, ?_⟩) | (refine gl (some 10) Tryz.func101 #[.string a1] ?_; (with_reducible refine (cmp_isNaN_string.calls a1 false _ ?side1 A4.out).mono ?_); (case side1 => exact Glob.drawn HG.out (by repeat (first | exact Drawn0.refl _ | apply Drawn0.step))); rintro e w' ⟨rfl, ⟨nd, rfl⟩⟩; refine ⟨_, rfl, ?_⟩))
 go_ret
 exact ⟨by first | rfl | (simp; done) | (simp [*]; done), by repeat (first | exact Drawn0.refl _ | apply Drawn0.step)⟩
end
def cmp_Or_int.l0 : Nat → Int → List Int → Int → Int → Option (Int)
 | 0, _, _, _, _ => none
 | k + 1, x3, x6, x7, x8 => if x8 < x7 then (if 0 ≤ x8 then (if x8 < (x6.length : Int) then (if (rd x6 x8) = x3 then (cmp_Or_int.l0 k x3 x6 x7 (wrap64 (x8 + 1))) else (some (rd x6 x8))) else (none)) else (none)) else (some x3)
def cmp_Or_int.f (k : Nat) (l0 : List Int) : Option (Int) := cmp_Or_int.l0 k 0 l0 (l0.length : Int) 0
theorem cmp_Or_int.mono_l : ∀ k, (∀ y0 y1 y2 y3, LeO (cmp_Or_int.l0 k y0 y1 y2 y3) (cmp_Or_int.l0 (k + 1) y0 y1 y2 y3))
 | 0 => fun _ _ _ _ r h => by simp [cmp_Or_int.l0] at h
 | k + 1 => by
  have ih0 := cmp_Or_int.mono_l k
  ·intro y0 y1 y2 y3
   unfold cmp_Or_int.l0
   exact mo
theorem cmp_Or_int.mono : ∀ a0 k, LeO (cmp_Or_int.f k a0) (cmp_Or_int.f (k + 1) a0) := by
 intro a0 k
 have ih0 := cmp_Or_int.mono_l k
 unfold cmp_Or_int.f
 exact mo
theorem cmp_Or_int.calls (k : Nat) (A0 : Option Addr) (c0 : Nat) (l0 : List Int) (r : Int) (w : World) (hr0 : Kd.C (Kd.int .i64) w A0 l0.length l0) (hc0 : l0.length ≤ c0) (hG : Glob w) (h : cmp_Or_int.f k l0 = some r) :
 Calls Tryz.prog 91 #[.slice A0 l0.length c0] w fun e w' => e = .returned (.int .i64 r) ∧ Drawn0 w w' := by
 have HG := Aside0.mk hG
 clear hG
 have HR0 := Aside0.mk hr0
 have HC0 := Aside0.mk hc0
 clear hr0 hc0
 have H : (cmp_Or_int.l0 k 0 l0 (l0.length : Int) 0) = some r := h
 clear h
 have H' := Aside0.mk H
 clear H
 go_enter Tryz.func91, Tryz.ntmps91
 go_wp2
 go_loopg [8] k (fun kq v8 w' => ∃ (x8_1 : Int), v8 = .int .i64 x8_1 ∧ Aside0 (cmp_Or_int.l0 kq 0 l0 (l0.length : Int) x8_1 = some r) ∧ Aside0 (kq ≤ k) ∧ Drawn0 w w')
 case atStart => exact ⟨(0), cA, H', ⟨Nat.le_refl _⟩, by repeat (first | exact Drawn0.refl _ | apply Drawn0.step)⟩
 clear H'
 obtain ⟨x8_1, rfl, HA, HK1, ⟨m1, rfl⟩⟩ := hrel
 cases gk with
 | zero => exact absurd HA.out (by simp [cmp_Or_int.l0])
 | succ k1 =>
  have H := HA.out
  clear HA
  simp only [cmp_Or_int.l0] at H
  by_cases c2 : x8_1 < (l0.length : Int)
  rotate_left
  ·rw [if_neg c2] at H
   have c2b0 := dF c2
   clear c2
   obtain rfl := Option.some.inj H
   go_wp2
   go_ret
   exact ⟨by first | rfl | (simp; done) | (simp [*]; done), by repeat (first | exact Drawn0.refl _ | apply Drawn0.step)⟩
  rw [if_pos c2] at H
  have c2b0 := dT c2
  clear c2
  obtain ⟨c3, H⟩ := gp H
  have c3b0 := dT c3
  clear c3
  obtain ⟨c4, H⟩ := gp H
  have c4b0 := dT c4
  clear c4
  by_cases c5 : (rd l0 x8_1) = 0
  rotate_left
  ·rw [if_neg c5] at H
   obtain ⟨c5b0, c5b1⟩ := eqF c5
   obtain rfl := Option.some.inj H
   have p184 : 0 ≤ (x8_1 : Int) := dA
   have q184 : x8_1 < (l0.length : Int) := dA
   obtain ⟨ad184, e184, hx184_0⟩ := Kd.at_int HR0.out x8_1 p184 q184
   cases e184
   replace p184 := eq_true p184
   replace q184 := eq_true q184
   go_wp2
   go_ret
   exact ⟨by first | rfl | (simp; done) | (simp [*]; done), by repeat (first | exact Drawn0.refl _ | apply Drawn0.step)⟩
  rw [if_pos c5] at H
  obtain ⟨c5b0, c5b1⟩ := eqT c5
  clear c5
  have H' := Aside0.mk H
  clear H
  have p184 : 0 ≤ (x8_1 : Int) := dA
  have q184 : x8_1 < (l0.length : Int) := dA
  obtain ⟨ad184, e184, hx184_0⟩ := Kd.at_int HR0.out x8_1 p184 q184
  cases e184
  replace p184 := eq_true p184
  replace q184 := eq_true q184
  go_wp2
  go_roundg k1
  case measure => have := HK1.out; omega
  case rel => exact ⟨(wrap64 (x8_1 + 1)), cA, H', ⟨by have := HK1.out; omega⟩, by repeat (first | exact Drawn0.refl _ | apply Drawn0.step)⟩
def order_word.j0 : Nat → Bool → Int → ByteArray → Int → ByteArray → Option (Int)
 | 0, _, _, _, _, _ => none
 | k + 1, x23, x186000, x186001, x187000, x187001 => if x23 = true then ((cmp_Compare_int.f (x186001.size : Int) (x187001.size : Int)).bind fun t189 => ((cmp_Compare_string.f x186001 x187001).bind fun t190 => ((cmp_Or_int.f k (([t189, t190] : List Int))).bind fun t194 => (some t194)))) else (some 0)
def order_word.f (k : Nat) (a0_0 : Int) (a0_1 : ByteArray) (a1_0 : Int) (a1_1 : ByteArray) : Option (Int) := (cmp_Compare_int.f a0_0 a1_0).bind fun t187 => (if t187 = 0 then (if a0_0 = 8 then ((cmp_Compare_string.f a0_1 a1_1).bind fun t188 => (some t188)) else (if a0_0 = 9 then (order_word.j0 k (a0_0 == 9) a0_0 a0_1 a1_0 a1_1) else (order_word.j0 k (a0_0 == 10) a0_0 a0_1 a1_0 a1_1))) else (some t187))
theorem order_word.mono_l : ∀ k, (∀ y0 y1 y2 y3 y4, LeO (order_word.j0 k y0 y1 y2 y3 y4) (order_word.j0 (k + 1) y0 y1 y2 y3 y4))
 | 0 => fun _ _ _ _ _ r h => by simp [order_word.j0] at h
 | k + 1 => by
  have ih0 := order_word.mono_l k
  ·intro y0 y1 y2 y3 y4
   unfold order_word.j0
   have m0 := @cmp_Or_int.mono
   exact mo
theorem order_word.mono : ∀ a0 a1 a2 a3 k, LeO (order_word.f k a0 a1 a2 a3) (order_word.f (k + 1) a0 a1 a2 a3) := by
 intro a0 a1 a2 a3 k
 have ih0 := order_word.mono_l k
 unfold order_word.f
 have m0 := @cmp_Or_int.mono
 exact mo
def order_word.T9 : Bool × List (List Nat × List Nat) := (true, [([], []), ([0], [0]), ([1], [1]), ([], []), ([3], [3]), ([4], [4]), ([2, 5], [2, 5]), ([], []), ([7], [7]), ([], []), ([9], [9]), ([8, 10, 6], [8, 10]), ([6, 11], [6, 11]), ([12, 11], [12]), ([13, 13, 0, 1, 2, 3, 4, 5, 6, 7, 8, 9, 10, 11, 12, 13], [13])])
def order_word.B9 : List Nat := [0, 1, 3, 0, 8, 24, 63, 0, 128, 0, 512, 2047, 4095, 8191, 16383]
theorem order_word.tab9 : rtab .any (opsOf Tryz.f68 9) = order_word.T9 := by kernel_rfl
theorem order_word.bits9 : waitsOk order_word.T9.2 order_word.B9 = true := by kernel_rfl
theorem order_word.calls (k : Nat) (a0_0 : Int) (a0_1 : ByteArray) (a1_0 : Int) (a1_1 : ByteArray) (r : Int) (w : World) (hG : Glob w) (h : order_word.f k a0_0 a0_1 a1_0 a1_1 = some r) :
 Calls Tryz.prog 68 #[.agg #[.int .i64 a0_0, .string a0_1], .agg #[.int .i64 a1_0, .string a1_1]] w fun e w' => e = .returned (.int .i64 r) ∧ Below w.heap.size w w' := by
 have hu85 := Tryz.underlying85
 have HG := Aside0.mk hG
 clear hG
 have HB := Aside0.mk (Below.refl w.heap.size w)
 have H : ((cmp_Compare_int.f a0_0 a1_0).bind fun t187 => (if t187 = 0 then (if a0_0 = 8 then ((cmp_Compare_string.f a0_1 a1_1).bind fun t188 => (some t188)) else (if a0_0 = 9 then (order_word.j0 k (a0_0 == 9) a0_0 a0_1 a1_0 a1_1) else (order_word.j0 k (a0_0 == 10) a0_0 a0_1 a1_0 a1_1))) else (some t187))) = some r := h
 clear h
 replace H := bi H
 obtain ⟨t187, A30, H⟩ := H
 try dsimp only at H
 have A3 := Aside0.mk A30
 clear A30
 by_cases c4 : t187 = 0
 rotate_left
 ·rw [if_neg c4] at H
  obtain ⟨c4b0, c4b1⟩ := eqF c4
  obtain rfl := Option.some.inj H
  go_enter Tryz.func68, Tryz.ntmps68
  go_wp2_with (first | (refine be 2 #[.int .i64 a0_0, .string a0_1] 85 ?_; intro gb185 hg w27 hbox hb; have BK185 := Aside0.mk (hbox); have GW185 := gW hg; have GE185 := gW hg; replace HB := sB hb; clear hb hbox hg) | (refine be 3 #[.int .i64 a1_0, .string a1_1] 85 ?_; intro gb186 hg w28 hbox hb; have BK186 := Aside0.mk (hbox); have GW186 := gW hg; have GE186 := gW hg; replace HB := sB hb; have NB185_186 := nL BK185 hg; have NB186_185 := nG BK185 hg; replace BK185 := kB BK185 hb; clear hb hbox hg; have hnb29 := NB185_186.out; have hnc29 := NB186_185.out; have hcz30_0 : w28.cell? ⟨gb185, 0, none⟩ = some (.int .i64 a0_0) := (blk_cell BK185.out 0).trans rfl; have hcz30_1 : w28.cell? ⟨gb185, 1, none⟩ = some (.string a0_1) := (blk_cell BK185.out 1).trans rfl; have hfz30_0 := blk_frozen BK185.out 0; have hfz30_1 := blk_frozen BK185.out 1; have hcz31_0 : w28.cell? ⟨gb186, 0, none⟩ = some (.int .i64 a1_0) := (blk_cell BK186.out 0).trans rfl; have hcz31_1 : w28.cell? ⟨gb186, 1, none⟩ = some (.string a1_1) := (blk_cell BK186.out 1).trans rfl; have hfz31_0 := blk_frozen BK186.out 0; have hfz31_1 := blk_frozen BK186.out 1) | (refine gl (some 10) Tryz.func89 #[.int .i64 a0_0, .int .i64 a1_0] ?_; (with_reducible refine (cmp_Compare_int.calls a0_0 a1_0 t187 _ (gS HG) A3.out).mono ?_); rintro e w' ⟨rfl, ⟨nd, rfl⟩⟩; refine ⟨_, rfl, ?_⟩))
  go_ret
  exact ⟨eA, bG⟩
 rw [if_pos c4] at H
 obtain ⟨c4b0, c4b1⟩ := eqT c4
 clear c4
 by_cases c5 : a0_0 = 8
 ·rw [if_pos c5] at H
  obtain ⟨c5b0, c5b1⟩ := eqT c5
  clear c5
  replace H := bi H
  obtain ⟨t188, A60, H⟩ := H
  try dsimp only at H
  have A6 := Aside0.mk A60
  clear A60
  obtain rfl := Option.some.inj H
  go_enter Tryz.func68, Tryz.ntmps68
  go_wp2_with (first | (refine be 2 #[.int .i64 a0_0, .string a0_1] 85 ?_; intro gb185 hg w7 hbox hb; have BK185 := Aside0.mk (hbox); have GW185 := gW hg; have GE185 := gW hg; replace HB := sB hb; clear hb hbox hg) | (refine be 3 #[.int .i64 a1_0, .string a1_1] 85 ?_; intro gb186 hg w8 hbox hb; have BK186 := Aside0.mk (hbox); have GW186 := gW hg; have GE186 := gW hg; replace HB := sB hb; have NB185_186 := nL BK185 hg; have NB186_185 := nG BK185 hg; replace BK185 := kB BK185 hb; clear hb hbox hg; have hnb9 := NB185_186.out; have hnc9 := NB186_185.out; have hcz10_0 : w8.cell? ⟨gb185, 0, none⟩ = some (.int .i64 a0_0) := (blk_cell BK185.out 0).trans rfl; have hcz10_1 : w8.cell? ⟨gb185, 1, none⟩ = some (.string a0_1) := (blk_cell BK185.out 1).trans rfl; have hfz10_0 := blk_frozen BK185.out 0; have hfz10_1 := blk_frozen BK185.out 1; have hcz11_0 : w8.cell? ⟨gb186, 0, none⟩ = some (.int .i64 a1_0) := (blk_cell BK186.out 0).trans rfl; have hcz11_1 : w8.cell? ⟨gb186, 1, none⟩ = some (.string a1_1) := (blk_cell BK186.out 1).trans rfl; have hfz11_0 := blk_frozen BK186.out 0; have hfz11_1 := blk_frozen BK186.out 1) | (refine gl (some 10) Tryz.func89 #[.int .i64 a0_0, .int .i64 a1_0] ?_; (with_reducible refine (cmp_Compare_int.calls a0_0 a1_0 t187 _ (gS HG) A3.out).mono ?_); rintro e w' ⟨rfl, ⟨nd, rfl⟩⟩; refine ⟨_, rfl, ?_⟩) | (refine gl (some 22) Tryz.func90 #[.string a0_1, .string a1_1] ?_; (with_reducible refine (cmp_Compare_string.calls a0_1 a1_1 t188 _ (gS HG) A6.out).mono ?_); rintro e w' ⟨rfl, ⟨nd, rfl⟩⟩; refine ⟨_, rfl, ?_⟩))
  go_ret
  exact ⟨eA, bG⟩
 rw [if_neg c5] at H
 obtain ⟨c5b0, c5b1⟩ := eqF c5
 have HC12 := Aside0.mk H
 clear H
 go_enter Tryz.func68, Tryz.ntmps68
 go_upto_if 23 with (first | (refine be 2 #[.int .i64 a0_0, .string a0_1] 85 ?_; intro gb185 hg w13 hbox hb; have BK185 := Aside0.mk (hbox); have GW185 := gW hg; have GE185 := gW hg; replace HB := sB hb; clear hb hbox hg) | (refine be 3 #[.int .i64 a1_0, .string a1_1] 85 ?_; intro gb186 hg w14 hbox hb; have BK186 := Aside0.mk (hbox); have GW186 := gW hg; have GE186 := gW hg; replace HB := sB hb; have NB185_186 := nL BK185 hg; have NB186_185 := nG BK185 hg; replace BK185 := kB BK185 hb; clear hb hbox hg; have hnb15 := NB185_186.out; have hnc15 := NB186_185.out; have hcz16_0 : w14.cell? ⟨gb185, 0, none⟩ = some (.int .i64 a0_0) := (blk_cell BK185.out 0).trans rfl; have hcz16_1 : w14.cell? ⟨gb185, 1, none⟩ = some (.string a0_1) := (blk_cell BK185.out 1).trans rfl; have hfz16_0 := blk_frozen BK185.out 0; have hfz16_1 := blk_frozen BK185.out 1; have hcz17_0 : w14.cell? ⟨gb186, 0, none⟩ = some (.int .i64 a1_0) := (blk_cell BK186.out 0).trans rfl; have hcz17_1 : w14.cell? ⟨gb186, 1, none⟩ = some (.string a1_1) := (blk_cell BK186.out 1).trans rfl; have hfz17_0 := blk_frozen BK186.out 0; have hfz17_1 := blk_frozen BK186.out 1) | (refine gl (some 10) Tryz.func89 #[.int .i64 a0_0, .int .i64 a1_0] ?_; (with_reducible refine (cmp_Compare_int.calls a0_0 a1_0 t187 _ (gS HG) A3.out).mono ?_); rintro e w' ⟨rfl, ⟨nd, rfl⟩⟩; refine ⟨_, rfl, ?_⟩))
 (try simp only [Act.put, List.setIfInBounds_toArray, List.set_cons_zero, List.set_cons_succ])
 go_cut [23] (fun v23 wc => ∃ (kq : Nat) (x23_11 : Bool), v23 = .bool x23_11 ∧ Aside0 (order_word.j0 kq x23_11 a0_0 a0_1 a1_0 a1_1 = some r) ∧ Aside0 (kq ≤ k) ∧ Aside0 (wc.heap[gb185]? = some (.cells #[.int .i64 a0_0, .string a0_1] 85 (0, 0))) ∧ Aside0 (wc.heap[gb186]? = some (.cells #[.int .i64 a1_0, .string a1_1] 85 (0, 0))) ∧ Aside0 (Below w.heap.size w wc))
 case first =>
  have H := HC12.out
  clear HC12
  by_cases c18 : a0_0 = 9
  rotate_left
  ·rw [if_neg c18] at H
   obtain ⟨c18b0, c18b1⟩ := eqF c18
   (first | rw [c18b0] | (simp only [i64_w, i32_w]; rw [c18b0]) | skip)
   have H' := Aside0.mk H
   clear H
   go_wp2
   go_meet
   case rel => exact ⟨_, ((a0_0 == 10)), cA, H', ⟨by first | omega | exact Nat.le_refl _⟩, ⟨bK BK185⟩, ⟨bK BK186⟩, ⟨bG⟩⟩
  rw [if_pos c18] at H
  obtain ⟨c18b0, c18b1⟩ := eqT c18
  clear c18
  (first | rw [c18b0] | (simp only [i64_w, i32_w]; rw [c18b0]) | skip)
  have H' := Aside0.mk H
  clear H
  go_wp2
  go_meet
  case rel => exact ⟨_, ((a0_0 == 9)), cA, H', ⟨by first | omega | exact Nat.le_refl _⟩, ⟨bK BK185⟩, ⟨bK BK186⟩, ⟨bG⟩⟩
 clear HC12
 try clear c1
 try clear p2
 try clear c4
 try clear c4b0
 try clear c4b1
 try clear c5
 try clear c5b0
 try clear c5b1
 try clear c6
 try clear c8
 try clear c9
 try clear c15
 try clear c18
 try clear c18b0
 try clear c18b1
 try clear hcz10_0
 try clear hcz10_1
 try clear hcz11_0
 try clear hcz11_1
 try clear hcz16_0
 try clear hcz16_1
 try clear hcz17_0
 try clear hcz17_1
 try clear hfz10_0
 try clear hfz10_1
 try clear hfz11_0
 try clear hfz11_1
 try clear hfz16_0
 try clear hfz16_1
 try clear hfz17_0
 try clear hfz17_1
 obtain ⟨kq, x23_11, rfl, HA, HJ11, BK185, BK186, HB⟩ := hcut
 cases kq with
 | zero => exact absurd HA.out (by simp [order_word.j0])
 | succ kj11 =>
  have H := HA.out
  clear HA
  simp only [order_word.j0] at H
  by_cases c19 : x23_11 = true
  rotate_left
  ·replace c19 := Bool.eq_false_iff.mpr c19
   subst c19
   replace H : (some 0) = some r := by rw [if_neg nF] at H; exact H
   obtain rfl := Option.some.inj H
   go_wp2
   go_ret
   exact ⟨eA, bG⟩
  subst c19
  replace H : ((cmp_Compare_int.f (a0_1.size : Int) (a1_1.size : Int)).bind fun t189 => ((cmp_Compare_string.f a0_1 a1_1).bind fun t190 => ((cmp_Or_int.f kj11 (([t189, t190] : List Int))).bind fun t194 => (some t194)))) = some r := by rw [if_pos rfl] at H; exact H
  replace H := bi H
  obtain ⟨t189, A200, H⟩ := H
  try dsimp only at H
  have A20 := Aside0.mk A200
  clear A200
  replace H := bi H
  obtain ⟨t190, A210, H⟩ := H
  try dsimp only at H
  have A21 := Aside0.mk A210
  clear A210
  obtain ⟨y191, hy191⟩ : ∃ y_ : List Int, y_ = (([t189, t190] : List Int)) := ⟨_, rfl⟩
  replace H : ((cmp_Or_int.f kj11 y191).bind fun t194 => (some t194)) = some r := by first | (rw [hy191]; with_reducible exact H) | (have H2_ := (Option.bind_some _ _).symm.trans H; rw [hy191]; with_reducible exact H2_) | (have H2_ := (Option.bind_some _ _).symm.trans H; with_reducible exact H2_) | with_reducible exact H | (rw [hy191]; exact H) | exact H
  have Ny191 := Aside0.mk hy191
  clear hy191
  replace H := bi H
  obtain ⟨t194, A220, H⟩ := H
  try dsimp only at H
  have A22 := Aside0.mk A220
  clear A220
  obtain rfl := Option.some.inj H
  try go_wp2
  replace BK185 := Aside0.mk (blk_drew BK185.out)
  replace BK186 := Aside0.mk (blk_drew BK186.out)
  replace HB := Aside0.mk (below_drew1 HB.out)
  refine start_ (n := 15) (S := fun w' => w'.cell? ⟨gb185, 0, none⟩ = some (.int .i64 a0_0) ∧ w'.cell? ⟨gb185, 1, none⟩ = some (.string a0_1) ∧ w'.cell? ⟨gb186, 0, none⟩ = some (.int .i64 a1_0) ∧ w'.cell? ⟨gb186, 1, none⟩ = some (.string a1_1)) (ds := []) #[false, false, false, false, false, false, false, false, false, false, false, false, false, false, false] (by kernel_rfl) rfl rfl ⟨(blk_cell BK185.out 0).trans rfl, (blk_cell BK185.out 1).trans rfl, (blk_cell BK186.out 0).trans rfl, (blk_cell BK186.out 1).trans rfl⟩ (fun hHeld => ?_); refine with_tabW order_word.tab9 order_word.bits9 (fun HT_ HW_ => ?_)
  generalize wc.drew = w23 at BK185 BK186 HB hHeld ⊢
  refine pz 0 (some 26) HT_ ?_
  refine pz 3 (some 29) HT_ ?_
  refine pz 7 (some 33) HT_ ?_
  refine pz 9 (some 35) HT_ ?_
  refine tm 1 (some 27) HT_ HW_ hHeld ?_
  refine pz 2 (some 28) HT_ ?_
  refine tm 4 (some 30) HT_ HW_ hHeld ?_
  refine pz 5 (some 31) HT_ ?_
  refine tm 8 (some 34) HT_ HW_ hHeld ?_
  refine tm 10 (some 36) HT_ HW_ hHeld ?_
  refine on 6 (some 32) HT_ (fun K hK => ?_)
  refine goes_ Tryz.func89 (by kernel_rfl) rfl #[.int .i64 (a0_1.size : Int), .int .i64 (a1_1.size : Int)] (by rfl) rfl rfl mA ?_
  with_reducible refine (cmp_Compare_int.calls (a0_1.size : Int) (a1_1.size : Int) t189 _ (gS HG) A20.out).mono ?_
  rintro e w' ⟨rfl, ⟨nd, rfl⟩⟩
  refine ⟨_, rfl, ?_⟩
  refine hK.out _ _ ⟨(blk_cell BK185.out 0).trans rfl, (blk_cell BK185.out 1).trans rfl, (blk_cell BK186.out 0).trans rfl, (blk_cell BK186.out 1).trans rfl⟩ (fun hHeld => ?_)
  clear hK K
  refine nz (some 32) ?_
  refine on 11 (some 37) HT_ (fun K hK => ?_)
  refine goes_ Tryz.func90 (by kernel_rfl) rfl #[.string a0_1, .string a1_1] (by rfl) rfl rfl mA ?_
  with_reducible refine (cmp_Compare_string.calls a0_1 a1_1 t190 _ (gS HG) A21.out).mono ?_
  rintro e w' ⟨rfl, ⟨nd, rfl⟩⟩
  refine ⟨_, rfl, ?_⟩
  refine hK.out _ _ ⟨(blk_cell BK185.out 0).trans rfl, (blk_cell BK185.out 1).trans rfl, (blk_cell BK186.out 0).trans rfl, (blk_cell BK186.out 1).trans rfl⟩ (fun hHeld => ?_)
  clear hK K
  refine nz (some 37) ?_
  refine on 12 (some 38) HT_ (fun K hK => ?_)
  refine Kd.R_lit_step (Kd.int .i64) _ 3 ?hg (N := 38) ?hd (xs := ([t189, t190] : List Int)) (inner := [.int .i64 t189, .int .i64 t190]) (ok := fun _ => True) (okp := fun _ => True) ?hr ?hp (fun _ hk => hk) trivial (Below.refl _ _) (Nat.le_refl _) (by simp) ?_; (case hd => rfl); (case hg => rfl); (case hr => first | (go_simp; done) | (go_simp; rfl)); (case hp => exact (Reps.one (show Kd.M (Kd.int .i64) _ _ _ t189 [.int .i64 t189] from rfl) (Reps.one (show Kd.M (Kd.int .i64) _ _ _ t190 [.int .i64 t190] from rfl) (Reps.none _ _))))
  intro v192 w24 ho25 hb hg_ hnew_
  clear hg_ hnew_
  (first | rw [← Ny191.out] at ho25 | (simp only [Int.reduceToNat] at ho25; rw [← Ny191.out] at ho25))
  have HO193 := Aside0.mk (Kd.R_lower ho25 (below_size bG))
  replace BK185 := kB BK185 hb
  replace BK186 := kB BK186 hb
  replace HB := sB hb
  clear hb ho25
  obtain ⟨Ao26, co26, eo26⟩ := Kd.R_slice HO193.out
  (first | subst eo26 | (injection eo26 with f1_ f2_ f3_; have f4_ := f1_.symm; have f5_ := f3_.symm; clear f1_ f2_ f3_; subst f4_; subst f5_))
  refine hK.out _ _ ⟨(blk_cell BK185.out 0).trans rfl, (blk_cell BK185.out 1).trans rfl, (blk_cell BK186.out 0).trans rfl, (blk_cell BK186.out 1).trans rfl⟩ (fun hHeld => ?_)
  clear hK K
  refine nz (some 38) ?_
  refine on 13 (some 39) HT_ (fun K hK => ?_)
  refine goes_ Tryz.func91 (by kernel_rfl) rfl #[.slice Ao26 y191.length co26] (by rfl) rfl rfl mA ?_
  with_reducible refine (cmp_Or_int.calls kj11 _ _ y191 t194 _ ?side1 ?side2 (gS HG) A22.out).mono ?_
  (case side1 => repeat (first | exact (Kd.R_reads' HO193.out).2.2 | (with_reducible refine Kd.C_alloc ?_ _) | (with_reducible refine Kd.C_drewN ?_ _) | (with_reducible refine Kd.C_drew ?_)))
  (case side2 => exact (Kd.R_reads' HO193.out).2.1)
  rintro e w' ⟨rfl, ⟨nd, rfl⟩⟩
  refine ⟨_, rfl, ?_⟩
  refine hK.out _ _ ⟨(blk_cell BK185.out 0).trans rfl, (blk_cell BK185.out 1).trans rfl, (blk_cell BK186.out 0).trans rfl, (blk_cell BK186.out 1).trans rfl⟩ (fun hHeld => ?_)
  clear hK K
  refine nz (some 39) ?_
  refine pz 14 (some 4) HT_ ?_
  refine done_ (done_of HT_.out (by kernel_rfl)) ?_
  try go_wp2
  go_ret
  exact ⟨eA, bG⟩
def order_at.f (l0 : List (S85)) (a1 : Int) : Option (Int × ByteArray) := if a1 < (l0.length : Int) then (if 0 ≤ a1 then (some ((rd_T85 l0 a1).f0, (rd_T85 l0 a1).f1)) else (none)) else (some (6, (⟨#[]⟩ : ByteArray)))
theorem order_at.calls (A0 : Option Addr) (c0 : Nat) (l0 : List (S85)) (a1 : Int) (r1 : Int) (r2 : ByteArray) (w : World) (hr0 : Kd.C k85 w A0 l0.length l0) (hc0 : l0.length ≤ c0) (hG : Glob w) (h : order_at.f l0 a1 = some (r1, r2)) :
 Calls Tryz.prog 69 #[.slice A0 l0.length c0, .int .i64 a1] w fun e w' => e = .returned (.agg #[.int .i64 r1, .string r2]) ∧ Below w.heap.size w w' := by
 have hu85 := Tryz.underlying85
 have HG := Aside0.mk hG
 clear hG
 have HR0 := Aside0.mk hr0
 have HC0 := Aside0.mk hc0
 clear hr0 hc0
 have HB := Aside0.mk (Below.refl w.heap.size w)
 have H : (if a1 < (l0.length : Int) then (if 0 ≤ a1 then (some ((rd_T85 l0 a1).f0, (rd_T85 l0 a1).f1)) else (none)) else (some (6, (⟨#[]⟩ : ByteArray)))) = some (r1, r2) := h
 clear h
 by_cases c3 : a1 < (l0.length : Int)
 rotate_left
 ·rw [if_neg c3] at H
  have c3b0 := dF c3
  clear c3
  simp only [Option.some.injEq, Prod.mk.injEq] at H
  obtain ⟨rfl, rfl⟩ := H
  go_enter Tryz.func69, Tryz.ntmps69
  go_wp2_with (first | (refine be 4 #[.int .i64 0, .string (⟨#[]⟩ : ByteArray)] 85 ?_; intro gb178 hg w7 hbox hb; have BK178 := Aside0.mk (hbox); have GW178 := gW hg; have GE178 := gW hg; replace HB := sB hb; clear hb hbox hg; have hcz8_0 : w7.cell? ⟨gb178, 0, none⟩ = some (.int .i64 0) := (blk_cell BK178.out 0).trans rfl; have hcz8_1 : w7.cell? ⟨gb178, 1, none⟩ = some (.string (⟨#[]⟩ : ByteArray)) := (blk_cell BK178.out 1).trans rfl; have hfz8_0 := blk_frozen BK178.out 0; have hfz8_1 := blk_frozen BK178.out 1))
  refine bodyPost_ret (results_cell_row rfl _ _ gb178 85 #[.int .i64 6, .string (⟨#[]⟩ : ByteArray)] (0, 0) _ rfl (bP BK178) Tryz.underlying85 rfl (by kernel_rfl)) rfl ?_
  exact ⟨eA, bG⟩
 rw [if_pos c3] at H
 have c3b0 := dT c3
 clear c3
 obtain ⟨c4, H⟩ := gp H
 have c4b0 := dT c4
 clear c4
 simp only [Option.some.injEq, Prod.mk.injEq] at H
 obtain ⟨rfl, rfl⟩ := H
 go_enter Tryz.func69, Tryz.ntmps69
 go_wp2_with (first | (refine be 4 #[.int .i64 0, .string (⟨#[]⟩ : ByteArray)] 85 ?_; intro gb178 hg w5 hbox hb; have BK178 := Aside0.mk (hbox); have GW178 := gW hg; have GE178 := gW hg; replace HB := sB hb; clear hb hbox hg; have p179 : 0 ≤ (a1 : Int) := dA; have q179 : a1 < (l0.length : Int) := dA; obtain ⟨ad179, e179, hx179_0, hx179_1⟩ := at_T85 HR0.out a1 p179 q179; cases e179; replace hx179_0 := (HB.out.cell (World.block_lt_of_cell? w _ hx179_0)).trans hx179_0; replace hx179_1 := (HB.out.cell (World.block_lt_of_cell? w _ hx179_1)).trans hx179_1; replace p179 := eq_true p179; replace q179 := eq_true q179; have hcz6_0 : w5.cell? ⟨gb178, 0, none⟩ = some (.int .i64 0) := (blk_cell BK178.out 0).trans rfl; have hcz6_1 : w5.cell? ⟨gb178, 1, none⟩ = some (.string (⟨#[]⟩ : ByteArray)) := (blk_cell BK178.out 1).trans rfl; have hfz6_0 := blk_frozen BK178.out 0; have hfz6_1 := blk_frozen BK178.out 1))
 refine bodyPost_ret (results_cell_row rfl _ _ gb178 85 #[.int .i64 ((rd_T85 l0 a1).f0), .string ((rd_T85 l0 a1).f1)] (0, 0) _ rfl (bP BK178) Tryz.underlying85 rfl (by kernel_rfl)) rfl ?_
 exact ⟨eA, bG⟩
def order_Words.l0 : Nat → List (S85) → List (S85) → Int → Option (Int)
 | 0, _, _, _ => none
 | k + 1, x0, x1, x5 => (order_at.f x0 x5).bind fun bt195 => ((order_at.f x1 x5).bind fun bt197 => ((order_word.f k bt195.1 bt195.2 bt197.1 bt197.2).bind fun t199 => (if t199 = 0 then (if (wrap64 (x5 + 1)) < (mx (x0.length : Int) (x1.length : Int)) then (order_Words.l0 k x0 x1 (wrap64 (x5 + 1))) else (some t199)) else (some t199))))
def order_Words.f (k : Nat) (l0 : List (S85)) (l1 : List (S85)) : Option (Int) := order_Words.l0 k l0 l1 0
theorem order_Words.mono_l : ∀ k, (∀ y0 y1 y2, LeO (order_Words.l0 k y0 y1 y2) (order_Words.l0 (k + 1) y0 y1 y2))
 | 0 => fun _ _ _ r h => by simp [order_Words.l0] at h
 | k + 1 => by
  have ih0 := order_Words.mono_l k
  ·intro y0 y1 y2
   unfold order_Words.l0
   have m0 := @order_word.mono
   exact mo
theorem order_Words.mono : ∀ a0 a1 k, LeO (order_Words.f k a0 a1) (order_Words.f (k + 1) a0 a1) := by
 intro a0 a1 k
 have ih0 := order_Words.mono_l k
 unfold order_Words.f
 have m0 := @order_word.mono
 exact mo
theorem order_Words.calls (k : Nat) (A0 : Option Addr) (c0 : Nat) (l0 : List (S85)) (A1 : Option Addr) (c1 : Nat) (l1 : List (S85)) (r : Int) (w : World) (hr0 : Kd.C k85 w A0 l0.length l0) (hc0 : l0.length ≤ c0) (hr1 : Kd.C k85 w A1 l1.length l1) (hc1 : l1.length ≤ c1) (hG : Glob w) (h : order_Words.f k l0 l1 = some r) :
 Calls Tryz.prog 48 #[.slice A0 l0.length c0, .slice A1 l1.length c1] w fun e w' => e = .returned (.int .i64 r) ∧ Below w.heap.size w w' := by
 have HG := Aside0.mk hG
 clear hG
 have HR0 := Aside0.mk hr0
 have HC0 := Aside0.mk hc0
 clear hr0 hc0
 have HR1 := Aside0.mk hr1
 have HC1 := Aside0.mk hc1
 clear hr1 hc1
 have HB := Aside0.mk (Below.refl w.heap.size w)
 have H : (order_Words.l0 k l0 l1 0) = some r := h
 clear h
 have HS3 := Aside0.mk H
 clear H
 go_enter Tryz.func48, Tryz.ntmps48
 go_wp2
 refine wp_scope_loop 0 (by rfl) ?_
 have H := HS3.out
 clear HS3
 have H' := Aside0.mk H
 clear H
 go_wp2
 refine wp_label ?_
 rename_i hlb
 refine hlb _ _ ?_
 refine wp_at_label ?_
 refine LoopAt.intro (fun aB_ kq_ a1 w1 => ∃ (u4 u5 u6 u7 u8 u9 u10 u11 u12 u13 u14 u15 u16 u17 u18 u19 u20 u21 u22 u23 u24 u25 u26 u27 : Value), (fun kq v5 w' => ∃ (x5_1 : Int), v5 = .int .i64 x5_1 ∧ Aside0 (order_Words.l0 kq l0 l1 x5_1 = some r) ∧ Aside0 (kq ≤ k) ∧ Aside0 (Below w.heap.size w w')) kq_ u5 w1 ∧ a1 = ((((((((((((((((((((((((aB_.put (some 4) u4).put (some 5) u5).put (some 6) u6).put (some 7) u7).put (some 8) u8).put (some 9) u9).put (some 10) u10).put (some 11) u11).put (some 12) u12).put (some 13) u13).put (some 14) u14).put (some 15) u15).put (some 16) u16).put (some 17) u17).put (some 18) u18).put (some 19) u19).put (some 20) u20).put (some 21) u21).put (some 22) u22).put (some 23) u23).put (some 24) u24).put (some 25) u25).put (some 26) u26).put (some 27) u27)) k ?_ ?_
 ·(repeat apply Exists.intro)
  (try simp only [Act.put, List.setIfInBounds_toArray, List.set_cons_zero, List.set_cons_succ])
  refine ⟨?_, rfl⟩
  exact ⟨(0), cA, H', ⟨Nat.le_refl _⟩, ⟨bE⟩⟩
 ·intro gk a1 wr hinv
  obtain ⟨u4, u5, u6, u7, u8, u9, u10, u11, u12, u13, u14, u15, u16, u17, u18, u19, u20, u21, u22, u23, u24, u25, u26, u27, hrel, ha⟩ := hinv
  subst ha
  (try simp only [Act.put, List.setIfInBounds_toArray, List.set_cons_zero, List.set_cons_succ])
  intro Js0 Ks0 hJs0 hKs0
  clear H'
  try clear c1
  try clear p2
  obtain ⟨x5_1, rfl, HA, HK1, HB⟩ := hrel
  cases gk with
  | zero => exact absurd HA.out (by simp [order_Words.l0])
  | succ k1 =>
   have H := HA.out
   clear HA
   simp only [order_Words.l0] at H
   replace H := bi H
   obtain ⟨⟨t195, t196⟩, A40, H⟩ := H
   try dsimp only at H
   have A4 := Aside0.mk A40
   clear A40
   replace H := bi H
   obtain ⟨⟨t197, t198⟩, A50, H⟩ := H
   try dsimp only at H
   have A5 := Aside0.mk A50
   clear A50
   replace H := bi H
   obtain ⟨t199, A60, H⟩ := H
   try dsimp only at H
   have A6 := Aside0.mk A60
   clear A60
   by_cases c7 : t199 = 0
   rotate_left
   ·rw [if_neg c7] at H
    obtain ⟨c7b0, c7b1⟩ := eqF c7
    obtain rfl := Option.some.inj H
    go_wp2_with (first | (refine gl (some 9) Tryz.func69 #[.slice A0 l0.length c0, .int .i64 x5_1] ?_; (with_reducible refine (order_at.calls _ _ l0 x5_1 t195 t196 _ ?side1 ?side2 (gS HG) A4.out).mono ?_); (case side1 => repeat (first | exact (Kd.C_below HR0.out HB.out) | (with_reducible refine Kd.C_alloc ?_ _) | (with_reducible refine Kd.C_drewN ?_ _) | (with_reducible refine Kd.C_drew ?_))); (case side2 => exact HC0.out); rintro e w16 ⟨rfl, hb⟩; refine ⟨_, rfl, ?_⟩; replace HB := sB hb; (try clear hb)) | (refine gl (some 12) Tryz.func69 #[.slice A1 l1.length c1, .int .i64 x5_1] ?_; (with_reducible refine (order_at.calls _ _ l1 x5_1 t197 t198 _ ?side1 ?side2 (gS HG) A5.out).mono ?_); (case side1 => repeat (first | exact (Kd.C_below HR1.out HB.out) | (with_reducible refine Kd.C_alloc ?_ _) | (with_reducible refine Kd.C_drewN ?_ _) | (with_reducible refine Kd.C_drew ?_))); (case side2 => exact HC1.out); rintro e w17 ⟨rfl, hb⟩; refine ⟨_, rfl, ?_⟩; replace HB := sB hb; (try clear hb)) | (refine gl (some 13) Tryz.func68 #[.agg #[.int .i64 t195, .string t196], .agg #[.int .i64 t197, .string t198]] ?_; (with_reducible refine (order_word.calls k1 t195 t196 t197 t198 t199 _ (gS HG) A6.out).mono ?_); rintro e w18 ⟨rfl, hb⟩; refine ⟨_, rfl, ?_⟩; replace HB := sB hb; (try clear hb)))
    (try simp only [Exit.inBlock, Exit.then, jump_ret])
    go_ret
    exact ⟨eA, bE⟩
   rw [if_pos c7] at H
   obtain ⟨c7b0, c7b1⟩ := eqT c7
   clear c7
   obtain ⟨ji8, hji8⟩ : ∃ j_ : Int, (mx (l0.length : Int) (l1.length : Int)) = j_ := ⟨_, rfl⟩
   rw [hji8] at H
   (try rw [hji8] at A4)
   (try rw [hji8] at A5)
   (try rw [hji8] at A6)
   have hji8_ : (if (l0.length : Int) < (l1.length : Int) then (l1.length : Int) else (l0.length : Int)) = ji8 := hji8
   have hji8n : (if l0.length < l1.length then (l1.length : Int) else (l0.length : Int)) = ji8 := by rw [← hji8_]; simp only [Int.ofNat_lt]
   by_cases c9 : (wrap64 (x5_1 + 1)) < (ji8)
   rotate_left
   ·rw [if_neg c9] at H
    have c9b0 := dF c9
    clear c9
    obtain rfl := Option.some.inj H
    go_wp2_with (first | (refine gl (some 9) Tryz.func69 #[.slice A0 l0.length c0, .int .i64 x5_1] ?_; (with_reducible refine (order_at.calls _ _ l0 x5_1 t195 t196 _ ?side1 ?side2 (gS HG) A4.out).mono ?_); (case side1 => repeat (first | exact (Kd.C_below HR0.out HB.out) | (with_reducible refine Kd.C_alloc ?_ _) | (with_reducible refine Kd.C_drewN ?_ _) | (with_reducible refine Kd.C_drew ?_))); (case side2 => exact HC0.out); rintro e w13 ⟨rfl, hb⟩; refine ⟨_, rfl, ?_⟩; replace HB := sB hb; (try clear hb)) | (refine gl (some 12) Tryz.func69 #[.slice A1 l1.length c1, .int .i64 x5_1] ?_; (with_reducible refine (order_at.calls _ _ l1 x5_1 t197 t198 _ ?side1 ?side2 (gS HG) A5.out).mono ?_); (case side1 => repeat (first | exact (Kd.C_below HR1.out HB.out) | (with_reducible refine Kd.C_alloc ?_ _) | (with_reducible refine Kd.C_drewN ?_ _) | (with_reducible refine Kd.C_drew ?_))); (case side2 => exact HC1.out); rintro e w14 ⟨rfl, hb⟩; refine ⟨_, rfl, ?_⟩; replace HB := sB hb; (try clear hb)) | (refine gl (some 13) Tryz.func68 #[.agg #[.int .i64 t195, .string t196], .agg #[.int .i64 t197, .string t198]] ?_; (with_reducible refine (order_word.calls k1 t195 t196 t197 t198 t199 _ (gS HG) A6.out).mono ?_); rintro e w15 ⟨rfl, hb⟩; refine ⟨_, rfl, ?_⟩; replace HB := sB hb; (try clear hb)))
    (try simp only [Exit.inBlock, Exit.then, jump_ret])
    go_ret
    exact ⟨by first | rfl | (simp [errW_none, errW_some] <;> rfl) | (simp only [← hji8]; first | rfl | (simp [errW_none, errW_some] <;> rfl)) | (simp [*, errW_none, errW_some] <;> rfl), bE⟩
   rw [if_pos c9] at H
   have c9b0 := dT c9
   clear c9
   have H' := Aside0.mk H
   clear H
   go_wp2_with (first | (refine gl (some 9) Tryz.func69 #[.slice A0 l0.length c0, .int .i64 x5_1] ?_; (with_reducible refine (order_at.calls _ _ l0 x5_1 t195 t196 _ ?side1 ?side2 (gS HG) A4.out).mono ?_); (case side1 => repeat (first | exact (Kd.C_below HR0.out HB.out) | (with_reducible refine Kd.C_alloc ?_ _) | (with_reducible refine Kd.C_drewN ?_ _) | (with_reducible refine Kd.C_drew ?_))); (case side2 => exact HC0.out); rintro e w10 ⟨rfl, hb⟩; refine ⟨_, rfl, ?_⟩; replace HB := sB hb; (try clear hb)) | (refine gl (some 12) Tryz.func69 #[.slice A1 l1.length c1, .int .i64 x5_1] ?_; (with_reducible refine (order_at.calls _ _ l1 x5_1 t197 t198 _ ?side1 ?side2 (gS HG) A5.out).mono ?_); (case side1 => repeat (first | exact (Kd.C_below HR1.out HB.out) | (with_reducible refine Kd.C_alloc ?_ _) | (with_reducible refine Kd.C_drewN ?_ _) | (with_reducible refine Kd.C_drew ?_))); (case side2 => exact HC1.out); rintro e w11 ⟨rfl, hb⟩; refine ⟨_, rfl, ?_⟩; replace HB := sB hb; (try clear hb)) | (refine gl (some 13) Tryz.func68 #[.agg #[.int .i64 t195, .string t196], .agg #[.int .i64 t197, .string t198]] ?_; (with_reducible refine (order_word.calls k1 t195 t196 t197 t198 t199 _ (gS HG) A6.out).mono ?_); rintro e w12 ⟨rfl, hb⟩; refine ⟨_, rfl, ?_⟩; replace HB := sB hb; (try clear hb)))
   refine wp_goto (And.intro rfl ?_)
   refine hKs0 _ _ ?_
   go_roundg k1
   case measure => have := HK1.out; omega
   case rel => exact ⟨(wrap64 (x5_1 + 1)), cA, H', ⟨by have := HK1.out; omega⟩, ⟨bE⟩⟩
def chars_Digit.f (a0 : Int) : Option (Bool) := if a0 ≥ 48 then (some (decide (a0 ≤ 57))) else (some false)
theorem chars_Digit.calls (a0 : Int) (r : Bool) (w : World) (hG : Glob w) (h : chars_Digit.f a0 = some r) :
 Calls Tryz.prog 92 #[.int .u8 a0] w fun e w' => e = .returned (.bool r) ∧ Drawn0 w w' := by
 have HG := Aside0.mk hG
 clear hG
 have H : (if a0 ≥ 48 then (some (decide (a0 ≤ 57))) else (some false)) = some r := h
 clear h
 by_cases c2 : a0 ≥ 48
 rotate_left
 ·rw [if_neg c2] at H
  have c2b0 := dF c2
  clear c2
  obtain rfl := Option.some.inj H
  go_enter Tryz.func92, Tryz.ntmps92
  go_wp2
  go_ret
  exact ⟨by first | rfl | (simp; done) | (simp [*]; done), by repeat (first | exact Drawn0.refl _ | apply Drawn0.step)⟩
 rw [if_pos c2] at H
 have c2b0 := dT c2
 clear c2
 obtain rfl := Option.some.inj H
 go_enter Tryz.func92, Tryz.ntmps92
 go_wp2
 go_ret
 exact ⟨by first | rfl | (simp; done) | (simp [*]; done), by repeat (first | exact Drawn0.refl _ | apply Drawn0.step)⟩
def words_parts.l0 : Nat → ByteArray → List (S98) → Int → Int → Option ((List (S98)))
 | 0, _, _, _, _ => none
 | k + 1, x0, x3, x10, x11 => if x11 < x10 then (if 0 ≤ x11 then (if x11 < (x0.size : Int) then (if 0 ≤ (wrap64 ((x3.length : Int) - 1)) then (if (wrap64 ((x3.length : Int) - 1)) < (x3.length : Int) then (if (bt x0 x11) = 46 then (if x3.length < 5864062014805 then (words_parts.l0 k x0 (x3 ++ [(⟨(⟨#[]⟩ : ByteArray), ((bt x0 x11) == 45), false⟩ : S98)]) x10 (wrap64 (x11 + 1))) else (none)) else (if (bt x0 x11) = 45 then (if x3.length < 5864062014805 then (words_parts.l0 k x0 (x3 ++ [(⟨(⟨#[]⟩ : ByteArray), true, false⟩ : S98)]) x10 (wrap64 (x11 + 1))) else (none)) else (if ((rd_T98 x3 (wrap64 ((x3.length : Int) - 1))).f0).toList = ([] : List UInt8) then ((some (([bt x0 x11] : List Int) : List Int)).bind fun y122 => (if ((rd_T98 x3 (wrap64 ((x3.length : Int) - 1))).f0).size + (strOfNums y122).size ≤ 9223372036854775807 then (words_parts.l0 k x0 (x3.set ((wrap64 ((x3.length : Int) - 1)) : Int).toNat (⟨((rd_T98 x3 (wrap64 ((x3.length : Int) - 1))).f0) ++ (strOfNums y122), (rd_T98 x3 (wrap64 ((x3.length : Int) - 1))).f1, (rd_T98 x3 (wrap64 ((x3.length : Int) - 1))).f2⟩ : S98)) x10 (wrap64 (x11 + 1))) else (none))) else ((chars_Digit.f (bt x0 x11)).bind fun t126 => (if 0 ≤ (wrap64 (x11 - 1)) then (if (wrap64 (x11 - 1)) < (x0.size : Int) then ((chars_Digit.f (bt x0 (wrap64 (x11 - 1)))).bind fun t127 => (if (t126 != t127) = true then ((chars_Digit.f (bt x0 x11)).bind fun t128 => ((some (x3.set ((wrap64 ((x3.length : Int) - 1)) : Int).toNat (⟨(rd_T98 x3 (wrap64 ((x3.length : Int) - 1))).f0, (rd_T98 x3 (wrap64 ((x3.length : Int) - 1))).f1, t128⟩ : S98) : List (S98))).bind fun y129 => (if y129.length < 5864062014805 then ((some (y129 ++ [(⟨(⟨#[]⟩ : ByteArray), true, false⟩ : S98)] : List (S98))).bind fun y130 => (if 0 ≤ (wrap64 ((y130.length : Int) - 1)) then (if (wrap64 ((y130.length : Int) - 1)) < (y130.length : Int) then ((some (([bt x0 x11] : List Int) : List Int)).bind fun y134 => (if ((rd_T98 y130 (wrap64 ((y130.length : Int) - 1))).f0).size + (strOfNums y134).size ≤ 9223372036854775807 then (words_parts.l0 k x0 (y130.set ((wrap64 ((y130.length : Int) - 1)) : Int).toNat (⟨((rd_T98 y130 (wrap64 ((y130.length : Int) - 1))).f0) ++ (strOfNums y134), (rd_T98 y130 (wrap64 ((y130.length : Int) - 1))).f1, (rd_T98 y130 (wrap64 ((y130.length : Int) - 1))).f2⟩ : S98)) x10 (wrap64 (x11 + 1))) else (none))) else (none)) else (none))) else (none)))) else ((some (([bt x0 x11] : List Int) : List Int)).bind fun y139 => (if ((rd_T98 x3 (wrap64 ((x3.length : Int) - 1))).f0).size + (strOfNums y139).size ≤ 9223372036854775807 then (words_parts.l0 k x0 (x3.set ((wrap64 ((x3.length : Int) - 1)) : Int).toNat (⟨((rd_T98 x3 (wrap64 ((x3.length : Int) - 1))).f0) ++ (strOfNums y139), (rd_T98 x3 (wrap64 ((x3.length : Int) - 1))).f1, (rd_T98 x3 (wrap64 ((x3.length : Int) - 1))).f2⟩ : S98)) x10 (wrap64 (x11 + 1))) else (none))))) else (none)) else (none)))))) else (none)) else (none)) else (none)) else (none)) else (some x3)
def words_parts.f (k : Nat) (a0 : ByteArray) : Option ((List (S98))) := words_parts.l0 k a0 (([(⟨(⟨#[]⟩ : ByteArray), false, false⟩ : S98)] : List (S98))) (a0.size : Int) 0
theorem words_parts.mono_l : ∀ k, (∀ y0 y1 y2 y3, LeO (words_parts.l0 k y0 y1 y2 y3) (words_parts.l0 (k + 1) y0 y1 y2 y3))
 | 0 => fun _ _ _ _ r h => by simp [words_parts.l0] at h
 | k + 1 => by
  have ih0 := words_parts.mono_l k
  ·intro y0 y1 y2 y3
   unfold words_parts.l0
   exact mo
theorem words_parts.mono : ∀ a0 k, LeO (words_parts.f k a0) (words_parts.f (k + 1) a0) := by
 intro a0 k
 have ih0 := words_parts.mono_l k
 unfold words_parts.f
 exact mo
def words_parts.T5 : Bool × List (List Nat × List Nat) := (true, [([], []), ([], []), ([0, 1], [0, 1]), ([], []), ([], []), ([4], [4]), ([5], [5]), ([3, 6], [3, 6]), ([2, 0, 1, 2], [2]), ([7, 8, 0, 1, 2, 3, 4, 5, 6, 7, 8], [7])])
def words_parts.B5 : List Nat := [0, 0, 3, 0, 0, 16, 48, 120, 7, 511]
theorem words_parts.tab5 : rtab .any (opsOf Tryz.f70 5) = words_parts.T5 := by kernel_rfl
theorem words_parts.bits5 : waitsOk words_parts.T5.2 words_parts.B5 = true := by kernel_rfl
def words_parts.T8 : Bool × List (List Nat × List Nat) := (true, [([], []), ([0], [0]), ([1], [1]), ([2], [2]), ([3], [3]), ([4], [4]), ([5], [5]), ([6, 5, 5], [5, 6]), ([5], [5]), ([5], [5]), ([9, 5], [5, 9]), ([8, 10, 5], [5, 8, 10]), ([11, 7, 5], [5, 11]), ([7, 12, 5], [5, 7, 12]), ([5, 13], [5, 13]), ([14, 12], [14])])
def words_parts.B8 : List Nat := [0, 1, 3, 7, 15, 31, 63, 127, 63, 63, 575, 1855, 4095, 8191, 16383, 32767]
theorem words_parts.tab8 : rtab .any (opsOf Tryz.f70 8) = words_parts.T8 := by kernel_rfl
theorem words_parts.bits8 : waitsOk words_parts.T8.2 words_parts.B8 = true := by kernel_rfl
def words_parts.T12 : Bool × List (List Nat × List Nat) := (true, [([], []), ([0], [0]), ([1], [1]), ([2], [2]), ([], []), ([4], [4]), ([5], [5]), ([3, 6], [3, 6]), ([0, 0, 1, 2, 3, 4, 5, 6, 7], [0]), ([8, 0, 1, 2, 3, 4, 5, 6, 7], [8]), ([9, 7, 0, 1, 2, 3, 4, 5, 6, 7], [7, 9])])
def words_parts.B12 : List Nat := [0, 1, 3, 7, 0, 16, 48, 127, 255, 511, 1023]
theorem words_parts.tab12 : rtab .any (opsOf Tryz.f70 12) = words_parts.T12 := by kernel_rfl
theorem words_parts.bits12 : waitsOk words_parts.T12.2 words_parts.B12 = true := by kernel_rfl
theorem words_parts.calls (k : Nat) (a0 : ByteArray) (r : List (S98)) (w : World) (hG : Glob w) (h : words_parts.f k a0 = some r) :
 Calls Tryz.prog 70 #[.string a0] w fun e w' => ∃ v0_ : Value, e = .returned (v0_) ∧ Kd.R k98 98 w' w.heap.size (fun _ => True) v0_ r ∧ Below w.heap.size w w' := by
 have hu98 := Tryz.underlying98
 have HG := Aside0.mk hG
 clear hG
 have HB := Aside0.mk (Below.refl w.heap.size w)
 have H : (words_parts.l0 k a0 (([(⟨(⟨#[]⟩ : ByteArray), false, false⟩ : S98)] : List (S98))) (a0.size : Int) 0) = some r := h
 clear h
 obtain ⟨y111, hy111⟩ : ∃ y_ : List (S98), y_ = (([(⟨(⟨#[]⟩ : ByteArray), false, false⟩ : S98)] : List (S98))) := ⟨_, rfl⟩
 replace H : (words_parts.l0 k a0 y111 (a0.size : Int) 0) = some r := by first | (rw [hy111]; with_reducible exact H) | (have H2_ := (Option.bind_some _ _).symm.trans H; rw [hy111]; with_reducible exact H2_) | (have H2_ := (Option.bind_some _ _).symm.trans H; with_reducible exact H2_) | with_reducible exact H | (rw [hy111]; exact H) | exact H
 have Ny111 := Aside0.mk hy111
 clear hy111
 have H' := Aside0.mk H
 clear H
 go_enter Tryz.func70, Tryz.ntmps70
 go_wp2_with (first | ((with_reducible refine gate_dst (N := 8) rfl ?_); refine Kd.R_lit k98 _ 98 ?hg (N := 8) ?hd (xs := ([(⟨(⟨#[]⟩ : ByteArray), false, false⟩ : S98)] : List (S98))) (inner := [.string (⟨#[]⟩ : ByteArray), .bool false, .bool false]) (ok := fun _ => True) (okp := fun _ => True) ?hr ?hp (fun _ hk => hk) trivial (Below.refl _ _) (Nat.le_refl _) (by simp) ?_; (case hd => rfl); (case hg => rfl); (case hr => first | (go_simp; done) | (go_simp; rfl)); (case hp => exact (Reps.c3 (show Kd.M k98 _ _ _ (⟨(⟨#[]⟩ : ByteArray), false, false⟩ : S98) [.string (⟨#[]⟩ : ByteArray), .bool false, .bool false] from (k98_mkM _ _ _ (⟨(⟨#[]⟩ : ByteArray), false, false⟩ : S98) )) (Reps.none _ _))); intro v112 w2 ho3 hb hg_ hnew_; clear hg_ hnew_; (first | rw [← Ny111.out] at ho3 | (simp only [Int.reduceToNat] at ho3; rw [← Ny111.out] at ho3)); have HO113 := Aside0.mk (Kd.R_lower ho3 (below_size bE)); replace HB := sB hb; clear hb ho3))
 (try simp only [Act.put, List.setIfInBounds_toArray, List.set_cons_zero, List.set_cons_succ])
 go_loopg [3, 11] k (fun kq v3 v11 w' => ∃ (x3_1 : List (S98)) (x11_1 : Int), v11 = .int .i64 x11_1 ∧ Aside0 (words_parts.l0 kq a0 x3_1 (a0.size : Int) x11_1 = some r) ∧ Aside0 (kq ≤ k) ∧ Aside0 (Kd.R k98 98 w' w.heap.size (fun _ => True) v3 x3_1) ∧ Aside0 (Below w.heap.size w w'))
 case atStart => exact ⟨(y111), (0), cA, H', ⟨Nat.le_refl _⟩, ⟨kR HO113⟩, ⟨bE⟩⟩
 clear H'
 try clear p2
 try clear c3
 obtain ⟨x3_1, x11_1, rfl, HA, HK1, HO_3, HB⟩ := hrel
 cases gk with
 | zero => exact absurd HA.out (by simp [words_parts.l0])
 | succ k1 =>
  have H := HA.out
  clear HA
  simp only [words_parts.l0] at H
  by_cases c4 : x11_1 < (a0.size : Int)
  rotate_left
  ·rw [if_neg c4] at H
   have c4b0 := dF c4
   clear c4
   obtain rfl := Option.some.inj H
   go_wp2
   go_ret
   exact ⟨_, by first | rfl | (simp [errW_none, errW_some] <;> rfl) | (simp [*, errW_none, errW_some] <;> rfl), by (with_reducible repeat (first | apply Kd.R_alloc | apply Kd.R_drewN | apply Kd.R_drew)); exact HO_3.out, bE⟩
  rw [if_pos c4] at H
  have c4b0 := dT c4
  clear c4
  obtain ⟨c5, H⟩ := gp H
  have c5b0 := dT c5
  clear c5
  obtain ⟨c6, H⟩ := gp H
  have c6b0 := dT c6
  clear c6
  obtain ⟨ji8, hji8⟩ : ∃ j_ : Int, (wrap64 ((x3_1.length : Int) - 1)) = j_ := ⟨_, rfl⟩
  rw [hji8] at H
  have hji8w : (IntKind.i64.wrap ((x3_1.length : Int) - 1)) = ji8 := (i64_w _).trans hji8
  obtain ⟨c9, H⟩ := gp H
  have c9b0 := dT c9
  clear c9
  obtain ⟨c10, H⟩ := gp H
  have c10b0 := dT c10
  clear c10
  by_cases c12 : (bt a0 x11_1) = 46
  ·rw [if_pos c12] at H
   obtain ⟨c12b0, c12b1⟩ := eqT c12
   clear c12
   obtain ⟨c13, H⟩ := gp H
   have LMc13 := Aside0.mk c13
   clear c13
   obtain ⟨y114, hy114⟩ : ∃ y_ : List (S98), y_ = (x3_1 ++ [(⟨(⟨#[]⟩ : ByteArray), ((bt a0 x11_1) == 45), false⟩ : S98)]) := ⟨_, rfl⟩
   replace H : (words_parts.l0 k1 a0 y114 (a0.size : Int) (wrap64 (x11_1 + 1))) = some r := by first | (rw [hy114]; with_reducible exact H) | (have H2_ := (Option.bind_some _ _).symm.trans H; rw [hy114]; with_reducible exact H2_) | (have H2_ := (Option.bind_some _ _).symm.trans H; with_reducible exact H2_) | with_reducible exact H | (rw [hy114]; exact H) | exact H
   have Ny114 := Aside0.mk hy114
   clear hy114
   have H' := Aside0.mk H
   clear H
   try go_wp2
   replace HO_3 := Aside0.mk (Kd.R_drew HO_3.out)
   replace HB := Aside0.mk (below_drew1 HB.out)
   have p7 : 0 ≤ (x11_1 : Int) := dA
   have q7 : x11_1 < (a0.size : Int) := dA
   have hx7 := bt_at a0 x11_1
   replace p7 := eq_true p7
   replace q7 := eq_true q7
   obtain ⟨Ao15, co15, eo15⟩ := Kd.R_slice HO_3.out
   (first | subst eo15 | (injection eo15 with f1_ f2_ f3_; have f4_ := f1_.symm; have f5_ := f3_.symm; clear f1_ f2_ f3_; subst f4_; subst f5_))
   have p11 : 0 ≤ ((ji8) : Int) := dA
   have q11 : ((ji8) : Int) < ((x3_1.length : Int) : Int) := dA
   obtain ⟨go11, co11, eo11, gb11, gl11, cl11, HG11⟩ := Kd.R_form HO_3.out (by omega)
   (first | cases eo11 | (injection eo11 with ea_ en_ ec_; (first | subst ea_ | (injection ea_ with ea_; subst ea_)); subst ec_; clear en_))
   have GB11 := Aside0.mk gb11
   have GG11 := Aside0.mk HG11
   clear gb11 gl11 HG11
   obtain ⟨ce11, hcl11, hM11, hcc11, hfr11⟩ := Kd.R_elem HO_3.out z98 ((ji8) : Int) p11 q11
   obtain rfl := k98_openM hM11
   have hx11_0 : World.cell? _ ⟨go11, ((ji8) : Int).toNat * 3, none⟩ = some (.string ((rd_T98 x3_1 (ji8)).f0)) := hcc11 0 _ rfl
   have hx11_1 : World.cell? _ ⟨go11, ((ji8) : Int).toNat * 3 + 1, none⟩ = some (.bool ((rd_T98 x3_1 (ji8)).f1)) := hcc11 1 _ rfl
   have hx11_2 : World.cell? _ ⟨go11, ((ji8) : Int).toNat * 3 + 2, none⟩ = some (.bool ((rd_T98 x3_1 (ji8)).f2)) := hcc11 2 _ rfl
   have hf11_0 : World.frozen? _ ⟨go11, ((ji8) : Int).toNat * 3, none⟩ = false := hfr11 0
   have hf11_1 : World.frozen? _ ⟨go11, ((ji8) : Int).toNat * 3 + 1, none⟩ = false := hfr11 1
   have hf11_2 : World.frozen? _ ⟨go11, ((ji8) : Int).toNat * 3 + 2, none⟩ = false := hfr11 2
   clear hcl11 hcc11 hfr11 hM11
   replace p11 := eq_true p11
   replace q11 := eq_true q11
   refine start_ (n := 10) (S := fun w' => True) (ds := []) #[false, false, false, false, false, false, false, false, false, false] (by kernel_rfl) rfl rfl trivial (fun hHeld => ?_); refine with_tabW words_parts.tab5 words_parts.bits5 (fun HT_ HW_ => ?_)
   generalize wr.drew = w14 at HO_3 HB GG11 hf11_0 hf11_1 hf11_2 hx11_0 hx11_1 hx11_2 hHeld ⊢
   refine pz 0 (some 14) HT_ ?_
   refine pz 1 (some 15) HT_ ?_
   refine pz 3 (some 17) HT_ ?_
   refine pz 4 (some 18) HT_ ?_
   refine pz 5 (some 19) HT_ ?_
   refine pz 6 (some 20) HT_ ?_
   refine pz 7 (some 21) HT_ ?_
   refine tk 2 (some 16) HT_ HW_ hHeld ?_
   refine pz 8 (some 5) HT_ ?_
   refine pz 9 (some 6) HT_ ?_
   refine done_ (done_of HT_.out (by kernel_rfl)) ?_
   try go_wp2_with (first | ((with_reducible refine gate_builtin (b := .append) (xs := #[.tmp 29, .tmp 33]) rfl ?_); at_builtin; refine Kd.R_append k98 (w0 := w) w.heap.size rfl (.tmp 29) (.tmp 33) 93 98 (.agg #[(.string ⟨#[]⟩), (.bool false), (.bool false)]) 24 rfl Tryz.underlying93 info98 rfl (by decide) (by omega) (.slice (some ⟨go11, 0, none⟩) x3_1.length co15) x3_1 (⟨(⟨#[]⟩ : ByteArray), ((bt a0 x11_1) == 45), false⟩ : S98) [.string (⟨#[]⟩ : ByteArray), .bool ((bt a0 x11_1) == 45), .bool false] (fun _ => True) (fun _ => False) rfl rfl ?aP (fun _ hk => hk.elim) ?aF ?aO ?aB ?aS ?aL ?_; (case aP => exact k98_mkM _ _ _ (⟨(⟨#[]⟩ : ByteArray), ((bt a0 x11_1) == 45), false⟩ : S98)); (case aB => exact bE); (case aF => exact (fun _ _ => trivial)); (case aO => exact (kR HO_3)); (case aS => exact (below_size bE)); (case aL => have := LMc13.out; omega); intro v115 w16 ho hb hg hat; rw [← Ny114.out] at ho; replace HB := Aside0.mk (hb); have HO116 := Aside0.mk (ho); clear HO_3; clear ho hb hg hat))
   go_roundg k1
   case measure => have := HK1.out; omega
   case rel => exact ⟨(y114), (wrap64 (x11_1 + 1)), cA, H', ⟨by have := HK1.out; omega⟩, ⟨kR HO116⟩, ⟨bE⟩⟩
  rw [if_neg c12] at H
  obtain ⟨c12b0, c12b1⟩ := eqF c12
  by_cases c17 : (bt a0 x11_1) = 45
  ·rw [if_pos c17] at H
   obtain ⟨c17b0, c17b1⟩ := eqT c17
   clear c17
   obtain ⟨c18, H⟩ := gp H
   have LMc18 := Aside0.mk c18
   clear c18
   obtain ⟨y117, hy117⟩ : ∃ y_ : List (S98), y_ = (x3_1 ++ [(⟨(⟨#[]⟩ : ByteArray), true, false⟩ : S98)]) := ⟨_, rfl⟩
   replace H : (words_parts.l0 k1 a0 y117 (a0.size : Int) (wrap64 (x11_1 + 1))) = some r := by first | (rw [hy117]; with_reducible exact H) | (have H2_ := (Option.bind_some _ _).symm.trans H; rw [hy117]; with_reducible exact H2_) | (have H2_ := (Option.bind_some _ _).symm.trans H; with_reducible exact H2_) | with_reducible exact H | (rw [hy117]; exact H) | exact H
   have Ny117 := Aside0.mk hy117
   clear hy117
   have H' := Aside0.mk H
   clear H
   try go_wp2
   replace HO_3 := Aside0.mk (Kd.R_drew HO_3.out)
   replace HB := Aside0.mk (below_drew1 HB.out)
   have p7 : 0 ≤ (x11_1 : Int) := dA
   have q7 : x11_1 < (a0.size : Int) := dA
   have hx7 := bt_at a0 x11_1
   replace p7 := eq_true p7
   replace q7 := eq_true q7
   obtain ⟨Ao20, co20, eo20⟩ := Kd.R_slice HO_3.out
   (first | subst eo20 | (injection eo20 with f1_ f2_ f3_; have f4_ := f1_.symm; have f5_ := f3_.symm; clear f1_ f2_ f3_; subst f4_; subst f5_))
   have p11 : 0 ≤ ((ji8) : Int) := dA
   have q11 : ((ji8) : Int) < ((x3_1.length : Int) : Int) := dA
   obtain ⟨go11, co11, eo11, gb11, gl11, cl11, HG11⟩ := Kd.R_form HO_3.out (by omega)
   (first | cases eo11 | (injection eo11 with ea_ en_ ec_; (first | subst ea_ | (injection ea_ with ea_; subst ea_)); subst ec_; clear en_))
   have GB11 := Aside0.mk gb11
   have GG11 := Aside0.mk HG11
   clear gb11 gl11 HG11
   obtain ⟨ce11, hcl11, hM11, hcc11, hfr11⟩ := Kd.R_elem HO_3.out z98 ((ji8) : Int) p11 q11
   obtain rfl := k98_openM hM11
   have hx11_0 : World.cell? _ ⟨go11, ((ji8) : Int).toNat * 3, none⟩ = some (.string ((rd_T98 x3_1 (ji8)).f0)) := hcc11 0 _ rfl
   have hx11_1 : World.cell? _ ⟨go11, ((ji8) : Int).toNat * 3 + 1, none⟩ = some (.bool ((rd_T98 x3_1 (ji8)).f1)) := hcc11 1 _ rfl
   have hx11_2 : World.cell? _ ⟨go11, ((ji8) : Int).toNat * 3 + 2, none⟩ = some (.bool ((rd_T98 x3_1 (ji8)).f2)) := hcc11 2 _ rfl
   have hf11_0 : World.frozen? _ ⟨go11, ((ji8) : Int).toNat * 3, none⟩ = false := hfr11 0
   have hf11_1 : World.frozen? _ ⟨go11, ((ji8) : Int).toNat * 3 + 1, none⟩ = false := hfr11 1
   have hf11_2 : World.frozen? _ ⟨go11, ((ji8) : Int).toNat * 3 + 2, none⟩ = false := hfr11 2
   clear hcl11 hcc11 hfr11 hM11
   replace p11 := eq_true p11
   replace q11 := eq_true q11
   refine start_ (n := 10) (S := fun w' => True) (ds := []) #[false, false, false, false, false, false, false, false, false, false] (by kernel_rfl) rfl rfl trivial (fun hHeld => ?_); refine with_tabW words_parts.tab5 words_parts.bits5 (fun HT_ HW_ => ?_)
   generalize wr.drew = w19 at HO_3 HB GG11 hf11_0 hf11_1 hf11_2 hx11_0 hx11_1 hx11_2 hHeld ⊢
   refine pz 0 (some 14) HT_ ?_
   refine pz 1 (some 15) HT_ ?_
   refine pz 3 (some 17) HT_ ?_
   refine pz 4 (some 18) HT_ ?_
   refine pz 5 (some 19) HT_ ?_
   refine pz 6 (some 20) HT_ ?_
   refine pz 7 (some 21) HT_ ?_
   refine tk 2 (some 16) HT_ HW_ hHeld ?_
   refine pz 8 (some 5) HT_ ?_
   refine pz 9 (some 6) HT_ ?_
   refine done_ (done_of HT_.out (by kernel_rfl)) ?_
   try go_wp2_with (first | ((with_reducible refine gate_builtin (b := .append) (xs := #[.tmp 29, .tmp 33]) rfl ?_); at_builtin; refine Kd.R_append k98 (w0 := w) w.heap.size rfl (.tmp 29) (.tmp 33) 93 98 (.agg #[(.string ⟨#[]⟩), (.bool false), (.bool false)]) 24 rfl Tryz.underlying93 info98 rfl (by decide) (by omega) (.slice (some ⟨go11, 0, none⟩) x3_1.length co20) x3_1 (⟨(⟨#[]⟩ : ByteArray), true, false⟩ : S98) [.string (⟨#[]⟩ : ByteArray), .bool true, .bool false] (fun _ => True) (fun _ => False) rfl rfl ?aP (fun _ hk => hk.elim) ?aF ?aO ?aB ?aS ?aL ?_; (case aP => exact k98_mkM _ _ _ (⟨(⟨#[]⟩ : ByteArray), true, false⟩ : S98)); (case aB => exact bE); (case aF => exact (fun _ _ => trivial)); (case aO => exact (kR HO_3)); (case aS => exact (below_size bE)); (case aL => have := LMc18.out; omega); intro v118 w21 ho hb hg hat; rw [← Ny117.out] at ho; replace HB := Aside0.mk (hb); have HO119 := Aside0.mk (ho); clear HO_3; clear ho hb hg hat))
   go_roundg k1
   case measure => have := HK1.out; omega
   case rel => exact ⟨(y117), (wrap64 (x11_1 + 1)), cA, H', ⟨by have := HK1.out; omega⟩, ⟨kR HO119⟩, ⟨bE⟩⟩
  rw [if_neg c17] at H
  obtain ⟨c17b0, c17b1⟩ := eqF c17
  by_cases c22 : ((rd_T98 x3_1 (ji8)).f0).toList = ([] : List UInt8)
  ·rw [if_pos c22] at H
   obtain ⟨c22b0, c22b1⟩ := eqT c22
   (try (have c22b2 : (((rd_T98 x3_1 (ji8)).f0).toList).isEmpty = true := by simpa using c22))
   clear c22
   obtain ⟨y122, hy122⟩ : ∃ y_ : List Int, y_ = (([bt a0 x11_1] : List Int)) := ⟨_, rfl⟩
   replace H : (if ((rd_T98 x3_1 (ji8)).f0).size + (strOfNums y122).size ≤ 9223372036854775807 then (words_parts.l0 k1 a0 (x3_1.set ((ji8) : Int).toNat (⟨((rd_T98 x3_1 (ji8)).f0) ++ (strOfNums y122), (rd_T98 x3_1 (ji8)).f1, (rd_T98 x3_1 (ji8)).f2⟩ : S98)) (a0.size : Int) (wrap64 (x11_1 + 1))) else (none)) = some r := by first | (rw [hy122]; with_reducible exact H) | (have H2_ := (Option.bind_some _ _).symm.trans H; rw [hy122]; with_reducible exact H2_) | (have H2_ := (Option.bind_some _ _).symm.trans H; with_reducible exact H2_) | with_reducible exact H | (rw [hy122]; exact H) | exact H
   have Ny122 := Aside0.mk hy122
   clear hy122
   obtain ⟨c23, H⟩ := gp H
   have c23b0 := eq_true c23
   have c23b1 := dT c23
   try have c23b2 : (9223372036854775807 < ((rd_T98 x3_1 (ji8)).f0).size + (strOfNums y122).size) = False := eq_false (Nat.not_lt.2 c23)
   obtain ⟨y125, hy125⟩ : ∃ y_ : List (S98), y_ = (x3_1.set ((ji8) : Int).toNat (⟨((rd_T98 x3_1 (ji8)).f0) ++ (strOfNums y122), (rd_T98 x3_1 (ji8)).f1, (rd_T98 x3_1 (ji8)).f2⟩ : S98)) := ⟨_, rfl⟩
   replace H : (words_parts.l0 k1 a0 y125 (a0.size : Int) (wrap64 (x11_1 + 1))) = some r := by first | (rw [hy125]; with_reducible exact H) | (have H2_ := (Option.bind_some _ _).symm.trans H; rw [hy125]; with_reducible exact H2_) | (have H2_ := (Option.bind_some _ _).symm.trans H; with_reducible exact H2_) | with_reducible exact H | (rw [hy125]; exact H) | exact H
   have Ny125 := Aside0.mk hy125
   clear hy125
   have H' := Aside0.mk H
   clear H
   try go_wp2
   replace HO_3 := Aside0.mk (Kd.R_drew HO_3.out)
   replace HB := Aside0.mk (below_drew1 HB.out)
   have p7 : 0 ≤ (x11_1 : Int) := dA
   have q7 : x11_1 < (a0.size : Int) := dA
   have hx7 := bt_at a0 x11_1
   replace p7 := eq_true p7
   replace q7 := eq_true q7
   obtain ⟨Ao26, co26, eo26⟩ := Kd.R_slice HO_3.out
   (first | subst eo26 | (injection eo26 with f1_ f2_ f3_; have f4_ := f1_.symm; have f5_ := f3_.symm; clear f1_ f2_ f3_; subst f4_; subst f5_))
   have p11 : 0 ≤ ((ji8) : Int) := dA
   have q11 : ((ji8) : Int) < ((x3_1.length : Int) : Int) := dA
   obtain ⟨go11, co11, eo11, gb11, gl11, cl11, HG11⟩ := Kd.R_form HO_3.out (by omega)
   (first | cases eo11 | (injection eo11 with ea_ en_ ec_; (first | subst ea_ | (injection ea_ with ea_; subst ea_)); subst ec_; clear en_))
   have GB11 := Aside0.mk gb11
   have GG11 := Aside0.mk HG11
   clear gb11 gl11 HG11
   obtain ⟨ce11, hcl11, hM11, hcc11, hfr11⟩ := Kd.R_elem HO_3.out z98 ((ji8) : Int) p11 q11
   obtain rfl := k98_openM hM11
   have hx11_0 : World.cell? _ ⟨go11, ((ji8) : Int).toNat * 3, none⟩ = some (.string ((rd_T98 x3_1 (ji8)).f0)) := hcc11 0 _ rfl
   have hx11_1 : World.cell? _ ⟨go11, ((ji8) : Int).toNat * 3 + 1, none⟩ = some (.bool ((rd_T98 x3_1 (ji8)).f1)) := hcc11 1 _ rfl
   have hx11_2 : World.cell? _ ⟨go11, ((ji8) : Int).toNat * 3 + 2, none⟩ = some (.bool ((rd_T98 x3_1 (ji8)).f2)) := hcc11 2 _ rfl
   have hf11_0 : World.frozen? _ ⟨go11, ((ji8) : Int).toNat * 3, none⟩ = false := hfr11 0
   have hf11_1 : World.frozen? _ ⟨go11, ((ji8) : Int).toNat * 3 + 1, none⟩ = false := hfr11 1
   have hf11_2 : World.frozen? _ ⟨go11, ((ji8) : Int).toNat * 3 + 2, none⟩ = false := hfr11 2
   clear hcl11 hcc11 hfr11 hM11
   replace p11 := eq_true p11
   replace q11 := eq_true q11
   refine start_ (n := 10) (S := fun w' => True) (ds := []) #[false, false, false, false, false, false, false, false, false, false] (by kernel_rfl) rfl rfl trivial (fun hHeld => ?_); refine with_tabW words_parts.tab5 words_parts.bits5 (fun HT_ HW_ => ?_)
   generalize wr.drew = w25 at HO_3 HB GG11 hf11_0 hf11_1 hf11_2 hx11_0 hx11_1 hx11_2 hHeld ⊢
   refine pz 0 (some 14) HT_ ?_
   refine pz 1 (some 15) HT_ ?_
   refine pz 3 (some 17) HT_ ?_
   refine pz 4 (some 18) HT_ ?_
   refine pz 5 (some 19) HT_ ?_
   refine pz 6 (some 20) HT_ ?_
   refine pz 7 (some 21) HT_ ?_
   refine tk 2 (some 16) HT_ HW_ hHeld ?_
   refine pz 8 (some 5) HT_ ?_
   refine pz 9 (some 6) HT_ ?_
   refine done_ (done_of HT_.out (by kernel_rfl)) ?_
   try go_wp2
   replace HO_3 := Aside0.mk (Kd.R_drew HO_3.out)
   replace HB := Aside0.mk (below_drew1 HB.out)
   have p120 : 0 ≤ ((ji8) : Int) := dA
   have q120 : (ji8) < (x3_1.length : Int) := dA
   obtain ⟨ad120, e120, hx120_0, hx120_1, hx120_2⟩ := at_T98 (Kd.R_reads' HO_3.out).2.2 (ji8) p120 q120
   obtain rfl : (⟨go11, 0, none⟩ : Addr) = ad120 := (by injection e120)
   (first | simp only [add_plain] at hx120_0 | simp only [add_at] at hx120_0 | simp only [Addr.add, Nat.zero_add] at hx120_0 | skip)
   (first | simp only [add_plain] at hx120_1 | simp only [add_at] at hx120_1 | simp only [Addr.add, Nat.zero_add] at hx120_1 | skip)
   (first | simp only [add_plain] at hx120_2 | simp only [add_at] at hx120_2 | simp only [Addr.add, Nat.zero_add] at hx120_2 | skip)
   replace p120 := eq_true p120
   replace q120 := eq_true q120
   refine start_ (n := 16) (S := fun w' => w'.cell? ⟨go11, ((ji8)).toNat * 3, none⟩ = some (.string ((rd_T98 x3_1 (ji8)).f0)) ∧ w'.cell? ⟨go11, ((ji8)).toNat * 3 + 1, none⟩ = some (.bool ((rd_T98 x3_1 (ji8)).f1)) ∧ w'.cell? ⟨go11, ((ji8)).toNat * 3 + 2, none⟩ = some (.bool ((rd_T98 x3_1 (ji8)).f2))) (ds := []) #[false, false, false, false, false, false, false, false, false, false, false, false, false, false, false, false] (by kernel_rfl) rfl rfl ⟨hx120_0, hx120_1, hx120_2⟩ (fun hHeld => ?_); refine with_tabW words_parts.tab8 words_parts.bits8 (fun HT_ HW_ => ?_)
   generalize w25.drew = w27 at HO_3 HB hx120_0 hx120_1 hx120_2 hHeld ⊢
   refine pz 0 (some 36) HT_ ?_
   refine pz 1 (some 37) HT_ ?_
   refine pz 2 (some 38) HT_ ?_
   refine tm 3 (some 39) HT_ HW_ hHeld ?_
   refine pz 4 (some 40) HT_ ?_
   refine pz 5 (some 41) HT_ ?_
   refine pu 6 (some 42) HT_ ?_
   refine pu 7 (some 43) HT_ ?_
   refine pu 8 (some 44) HT_ ?_
   refine pu 9 (some 45) HT_ ?_
   refine pu 10 (some 46) HT_ ?_
   refine pu 11 (some 47) HT_ ?_
   refine pu 12 (some 48) HT_ ?_
   refine pu 13 (some 49) HT_ ?_
   refine pz 14 (some 50) HT_ ?_
   refine pz 15 (some 35) HT_ ?_
   refine done_ (done_of HT_.out (by kernel_rfl)) ?_
   try go_wp2
   replace HO_3 := Aside0.mk (Kd.R_drew HO_3.out)
   replace HB := Aside0.mk (below_drew1 HB.out)
   have p121 : 0 ≤ ((ji8) : Int) := dA
   have q121 : (ji8) < (x3_1.length : Int) := dA
   obtain ⟨ad121, e121, hx121_0, hx121_1, hx121_2⟩ := at_T98 (Kd.R_reads' HO_3.out).2.2 (ji8) p121 q121
   obtain rfl : (⟨go11, 0, none⟩ : Addr) = ad121 := (by injection e121)
   (first | simp only [add_plain] at hx121_0 | simp only [add_at] at hx121_0 | simp only [Addr.add, Nat.zero_add] at hx121_0 | skip)
   (first | simp only [add_plain] at hx121_1 | simp only [add_at] at hx121_1 | simp only [Addr.add, Nat.zero_add] at hx121_1 | skip)
   (first | simp only [add_plain] at hx121_2 | simp only [add_at] at hx121_2 | simp only [Addr.add, Nat.zero_add] at hx121_2 | skip)
   replace p121 := eq_true p121
   replace q121 := eq_true q121
   refine start_ (n := 11) (S := fun w' => w'.cell? ⟨go11, ((ji8)).toNat * 3, none⟩ = some (.string ((rd_T98 x3_1 (ji8)).f0)) ∧ w'.cell? ⟨go11, ((ji8)).toNat * 3 + 1, none⟩ = some (.bool ((rd_T98 x3_1 (ji8)).f1)) ∧ w'.cell? ⟨go11, ((ji8)).toNat * 3 + 2, none⟩ = some (.bool ((rd_T98 x3_1 (ji8)).f2))) (ds := [10]) #[false, false, false, false, false, false, false, false, false, false, false] (by kernel_rfl) rfl rfl ⟨hx121_0, hx121_1, hx121_2⟩ (fun hHeld => ?_); refine with_tabW words_parts.tab12 words_parts.bits12 (fun HT_ HW_ => ?_)
   generalize w27.drew = w28 at HO_3 HB hx121_0 hx121_1 hx121_2 hHeld ⊢
   refine pz 0 (some 65) HT_ ?_
   refine pz 1 (some 66) HT_ ?_
   refine pz 2 (some 67) HT_ ?_
   refine pz 4 (some 69) HT_ ?_
   refine tm 3 (some 68) HT_ HW_ hHeld ?_
   refine on 5 (some 70) HT_ (fun K hK => ?_)
   refine Kd.R_lit_step (Kd.int .u8) _ 5 ?hg (N := 70) ?hd (xs := ([bt a0 x11_1] : List Int)) (inner := [.int .u8 (bt a0 x11_1)]) (ok := fun _ => True) (okp := fun _ => True) ?hr ?hp (fun _ hk => hk) trivial (Below.refl _ _) (Nat.le_refl _) (by simp) ?_; (case hd => rfl); (case hg => rfl); (case hr => first | (go_simp; done) | (go_simp; rfl)); (case hp => exact (Reps.one (show Kd.M (Kd.int .u8) _ _ _ (bt a0 x11_1) [.int .u8 (bt a0 x11_1)] from rfl) (Reps.none _ _)))
   intro v123 w29 ho30 hb hg_ hnew_
   have HS0_ := (hb.cell (World.block_lt_of_cell? _ _ (hHeld.1))).trans (hHeld.1)
   have HS1_ := (hb.cell (World.block_lt_of_cell? _ _ (hHeld.2.1))).trans (hHeld.2.1)
   have HS2_ := (hb.cell (World.block_lt_of_cell? _ _ (hHeld.2.2))).trans (hHeld.2.2)
   clear hg_ hnew_
   (first | rw [← Ny122.out] at ho30 | (simp only [Int.reduceToNat] at ho30; rw [← Ny122.out] at ho30))
   replace HO_3 := rB HO_3 hb
   have HO124 := Aside0.mk (Kd.R_lower ho30 (below_size bE))
   replace HB := sB hb
   clear hb ho30
   have p24 : 0 ≤ ((ji8) : Int) := dA
   have q24 : ((ji8) : Int) < ((x3_1.length : Int) : Int) := dA
   obtain ⟨ce24, hcl24, hM24, hcc24, hfr24⟩ := Kd.R_elem HO_3.out z98 ((ji8) : Int) p24 q24
   obtain rfl := k98_openM hM24
   have hx24_0 : World.cell? _ ⟨go11, ((ji8) : Int).toNat * 3, none⟩ = some (.string ((rd_T98 x3_1 (ji8)).f0)) := hcc24 0 _ rfl
   have hx24_1 : World.cell? _ ⟨go11, ((ji8) : Int).toNat * 3 + 1, none⟩ = some (.bool ((rd_T98 x3_1 (ji8)).f1)) := hcc24 1 _ rfl
   have hx24_2 : World.cell? _ ⟨go11, ((ji8) : Int).toNat * 3 + 2, none⟩ = some (.bool ((rd_T98 x3_1 (ji8)).f2)) := hcc24 2 _ rfl
   have hf24_0 : World.frozen? _ ⟨go11, ((ji8) : Int).toNat * 3, none⟩ = false := hfr24 0
   have hf24_1 : World.frozen? _ ⟨go11, ((ji8) : Int).toNat * 3 + 1, none⟩ = false := hfr24 1
   have hf24_2 : World.frozen? _ ⟨go11, ((ji8) : Int).toNat * 3 + 2, none⟩ = false := hfr24 2
   clear hcl24 hcc24 hfr24 hM24
   replace p24 := eq_true p24
   replace q24 := eq_true q24
   obtain ⟨ce32, hcl32, hM32, hcc32, hfr32⟩ := Kd.R_elem HO_3.out z98 ((ji8) : Int) (dA) (by have h_ : ((ji8) : Int) < ((x3_1.length : Int) : Int) := dA; first | exact h_ | (have e_ := (Kd.R_reads' HO_3.out).1; omega) | simpa using h_)
   obtain rfl := k98_openM hM32
   have HP32 := (Kd.R_seg HO_3.out ((ji8) : Int) (dA) (by have h_ : ((ji8) : Int) < ((x3_1.length : Int) : Int) := dA; first | exact h_ | (have e_ := (Kd.R_reads' HO_3.out).1; omega) | simpa using h_) (seg := [.string (((rd_T98 x3_1 (ji8)).f0) ++ (strOfNums y122))]) (j := 0) hcl32 hcc32 (show 1 ≤ 3 from by decide) (x' := (⟨((rd_T98 x3_1 (ji8)).f0) ++ (strOfNums y122), (rd_T98 x3_1 (ji8)).f1, (rd_T98 x3_1 (ji8)).f2⟩ : S98)) (k98_mkM _ _ _ (⟨((rd_T98 x3_1 (ji8)).f0) ++ (strOfNums y122), (rd_T98 x3_1 (ji8)).f1, (rd_T98 x3_1 (ji8)).f2⟩ : S98) ) (fun _ hk => hk)).1
   rw [← Ny125.out] at HP32
   have HQ32 := Aside0.mk HP32
   clear hcl32 hcc32 hfr32 hM32 HP32
   refine hK.out _ _ ⟨HS0_, HS1_, HS2_⟩ (fun hHeld => ?_)
   clear hK K
   refine nz (some 70) ?_
   refine on 6 (some 71) HT_ (fun K hK => ?_)
   have hcv31 := own_string (P := Tryz.prog) Tryz.underlying60 Tryz.underlying5 Tryz.underlying9 (Kd.own_of_R HO124.out)
   refine value_ (w1 := ?_) (v := ?_) (by rfl) rfl ?_ ?_
   rotate_left 2
   ·go_simp
    constructor
    ·rfl
    ·rfl
   clear hcv31
   refine hK.out _ _ ⟨hHeld.1, hHeld.2.1, hHeld.2.2⟩ (fun hHeld => ?_)
   clear hK K
   refine nz (some 71) ?_
   refine pz 7 (some 72) HT_ ?_
   refine pz 8 (some 73) HT_ ?_
   refine pz 9 (some 74) HT_ ?_
   refine last_ (i := 10) (N := none) #[true, true, true, true, true, true, true, true, true, true, true] rfl rfl (one_of HT_.out (by kernel_rfl)) (by decide) (fun K hK => ?_)
   refine skip_ (w1 := ?_) (by rfl) rfl ?_ ?_
   rotate_left
   ·go_simp
    rfl
   refine hK.out _ _ ?_
   clear hK K
   refine done_ (done_of HT_.out (by kernel_rfl)) ?_
   try go_wp2
   go_roundg k1
   case measure => have := HK1.out; omega
   case rel => exact ⟨(y125), (wrap64 (x11_1 + 1)), cA, H', ⟨by have := HK1.out; omega⟩, ⟨by (with_reducible repeat (first | apply Kd.R_alloc | apply Kd.R_drewN | apply Kd.R_drew)); exact HQ32.out⟩, ⟨by repeat (first | (with_reducible first | exact HB.out | apply below_alloc | apply pw_below_drewN | apply below_drew1 | refine below_set ?_ GB11.out) | exact HB.out)⟩⟩
  rw [if_neg c22] at H
  obtain ⟨c22b0, c22b1⟩ := eqF c22
  (try (have c22b2 : (((rd_T98 x3_1 (ji8)).f0).toList).isEmpty = false := by simpa using c22))
  replace H := bi H
  obtain ⟨t126, A330, H⟩ := H
  try dsimp only at H
  have A33 := Aside0.mk A330
  clear A330
  obtain ⟨ji34, hji34⟩ : ∃ j_ : Int, (wrap64 (x11_1 - 1)) = j_ := ⟨_, rfl⟩
  rw [hji34] at H
  (try rw [hji34] at A33)
  have hji34w : (IntKind.i64.wrap (x11_1 - 1)) = ji34 := (i64_w _).trans hji34
  obtain ⟨c35, H⟩ := gp H
  have c35b0 := dT c35
  clear c35
  obtain ⟨c36, H⟩ := gp H
  have c36b0 := dT c36
  clear c36
  replace H := bi H
  obtain ⟨t127, A380, H⟩ := H
  try dsimp only at H
  have A38 := Aside0.mk A380
  clear A380
  by_cases c39 : (t126 != t127) = true
  rotate_left
  ·rw [if_neg c39] at H
   have c39b0 : (t126 != t127) = false := by simpa using c39
   (try (have c39b1 : decide (t126 = t127) = true := by simpa using c39))
   (try (have c39b2 : (t126 == t127) = true := by simpa using c39))
   clear c39
   obtain ⟨y139, hy139⟩ : ∃ y_ : List Int, y_ = (([bt a0 x11_1] : List Int)) := ⟨_, rfl⟩
   replace H : (if ((rd_T98 x3_1 (ji8)).f0).size + (strOfNums y139).size ≤ 9223372036854775807 then (words_parts.l0 k1 a0 (x3_1.set ((ji8) : Int).toNat (⟨((rd_T98 x3_1 (ji8)).f0) ++ (strOfNums y139), (rd_T98 x3_1 (ji8)).f1, (rd_T98 x3_1 (ji8)).f2⟩ : S98)) (a0.size : Int) (wrap64 (x11_1 + 1))) else (none)) = some r := by first | (rw [hy139]; with_reducible exact H) | (have H2_ := (Option.bind_some _ _).symm.trans H; rw [hy139]; with_reducible exact H2_) | (have H2_ := (Option.bind_some _ _).symm.trans H; with_reducible exact H2_) | with_reducible exact H | (rw [hy139]; exact H) | exact H
   have Ny139 := Aside0.mk hy139
   clear hy139
   obtain ⟨c61, H⟩ := gp H
   have c61b0 := eq_true c61
   have c61b1 := dT c61
   try have c61b2 : (9223372036854775807 < ((rd_T98 x3_1 (ji8)).f0).size + (strOfNums y139).size) = False := eq_false (Nat.not_lt.2 c61)
   obtain ⟨y142, hy142⟩ : ∃ y_ : List (S98), y_ = (x3_1.set ((ji8) : Int).toNat (⟨((rd_T98 x3_1 (ji8)).f0) ++ (strOfNums y139), (rd_T98 x3_1 (ji8)).f1, (rd_T98 x3_1 (ji8)).f2⟩ : S98)) := ⟨_, rfl⟩
   replace H : (words_parts.l0 k1 a0 y142 (a0.size : Int) (wrap64 (x11_1 + 1))) = some r := by first | (rw [hy142]; with_reducible exact H) | (have H2_ := (Option.bind_some _ _).symm.trans H; rw [hy142]; with_reducible exact H2_) | (have H2_ := (Option.bind_some _ _).symm.trans H; with_reducible exact H2_) | with_reducible exact H | (rw [hy142]; exact H) | exact H
   have Ny142 := Aside0.mk hy142
   clear hy142
   have H' := Aside0.mk H
   clear H
   try go_wp2
   replace HO_3 := Aside0.mk (Kd.R_drew HO_3.out)
   replace HB := Aside0.mk (below_drew1 HB.out)
   have p7 : 0 ≤ (x11_1 : Int) := dA
   have q7 : x11_1 < (a0.size : Int) := dA
   have hx7 := bt_at a0 x11_1
   replace p7 := eq_true p7
   replace q7 := eq_true q7
   obtain ⟨Ao64, co64, eo64⟩ := Kd.R_slice HO_3.out
   (first | subst eo64 | (injection eo64 with f1_ f2_ f3_; have f4_ := f1_.symm; have f5_ := f3_.symm; clear f1_ f2_ f3_; subst f4_; subst f5_))
   have p11 : 0 ≤ ((ji8) : Int) := dA
   have q11 : ((ji8) : Int) < ((x3_1.length : Int) : Int) := dA
   obtain ⟨go11, co11, eo11, gb11, gl11, cl11, HG11⟩ := Kd.R_form HO_3.out (by omega)
   (first | cases eo11 | (injection eo11 with ea_ en_ ec_; (first | subst ea_ | (injection ea_ with ea_; subst ea_)); subst ec_; clear en_))
   have GB11 := Aside0.mk gb11
   have GG11 := Aside0.mk HG11
   clear gb11 gl11 HG11
   obtain ⟨ce11, hcl11, hM11, hcc11, hfr11⟩ := Kd.R_elem HO_3.out z98 ((ji8) : Int) p11 q11
   obtain rfl := k98_openM hM11
   have hx11_0 : World.cell? _ ⟨go11, ((ji8) : Int).toNat * 3, none⟩ = some (.string ((rd_T98 x3_1 (ji8)).f0)) := hcc11 0 _ rfl
   have hx11_1 : World.cell? _ ⟨go11, ((ji8) : Int).toNat * 3 + 1, none⟩ = some (.bool ((rd_T98 x3_1 (ji8)).f1)) := hcc11 1 _ rfl
   have hx11_2 : World.cell? _ ⟨go11, ((ji8) : Int).toNat * 3 + 2, none⟩ = some (.bool ((rd_T98 x3_1 (ji8)).f2)) := hcc11 2 _ rfl
   have hf11_0 : World.frozen? _ ⟨go11, ((ji8) : Int).toNat * 3, none⟩ = false := hfr11 0
   have hf11_1 : World.frozen? _ ⟨go11, ((ji8) : Int).toNat * 3 + 1, none⟩ = false := hfr11 1
   have hf11_2 : World.frozen? _ ⟨go11, ((ji8) : Int).toNat * 3 + 2, none⟩ = false := hfr11 2
   clear hcl11 hcc11 hfr11 hM11
   replace p11 := eq_true p11
   replace q11 := eq_true q11
   refine start_ (n := 10) (S := fun w' => True) (ds := []) #[false, false, false, false, false, false, false, false, false, false] (by kernel_rfl) rfl rfl trivial (fun hHeld => ?_); refine with_tabW words_parts.tab5 words_parts.bits5 (fun HT_ HW_ => ?_)
   generalize wr.drew = w63 at HO_3 HB GG11 hf11_0 hf11_1 hf11_2 hx11_0 hx11_1 hx11_2 hHeld ⊢
   refine pz 0 (some 14) HT_ ?_
   refine pz 1 (some 15) HT_ ?_
   refine pz 3 (some 17) HT_ ?_
   refine pz 4 (some 18) HT_ ?_
   refine pz 5 (some 19) HT_ ?_
   refine pz 6 (some 20) HT_ ?_
   refine pz 7 (some 21) HT_ ?_
   refine tk 2 (some 16) HT_ HW_ hHeld ?_
   refine pz 8 (some 5) HT_ ?_
   refine pz 9 (some 6) HT_ ?_
   refine done_ (done_of HT_.out (by kernel_rfl)) ?_
   try go_wp2
   replace HO_3 := Aside0.mk (Kd.R_drew HO_3.out)
   replace HB := Aside0.mk (below_drew1 HB.out)
   have p120 : 0 ≤ ((ji8) : Int) := dA
   have q120 : (ji8) < (x3_1.length : Int) := dA
   obtain ⟨ad120, e120, hx120_0, hx120_1, hx120_2⟩ := at_T98 (Kd.R_reads' HO_3.out).2.2 (ji8) p120 q120
   obtain rfl : (⟨go11, 0, none⟩ : Addr) = ad120 := (by injection e120)
   (first | simp only [add_plain] at hx120_0 | simp only [add_at] at hx120_0 | simp only [Addr.add, Nat.zero_add] at hx120_0 | skip)
   (first | simp only [add_plain] at hx120_1 | simp only [add_at] at hx120_1 | simp only [Addr.add, Nat.zero_add] at hx120_1 | skip)
   (first | simp only [add_plain] at hx120_2 | simp only [add_at] at hx120_2 | simp only [Addr.add, Nat.zero_add] at hx120_2 | skip)
   replace p120 := eq_true p120
   replace q120 := eq_true q120
   have p37 : 0 ≤ ((ji34) : Int) := dA
   have q37 : (ji34) < (a0.size : Int) := dA
   have hx37 := bt_at a0 (ji34)
   replace p37 := eq_true p37
   replace q37 := eq_true q37
   refine start_ (n := 16) (S := fun w' => w'.cell? ⟨go11, ((ji8)).toNat * 3, none⟩ = some (.string ((rd_T98 x3_1 (ji8)).f0)) ∧ w'.cell? ⟨go11, ((ji8)).toNat * 3 + 1, none⟩ = some (.bool ((rd_T98 x3_1 (ji8)).f1)) ∧ w'.cell? ⟨go11, ((ji8)).toNat * 3 + 2, none⟩ = some (.bool ((rd_T98 x3_1 (ji8)).f2))) (ds := []) #[false, false, false, false, false, false, false, false, false, false, false, false, false, false, false, false] (by kernel_rfl) rfl rfl ⟨hx120_0, hx120_1, hx120_2⟩ (fun hHeld => ?_); refine with_tabW words_parts.tab8 words_parts.bits8 (fun HT_ HW_ => ?_)
   generalize w63.drew = w65 at HO_3 HB hx120_0 hx120_1 hx120_2 hHeld ⊢
   refine pz 0 (some 36) HT_ ?_
   refine pz 1 (some 37) HT_ ?_
   refine pz 2 (some 38) HT_ ?_
   refine tm 3 (some 39) HT_ HW_ hHeld ?_
   refine pz 4 (some 40) HT_ ?_
   refine pz 5 (some 41) HT_ ?_
   refine pz 6 (some 42) HT_ ?_
   refine pz 8 (some 44) HT_ ?_
   refine pz 9 (some 45) HT_ ?_
   refine pz 10 (some 46) HT_ ?_
   refine tm 11 (some 47) HT_ HW_ hHeld ?_
   refine on 7 (some 43) HT_ (fun K hK => ?_)
   refine goes_ Tryz.func92 (by kernel_rfl) rfl #[.int .u8 (bt a0 x11_1)] (by rfl) rfl rfl mA ?_
   with_reducible refine (chars_Digit.calls (bt a0 x11_1) t126 _ (gS HG) A33.out).mono ?_
   rintro e w' ⟨rfl, ⟨nd, rfl⟩⟩
   refine ⟨_, rfl, ?_⟩
   refine hK.out _ _ ⟨hHeld.1, hHeld.2.1, hHeld.2.2⟩ (fun hHeld => ?_)
   clear hK K
   refine nz (some 43) ?_
   refine on 12 (some 48) HT_ (fun K hK => ?_)
   refine goes_ Tryz.func92 (by kernel_rfl) rfl #[.int .u8 (bt a0 (ji34))] (by rfl) rfl rfl (by (try simp only [List.map_toArray, List.map_cons, List.map_nil]); first | done | (simp only [hji34]; rfl) | rfl | (simp only [List.length_drop, List.length_take]; rfl)) ?_
   with_reducible refine (chars_Digit.calls (bt a0 (ji34)) t127 _ (gS HG) A38.out).mono ?_
   rintro e w' ⟨rfl, ⟨nd, rfl⟩⟩
   refine ⟨_, rfl, ?_⟩
   refine hK.out _ _ ⟨hHeld.1, hHeld.2.1, hHeld.2.2⟩ (fun hHeld => ?_)
   clear hK K
   refine nz (some 48) ?_
   refine pz 13 (some 49) HT_ ?_
   refine pz 14 (some 50) HT_ ?_
   refine pz 15 (some 35) HT_ ?_
   refine done_ (done_of HT_.out (by kernel_rfl)) ?_
   try go_wp2
   (try ((try simp only [World.drewN_drewN]); (first | generalize hq_ : World.drewN w65 _ = w65 | (rw [drewN_self w65]; generalize hq_ : World.drewN w65 _ = w65)); have n0_ : Aside0 (Kd.R k98 98 w65 w.heap.size (fun _ => True) (.slice (some ⟨go11, 0, none⟩) x3_1.length co64) x3_1) := ⟨by rw [← hq_]; exact (kR HO_3)⟩; have n1_ : Aside0 (Below w.heap.size w w65) := ⟨by rw [← hq_]; exact bE⟩; clear HO_3 HB hq_; have HO_3 := n0_; have HB := n1_; clear n0_ n1_))
   replace HO_3 := Aside0.mk (Kd.R_drew HO_3.out)
   replace HB := Aside0.mk (below_drew1 HB.out)
   have p138 : 0 ≤ ((ji8) : Int) := dA
   have q138 : (ji8) < (x3_1.length : Int) := dA
   obtain ⟨ad138, e138, hx138_0, hx138_1, hx138_2⟩ := at_T98 (Kd.R_reads' HO_3.out).2.2 (ji8) p138 q138
   obtain rfl : (⟨go11, 0, none⟩ : Addr) = ad138 := (by injection e138)
   (first | simp only [add_plain] at hx138_0 | simp only [add_at] at hx138_0 | simp only [Addr.add, Nat.zero_add] at hx138_0 | skip)
   (first | simp only [add_plain] at hx138_1 | simp only [add_at] at hx138_1 | simp only [Addr.add, Nat.zero_add] at hx138_1 | skip)
   (first | simp only [add_plain] at hx138_2 | simp only [add_at] at hx138_2 | simp only [Addr.add, Nat.zero_add] at hx138_2 | skip)
   replace p138 := eq_true p138
   replace q138 := eq_true q138
   refine start_ (n := 11) (S := fun w' => w'.cell? ⟨go11, ((ji8)).toNat * 3, none⟩ = some (.string ((rd_T98 x3_1 (ji8)).f0)) ∧ w'.cell? ⟨go11, ((ji8)).toNat * 3 + 1, none⟩ = some (.bool ((rd_T98 x3_1 (ji8)).f1)) ∧ w'.cell? ⟨go11, ((ji8)).toNat * 3 + 2, none⟩ = some (.bool ((rd_T98 x3_1 (ji8)).f2))) (ds := [10]) #[false, false, false, false, false, false, false, false, false, false, false] (by kernel_rfl) rfl rfl ⟨hx138_0, hx138_1, hx138_2⟩ (fun hHeld => ?_); refine with_tabW words_parts.tab12 words_parts.bits12 (fun HT_ HW_ => ?_)
   generalize w65.drew = w66 at HO_3 HB hx138_0 hx138_1 hx138_2 hHeld ⊢
   refine pz 0 (some 65) HT_ ?_
   refine pz 1 (some 66) HT_ ?_
   refine pz 2 (some 67) HT_ ?_
   refine pz 4 (some 69) HT_ ?_
   refine tm 3 (some 68) HT_ HW_ hHeld ?_
   refine on 5 (some 70) HT_ (fun K hK => ?_)
   refine Kd.R_lit_step (Kd.int .u8) _ 5 ?hg (N := 70) ?hd (xs := ([bt a0 x11_1] : List Int)) (inner := [.int .u8 (bt a0 x11_1)]) (ok := fun _ => True) (okp := fun _ => True) ?hr ?hp (fun _ hk => hk) trivial (Below.refl _ _) (Nat.le_refl _) (by simp) ?_; (case hd => rfl); (case hg => rfl); (case hr => first | (go_simp; done) | (go_simp; rfl)); (case hp => exact (Reps.one (show Kd.M (Kd.int .u8) _ _ _ (bt a0 x11_1) [.int .u8 (bt a0 x11_1)] from rfl) (Reps.none _ _)))
   intro v140 w67 ho68 hb hg_ hnew_
   have HS0_ := (hb.cell (World.block_lt_of_cell? _ _ (hHeld.1))).trans (hHeld.1)
   have HS1_ := (hb.cell (World.block_lt_of_cell? _ _ (hHeld.2.1))).trans (hHeld.2.1)
   have HS2_ := (hb.cell (World.block_lt_of_cell? _ _ (hHeld.2.2))).trans (hHeld.2.2)
   clear hg_ hnew_
   (first | rw [← Ny139.out] at ho68 | (simp only [Int.reduceToNat] at ho68; rw [← Ny139.out] at ho68))
   replace HO_3 := rB HO_3 hb
   have HO141 := Aside0.mk (Kd.R_lower ho68 (below_size bE))
   replace HB := sB hb
   clear hb ho68
   have p62 : 0 ≤ ((ji8) : Int) := dA
   have q62 : ((ji8) : Int) < ((x3_1.length : Int) : Int) := dA
   obtain ⟨ce62, hcl62, hM62, hcc62, hfr62⟩ := Kd.R_elem HO_3.out z98 ((ji8) : Int) p62 q62
   obtain rfl := k98_openM hM62
   have hx62_0 : World.cell? _ ⟨go11, ((ji8) : Int).toNat * 3, none⟩ = some (.string ((rd_T98 x3_1 (ji8)).f0)) := hcc62 0 _ rfl
   have hx62_1 : World.cell? _ ⟨go11, ((ji8) : Int).toNat * 3 + 1, none⟩ = some (.bool ((rd_T98 x3_1 (ji8)).f1)) := hcc62 1 _ rfl
   have hx62_2 : World.cell? _ ⟨go11, ((ji8) : Int).toNat * 3 + 2, none⟩ = some (.bool ((rd_T98 x3_1 (ji8)).f2)) := hcc62 2 _ rfl
   have hf62_0 : World.frozen? _ ⟨go11, ((ji8) : Int).toNat * 3, none⟩ = false := hfr62 0
   have hf62_1 : World.frozen? _ ⟨go11, ((ji8) : Int).toNat * 3 + 1, none⟩ = false := hfr62 1
   have hf62_2 : World.frozen? _ ⟨go11, ((ji8) : Int).toNat * 3 + 2, none⟩ = false := hfr62 2
   clear hcl62 hcc62 hfr62 hM62
   replace p62 := eq_true p62
   replace q62 := eq_true q62
   obtain ⟨ce70, hcl70, hM70, hcc70, hfr70⟩ := Kd.R_elem HO_3.out z98 ((ji8) : Int) (dA) (by have h_ : ((ji8) : Int) < ((x3_1.length : Int) : Int) := dA; first | exact h_ | (have e_ := (Kd.R_reads' HO_3.out).1; omega) | simpa using h_)
   obtain rfl := k98_openM hM70
   have HP70 := (Kd.R_seg HO_3.out ((ji8) : Int) (dA) (by have h_ : ((ji8) : Int) < ((x3_1.length : Int) : Int) := dA; first | exact h_ | (have e_ := (Kd.R_reads' HO_3.out).1; omega) | simpa using h_) (seg := [.string (((rd_T98 x3_1 (ji8)).f0) ++ (strOfNums y139))]) (j := 0) hcl70 hcc70 (show 1 ≤ 3 from by decide) (x' := (⟨((rd_T98 x3_1 (ji8)).f0) ++ (strOfNums y139), (rd_T98 x3_1 (ji8)).f1, (rd_T98 x3_1 (ji8)).f2⟩ : S98)) (k98_mkM _ _ _ (⟨((rd_T98 x3_1 (ji8)).f0) ++ (strOfNums y139), (rd_T98 x3_1 (ji8)).f1, (rd_T98 x3_1 (ji8)).f2⟩ : S98) ) (fun _ hk => hk)).1
   rw [← Ny142.out] at HP70
   have HQ70 := Aside0.mk HP70
   clear hcl70 hcc70 hfr70 hM70 HP70
   refine hK.out _ _ ⟨HS0_, HS1_, HS2_⟩ (fun hHeld => ?_)
   clear hK K
   refine nz (some 70) ?_
   refine on 6 (some 71) HT_ (fun K hK => ?_)
   have hcv69 := own_string (P := Tryz.prog) Tryz.underlying60 Tryz.underlying5 Tryz.underlying9 (Kd.own_of_R HO141.out)
   refine value_ (w1 := ?_) (v := ?_) (by rfl) rfl ?_ ?_
   rotate_left 2
   ·go_simp
    constructor
    ·rfl
    ·rfl
   clear hcv69
   refine hK.out _ _ ⟨hHeld.1, hHeld.2.1, hHeld.2.2⟩ (fun hHeld => ?_)
   clear hK K
   refine nz (some 71) ?_
   refine pz 7 (some 72) HT_ ?_
   refine pz 8 (some 73) HT_ ?_
   refine pz 9 (some 74) HT_ ?_
   refine last_ (i := 10) (N := none) #[true, true, true, true, true, true, true, true, true, true, true] rfl rfl (one_of HT_.out (by kernel_rfl)) (by decide) (fun K hK => ?_)
   refine skip_ (w1 := ?_) (by rfl) rfl ?_ ?_
   rotate_left
   ·go_simp
    rfl
   refine hK.out _ _ ?_
   clear hK K
   refine done_ (done_of HT_.out (by kernel_rfl)) ?_
   try go_wp2
   go_roundg k1
   case measure => have := HK1.out; omega
   case rel => exact ⟨(y142), (wrap64 (x11_1 + 1)), cA, H', ⟨by have := HK1.out; omega⟩, ⟨by (with_reducible repeat (first | apply Kd.R_alloc | apply Kd.R_drewN | apply Kd.R_drew)); exact HQ70.out⟩, ⟨by repeat (first | (with_reducible first | exact HB.out | apply below_alloc | apply pw_below_drewN | apply below_drew1 | refine below_set ?_ GB11.out) | exact HB.out)⟩⟩
  rw [if_pos c39] at H
  have c39b0 : (t126 != t127) = true := c39
  (try (have c39b1 : decide (t126 = t127) = false := by simpa using c39))
  (try (have c39b2 : (t126 == t127) = false := by simpa using c39))
  (try (have c39b3 : ¬ (t126 = t127) := by simpa using c39))
  clear c39
  replace H := bi H
  obtain ⟨t128, A400, H⟩ := H
  try dsimp only at H
  have A40 := Aside0.mk A400
  clear A400
  obtain ⟨y129, hy129⟩ : ∃ y_ : List (S98), y_ = (x3_1.set ((ji8) : Int).toNat (⟨(rd_T98 x3_1 (ji8)).f0, (rd_T98 x3_1 (ji8)).f1, t128⟩ : S98)) := ⟨_, rfl⟩
  replace H : (if y129.length < 5864062014805 then ((some (y129 ++ [(⟨(⟨#[]⟩ : ByteArray), true, false⟩ : S98)] : List (S98))).bind fun y130 => (if 0 ≤ (wrap64 ((y130.length : Int) - 1)) then (if (wrap64 ((y130.length : Int) - 1)) < (y130.length : Int) then ((some (([bt a0 x11_1] : List Int) : List Int)).bind fun y134 => (if ((rd_T98 y130 (wrap64 ((y130.length : Int) - 1))).f0).size + (strOfNums y134).size ≤ 9223372036854775807 then (words_parts.l0 k1 a0 (y130.set ((wrap64 ((y130.length : Int) - 1)) : Int).toNat (⟨((rd_T98 y130 (wrap64 ((y130.length : Int) - 1))).f0) ++ (strOfNums y134), (rd_T98 y130 (wrap64 ((y130.length : Int) - 1))).f1, (rd_T98 y130 (wrap64 ((y130.length : Int) - 1))).f2⟩ : S98)) (a0.size : Int) (wrap64 (x11_1 + 1))) else (none))) else (none)) else (none))) else (none)) = some r := by first | (rw [hy129]; with_reducible exact H) | (have H2_ := (Option.bind_some _ _).symm.trans H; rw [hy129]; with_reducible exact H2_) | (have H2_ := (Option.bind_some _ _).symm.trans H; with_reducible exact H2_) | with_reducible exact H | (rw [hy129]; exact H) | exact H
  have Ny129 := Aside0.mk hy129
  clear hy129
  obtain ⟨c42, H⟩ := gp H
  have LMc42 := Aside0.mk c42
  clear c42
  obtain ⟨y130, hy130⟩ : ∃ y_ : List (S98), y_ = (y129 ++ [(⟨(⟨#[]⟩ : ByteArray), true, false⟩ : S98)]) := ⟨_, rfl⟩
  replace H : (if 0 ≤ (wrap64 ((y130.length : Int) - 1)) then (if (wrap64 ((y130.length : Int) - 1)) < (y130.length : Int) then ((some (([bt a0 x11_1] : List Int) : List Int)).bind fun y134 => (if ((rd_T98 y130 (wrap64 ((y130.length : Int) - 1))).f0).size + (strOfNums y134).size ≤ 9223372036854775807 then (words_parts.l0 k1 a0 (y130.set ((wrap64 ((y130.length : Int) - 1)) : Int).toNat (⟨((rd_T98 y130 (wrap64 ((y130.length : Int) - 1))).f0) ++ (strOfNums y134), (rd_T98 y130 (wrap64 ((y130.length : Int) - 1))).f1, (rd_T98 y130 (wrap64 ((y130.length : Int) - 1))).f2⟩ : S98)) (a0.size : Int) (wrap64 (x11_1 + 1))) else (none))) else (none)) else (none)) = some r := by first | (rw [hy130]; with_reducible exact H) | (have H2_ := (Option.bind_some _ _).symm.trans H; rw [hy130]; with_reducible exact H2_) | (have H2_ := (Option.bind_some _ _).symm.trans H; with_reducible exact H2_) | with_reducible exact H | (rw [hy130]; exact H) | exact H
  have Ny130 := Aside0.mk hy130
  clear hy130
  obtain ⟨ji43, hji43⟩ : ∃ j_ : Int, (wrap64 ((y130.length : Int) - 1)) = j_ := ⟨_, rfl⟩
  rw [hji43] at H
  (try rw [hji43] at A33)
  (try rw [hji43] at A38)
  (try rw [hji43] at A40)
  have hji43w : (IntKind.i64.wrap ((y130.length : Int) - 1)) = ji43 := (i64_w _).trans hji43
  obtain ⟨c44, H⟩ := gp H
  have c44b0 := dT c44
  clear c44
  obtain ⟨c45, H⟩ := gp H
  have c45b0 := dT c45
  clear c45
  obtain ⟨y134, hy134⟩ : ∃ y_ : List Int, y_ = (([bt a0 x11_1] : List Int)) := ⟨_, rfl⟩
  replace H : (if ((rd_T98 y130 (ji43)).f0).size + (strOfNums y134).size ≤ 9223372036854775807 then (words_parts.l0 k1 a0 (y130.set ((ji43) : Int).toNat (⟨((rd_T98 y130 (ji43)).f0) ++ (strOfNums y134), (rd_T98 y130 (ji43)).f1, (rd_T98 y130 (ji43)).f2⟩ : S98)) (a0.size : Int) (wrap64 (x11_1 + 1))) else (none)) = some r := by first | (rw [hy134]; with_reducible exact H) | (have H2_ := (Option.bind_some _ _).symm.trans H; rw [hy134]; with_reducible exact H2_) | (have H2_ := (Option.bind_some _ _).symm.trans H; with_reducible exact H2_) | with_reducible exact H | (rw [hy134]; exact H) | exact H
  have Ny134 := Aside0.mk hy134
  clear hy134
  obtain ⟨c47, H⟩ := gp H
  have c47b0 := eq_true c47
  have c47b1 := dT c47
  try have c47b2 : (9223372036854775807 < ((rd_T98 y130 (ji43)).f0).size + (strOfNums y134).size) = False := eq_false (Nat.not_lt.2 c47)
  obtain ⟨y137, hy137⟩ : ∃ y_ : List (S98), y_ = (y130.set ((ji43) : Int).toNat (⟨((rd_T98 y130 (ji43)).f0) ++ (strOfNums y134), (rd_T98 y130 (ji43)).f1, (rd_T98 y130 (ji43)).f2⟩ : S98)) := ⟨_, rfl⟩
  replace H : (words_parts.l0 k1 a0 y137 (a0.size : Int) (wrap64 (x11_1 + 1))) = some r := by first | (rw [hy137]; with_reducible exact H) | (have H2_ := (Option.bind_some _ _).symm.trans H; rw [hy137]; with_reducible exact H2_) | (have H2_ := (Option.bind_some _ _).symm.trans H; with_reducible exact H2_) | with_reducible exact H | (rw [hy137]; exact H) | exact H
  have Ny137 := Aside0.mk hy137
  clear hy137
  have H' := Aside0.mk H
  clear H
  try go_wp2
  replace HO_3 := Aside0.mk (Kd.R_drew HO_3.out)
  replace HB := Aside0.mk (below_drew1 HB.out)
  have p7 : 0 ≤ (x11_1 : Int) := dA
  have q7 : x11_1 < (a0.size : Int) := dA
  have hx7 := bt_at a0 x11_1
  replace p7 := eq_true p7
  replace q7 := eq_true q7
  obtain ⟨Ao50, co50, eo50⟩ := Kd.R_slice HO_3.out
  (first | subst eo50 | (injection eo50 with f1_ f2_ f3_; have f4_ := f1_.symm; have f5_ := f3_.symm; clear f1_ f2_ f3_; subst f4_; subst f5_))
  have p11 : 0 ≤ ((ji8) : Int) := dA
  have q11 : ((ji8) : Int) < ((x3_1.length : Int) : Int) := dA
  obtain ⟨go11, co11, eo11, gb11, gl11, cl11, HG11⟩ := Kd.R_form HO_3.out (by omega)
  (first | cases eo11 | (injection eo11 with ea_ en_ ec_; (first | subst ea_ | (injection ea_ with ea_; subst ea_)); subst ec_; clear en_))
  have GB11 := Aside0.mk gb11
  have GG11 := Aside0.mk HG11
  clear gb11 gl11 HG11
  obtain ⟨ce11, hcl11, hM11, hcc11, hfr11⟩ := Kd.R_elem HO_3.out z98 ((ji8) : Int) p11 q11
  obtain rfl := k98_openM hM11
  have hx11_0 : World.cell? _ ⟨go11, ((ji8) : Int).toNat * 3, none⟩ = some (.string ((rd_T98 x3_1 (ji8)).f0)) := hcc11 0 _ rfl
  have hx11_1 : World.cell? _ ⟨go11, ((ji8) : Int).toNat * 3 + 1, none⟩ = some (.bool ((rd_T98 x3_1 (ji8)).f1)) := hcc11 1 _ rfl
  have hx11_2 : World.cell? _ ⟨go11, ((ji8) : Int).toNat * 3 + 2, none⟩ = some (.bool ((rd_T98 x3_1 (ji8)).f2)) := hcc11 2 _ rfl
  have hf11_0 : World.frozen? _ ⟨go11, ((ji8) : Int).toNat * 3, none⟩ = false := hfr11 0
  have hf11_1 : World.frozen? _ ⟨go11, ((ji8) : Int).toNat * 3 + 1, none⟩ = false := hfr11 1
  have hf11_2 : World.frozen? _ ⟨go11, ((ji8) : Int).toNat * 3 + 2, none⟩ = false := hfr11 2
  clear hcl11 hcc11 hfr11 hM11
  replace p11 := eq_true p11
  replace q11 := eq_true q11
  refine start_ (n := 10) (S := fun w' => True) (ds := []) #[false, false, false, false, false, false, false, false, false, false] (by kernel_rfl) rfl rfl trivial (fun hHeld => ?_); refine with_tabW words_parts.tab5 words_parts.bits5 (fun HT_ HW_ => ?_)
  generalize wr.drew = w49 at HO_3 HB GG11 hf11_0 hf11_1 hf11_2 hx11_0 hx11_1 hx11_2 hHeld ⊢
  refine pz 0 (some 14) HT_ ?_
  refine pz 1 (some 15) HT_ ?_
  refine pz 3 (some 17) HT_ ?_
  refine pz 4 (some 18) HT_ ?_
  refine pz 5 (some 19) HT_ ?_
  refine pz 6 (some 20) HT_ ?_
  refine pz 7 (some 21) HT_ ?_
  refine tk 2 (some 16) HT_ HW_ hHeld ?_
  refine pz 8 (some 5) HT_ ?_
  refine pz 9 (some 6) HT_ ?_
  refine done_ (done_of HT_.out (by kernel_rfl)) ?_
  try go_wp2
  replace HO_3 := Aside0.mk (Kd.R_drew HO_3.out)
  replace HB := Aside0.mk (below_drew1 HB.out)
  have p120 : 0 ≤ ((ji8) : Int) := dA
  have q120 : (ji8) < (x3_1.length : Int) := dA
  obtain ⟨ad120, e120, hx120_0, hx120_1, hx120_2⟩ := at_T98 (Kd.R_reads' HO_3.out).2.2 (ji8) p120 q120
  obtain rfl : (⟨go11, 0, none⟩ : Addr) = ad120 := (by injection e120)
  (first | simp only [add_plain] at hx120_0 | simp only [add_at] at hx120_0 | simp only [Addr.add, Nat.zero_add] at hx120_0 | skip)
  (first | simp only [add_plain] at hx120_1 | simp only [add_at] at hx120_1 | simp only [Addr.add, Nat.zero_add] at hx120_1 | skip)
  (first | simp only [add_plain] at hx120_2 | simp only [add_at] at hx120_2 | simp only [Addr.add, Nat.zero_add] at hx120_2 | skip)
  replace p120 := eq_true p120
  replace q120 := eq_true q120
  have p37 : 0 ≤ ((ji34) : Int) := dA
  have q37 : (ji34) < (a0.size : Int) := dA
  have hx37 := bt_at a0 (ji34)
  replace p37 := eq_true p37
  replace q37 := eq_true q37
  refine start_ (n := 16) (S := fun w' => w'.cell? ⟨go11, ((ji8)).toNat * 3, none⟩ = some (.string ((rd_T98 x3_1 (ji8)).f0)) ∧ w'.cell? ⟨go11, ((ji8)).toNat * 3 + 1, none⟩ = some (.bool ((rd_T98 x3_1 (ji8)).f1)) ∧ w'.cell? ⟨go11, ((ji8)).toNat * 3 + 2, none⟩ = some (.bool ((rd_T98 x3_1 (ji8)).f2))) (ds := []) #[false, false, false, false, false, false, false, false, false, false, false, false, false, false, false, false] (by kernel_rfl) rfl rfl ⟨hx120_0, hx120_1, hx120_2⟩ (fun hHeld => ?_); refine with_tabW words_parts.tab8 words_parts.bits8 (fun HT_ HW_ => ?_)
  generalize w49.drew = w51 at HO_3 HB hx120_0 hx120_1 hx120_2 hHeld ⊢
  refine pz 0 (some 36) HT_ ?_
  refine pz 1 (some 37) HT_ ?_
  refine pz 2 (some 38) HT_ ?_
  refine tm 3 (some 39) HT_ HW_ hHeld ?_
  refine pz 4 (some 40) HT_ ?_
  refine pz 5 (some 41) HT_ ?_
  refine pz 6 (some 42) HT_ ?_
  refine pz 8 (some 44) HT_ ?_
  refine pz 9 (some 45) HT_ ?_
  refine pz 10 (some 46) HT_ ?_
  refine tm 11 (some 47) HT_ HW_ hHeld ?_
  refine on 7 (some 43) HT_ (fun K hK => ?_)
  refine goes_ Tryz.func92 (by kernel_rfl) rfl #[.int .u8 (bt a0 x11_1)] (by rfl) rfl rfl mA ?_
  with_reducible refine (chars_Digit.calls (bt a0 x11_1) t126 _ (gS HG) A33.out).mono ?_
  rintro e w' ⟨rfl, ⟨nd, rfl⟩⟩
  refine ⟨_, rfl, ?_⟩
  refine hK.out _ _ ⟨hHeld.1, hHeld.2.1, hHeld.2.2⟩ (fun hHeld => ?_)
  clear hK K
  refine nz (some 43) ?_
  refine on 12 (some 48) HT_ (fun K hK => ?_)
  refine goes_ Tryz.func92 (by kernel_rfl) rfl #[.int .u8 (bt a0 (ji34))] (by rfl) rfl rfl (by (try simp only [List.map_toArray, List.map_cons, List.map_nil]); first | done | (simp only [hji34]; rfl) | rfl | (simp only [List.length_drop, List.length_take]; rfl)) ?_
  with_reducible refine (chars_Digit.calls (bt a0 (ji34)) t127 _ (gS HG) A38.out).mono ?_
  rintro e w' ⟨rfl, ⟨nd, rfl⟩⟩
  refine ⟨_, rfl, ?_⟩
  refine hK.out _ _ ⟨hHeld.1, hHeld.2.1, hHeld.2.2⟩ (fun hHeld => ?_)
  clear hK K
  refine nz (some 48) ?_
  refine pz 13 (some 49) HT_ ?_
  refine pz 14 (some 50) HT_ ?_
  refine pz 15 (some 35) HT_ ?_
  refine done_ (done_of HT_.out (by kernel_rfl)) ?_
  try go_wp2_with (first | (refine gl (some 53) Tryz.func92 #[.int .u8 (bt a0 x11_1)] ?_; (with_reducible refine (chars_Digit.calls (bt a0 x11_1) t128 _ (gS HG) A40.out).mono ?_); rintro e w' ⟨rfl, ⟨nd, rfl⟩⟩; refine ⟨_, rfl, ?_⟩; (try ((try simp only [World.drewN_drewN]); (first | generalize hq_ : World.drewN w51 _ = w51 | (rw [drewN_self w51]; generalize hq_ : World.drewN w51 _ = w51)); have n0_ : Aside0 (Kd.R k98 98 w51 w.heap.size (fun _ => True) (.slice (some ⟨go11, 0, none⟩) x3_1.length co50) x3_1) := ⟨by rw [← hq_]; exact (kR HO_3)⟩; have n1_ : Aside0 (Below w.heap.size w w51) := ⟨by rw [← hq_]; exact bE⟩; clear HO_3 HB hq_; have HO_3 := n0_; have HB := n1_; clear n0_ n1_)); have p41 : 0 ≤ ((ji8) : Int) := dA; have q41 : ((ji8) : Int) < ((x3_1.length : Int) : Int) := dA; obtain ⟨ce41, hcl41, hM41, hcc41, hfr41⟩ := Kd.R_elem HO_3.out z98 ((ji8) : Int) p41 q41; obtain rfl := k98_openM hM41; have hx41_0 : w51.cell? ⟨go11, ((ji8) : Int).toNat * 3, none⟩ = some (.string ((rd_T98 x3_1 (ji8)).f0)) := hcc41 0 _ rfl; have hx41_1 : w51.cell? ⟨go11, ((ji8) : Int).toNat * 3 + 1, none⟩ = some (.bool ((rd_T98 x3_1 (ji8)).f1)) := hcc41 1 _ rfl; have hx41_2 : w51.cell? ⟨go11, ((ji8) : Int).toNat * 3 + 2, none⟩ = some (.bool ((rd_T98 x3_1 (ji8)).f2)) := hcc41 2 _ rfl; have hf41_0 : w51.frozen? ⟨go11, ((ji8) : Int).toNat * 3, none⟩ = false := hfr41 0; have hf41_1 : w51.frozen? ⟨go11, ((ji8) : Int).toNat * 3 + 1, none⟩ = false := hfr41 1; have hf41_2 : w51.frozen? ⟨go11, ((ji8) : Int).toNat * 3 + 2, none⟩ = false := hfr41 2; clear hcl41 hcc41 hfr41 hM41; replace p41 := eq_true p41; replace q41 := eq_true q41; have HX52 := Aside0.mk (show Kd.R k98 98 w51 w.heap.size (fun _ => True) (.slice (some ⟨go11, 0, none⟩) x3_1.length co50) x3_1 from (kR HO_3)); obtain ⟨ce52, hcl52, hM52, hcc52, hfr52⟩ := Kd.R_elem HX52.out z98 ((ji8) : Int) (dA) (by have h_ : ((ji8) : Int) < ((x3_1.length : Int) : Int) := dA; first | exact h_ | (have e_ := (Kd.R_reads' HO_3.out).1; omega) | simpa using h_); obtain rfl := k98_openM hM52; have HP52 := Kd.R_seg HX52.out ((ji8) : Int) (dA) (by have h_ : ((ji8) : Int) < ((x3_1.length : Int) : Int) := dA; first | exact h_ | (have e_ := (Kd.R_reads' HO_3.out).1; omega) | simpa using h_) (seg := [.bool t128]) (j := 2) hcl52 hcc52 (show 3 ≤ 3 from by decide) (x' := (⟨(rd_T98 x3_1 (ji8)).f0, (rd_T98 x3_1 (ji8)).f1, t128⟩ : S98)) (k98_mkM _ _ _ (⟨(rd_T98 x3_1 (ji8)).f0, (rd_T98 x3_1 (ji8)).f1, t128⟩ : S98) ) (fun _ hk => hk); have hx52_2 := hcc52 2 _ rfl; (try simp only [show (k98).sz = 3 from rfl, Nat.mul_one, Nat.add_zero] at hx52_2); have hf52_2 := hfr52 2; (try simp only [show (k98).sz = 3 from rfl, Nat.mul_one, Nat.add_zero] at hf52_2); clear hcl52 hcc52 hfr52 hM52) | ((with_reducible refine gate_store (t := 4) (p := 55) rfl ?_); refine store_event (t := 4) (p := 55) (v := ?vo_w53) (w1 := (w51.setCell ⟨go11, ((ji8) : Int).toNat * 3 + 2, none⟩ (.bool t128))) ?hg ?ho ?hn ?hr ?_; (case ho => rfl); (case hg => rfl); (case hn => rfl); (case hr => first | (go_simp; done) | (go_simp; rfl)); intro w53 hw; have hg : w51.grownBy w53 (some go11) := (by rw [hw]; exact HP52.2); have hp_ : Kd.R k98 98 w53 w.heap.size (fun _ => True) (.slice (some ⟨go11, 0, none⟩) x3_1.length co50) y129 := (by rw [hw, Ny129.out]; exact HP52.1); clear HP52; replace HO_3 := Aside0.mk (hp_); replace HB := Aside0.mk ((by rw [hw]; exact below_set (HB.out) GB11.out : Below w.heap.size w w53)); clear hg hw hp_) | ((with_reducible refine gate_builtin (b := .append) (xs := #[.tmp 56, .tmp 58]) rfl ?_); at_builtin; refine Kd.R_append k98 (w0 := w) w.heap.size rfl (.tmp 56) (.tmp 58) 93 98 (.agg #[(.string ⟨#[]⟩), (.bool false), (.bool false)]) 24 rfl Tryz.underlying93 info98 rfl (by decide) (by omega) (.slice (some ⟨go11, 0, none⟩) x3_1.length co50) y129 (⟨(⟨#[]⟩ : ByteArray), true, false⟩ : S98) [.string (⟨#[]⟩ : ByteArray), .bool true, .bool false] (fun _ => True) (fun _ => False) rfl rfl ?aP (fun _ hk => hk.elim) ?aF ?aO ?aB ?aS ?aL ?_; (case aP => exact k98_mkM _ _ _ (⟨(⟨#[]⟩ : ByteArray), true, false⟩ : S98)); (case aB => exact bE); (case aF => exact (fun _ _ => trivial)); (case aO => exact (kR HO_3)); (case aS => exact (below_size bE)); (case aL => have := LMc42.out; omega); intro v131 w54 ho hb hg hat; rw [← Ny130.out] at ho; replace HB := Aside0.mk (hb); have HO132 := Aside0.mk (ho); clear HO_3; clear ho hb hg hat; obtain ⟨Ao55, co55, eo55⟩ := Kd.R_slice HO132.out; subst eo55; have p46 : 0 ≤ ((ji43) : Int) := dA; have q46 : ((ji43) : Int) < ((y130.length : Int) : Int) := dA; obtain ⟨go46, co46, eo46, gb46, gl46, cl46, HG46⟩ := Kd.R_form HO132.out (by omega); (first | cases eo46 | (injection eo46 with ea_ en_ ec_; (first | subst ea_ | (injection ea_ with ea_; subst ea_)); subst ec_; clear en_)); have GB46 := Aside0.mk gb46; have GG46 := Aside0.mk HG46; clear gb46 gl46 HG46; obtain ⟨ce46, hcl46, hM46, hcc46, hfr46⟩ := Kd.R_elem HO132.out z98 ((ji43) : Int) p46 q46; obtain rfl := k98_openM hM46; have hx46_0 : w54.cell? ⟨go46, ((ji43) : Int).toNat * 3, none⟩ = some (.string ((rd_T98 y130 (ji43)).f0)) := hcc46 0 _ rfl; have hx46_1 : w54.cell? ⟨go46, ((ji43) : Int).toNat * 3 + 1, none⟩ = some (.bool ((rd_T98 y130 (ji43)).f1)) := hcc46 1 _ rfl; have hx46_2 : w54.cell? ⟨go46, ((ji43) : Int).toNat * 3 + 2, none⟩ = some (.bool ((rd_T98 y130 (ji43)).f2)) := hcc46 2 _ rfl; have hf46_0 : w54.frozen? ⟨go46, ((ji43) : Int).toNat * 3, none⟩ = false := hfr46 0; have hf46_1 : w54.frozen? ⟨go46, ((ji43) : Int).toNat * 3 + 1, none⟩ = false := hfr46 1; have hf46_2 : w54.frozen? ⟨go46, ((ji43) : Int).toNat * 3 + 2, none⟩ = false := hfr46 2; clear hcl46 hcc46 hfr46 hM46; replace p46 := eq_true p46; replace q46 := eq_true q46))
  replace HO132 := Aside0.mk (Kd.R_drew HO132.out)
  replace HB := Aside0.mk (below_drew1 HB.out)
  have p133 : 0 ≤ ((ji43) : Int) := dA
  have q133 : (ji43) < (y130.length : Int) := dA
  obtain ⟨ad133, e133, hx133_0, hx133_1, hx133_2⟩ := at_T98 (Kd.R_reads' HO132.out).2.2 (ji43) p133 q133
  obtain rfl : (⟨go46, 0, none⟩ : Addr) = ad133 := (by injection e133)
  (first | simp only [add_plain] at hx133_0 | simp only [add_at] at hx133_0 | simp only [Addr.add, Nat.zero_add] at hx133_0 | skip)
  (first | simp only [add_plain] at hx133_1 | simp only [add_at] at hx133_1 | simp only [Addr.add, Nat.zero_add] at hx133_1 | skip)
  (first | simp only [add_plain] at hx133_2 | simp only [add_at] at hx133_2 | simp only [Addr.add, Nat.zero_add] at hx133_2 | skip)
  replace p133 := eq_true p133
  replace q133 := eq_true q133
  refine start_ (n := 11) (S := fun w' => w'.cell? ⟨go46, ((ji43)).toNat * 3, none⟩ = some (.string ((rd_T98 y130 (ji43)).f0)) ∧ w'.cell? ⟨go46, ((ji43)).toNat * 3 + 1, none⟩ = some (.bool ((rd_T98 y130 (ji43)).f1)) ∧ w'.cell? ⟨go46, ((ji43)).toNat * 3 + 2, none⟩ = some (.bool ((rd_T98 y130 (ji43)).f2))) (ds := [10]) #[false, false, false, false, false, false, false, false, false, false, false] (by kernel_rfl) rfl rfl ⟨hx133_0, hx133_1, hx133_2⟩ (fun hHeld => ?_); refine with_tabW words_parts.tab12 words_parts.bits12 (fun HT_ HW_ => ?_)
  generalize w54.drew = w56 at HO132 HB hx133_0 hx133_1 hx133_2 hHeld ⊢
  refine pz 0 (some 65) HT_ ?_
  refine pz 1 (some 66) HT_ ?_
  refine pz 2 (some 67) HT_ ?_
  refine pz 4 (some 69) HT_ ?_
  refine tm 3 (some 68) HT_ HW_ hHeld ?_
  refine on 5 (some 70) HT_ (fun K hK => ?_)
  refine Kd.R_lit_step (Kd.int .u8) _ 5 ?hg (N := 70) ?hd (xs := ([bt a0 x11_1] : List Int)) (inner := [.int .u8 (bt a0 x11_1)]) (ok := fun _ => True) (okp := fun _ => True) ?hr ?hp (fun _ hk => hk) trivial (Below.refl _ _) (Nat.le_refl _) (by simp) ?_; (case hd => rfl); (case hg => rfl); (case hr => first | (go_simp; done) | (go_simp; rfl)); (case hp => exact (Reps.one (show Kd.M (Kd.int .u8) _ _ _ (bt a0 x11_1) [.int .u8 (bt a0 x11_1)] from rfl) (Reps.none _ _)))
  intro v135 w57 ho58 hb hg_ hnew_
  have HS0_ := (hb.cell (World.block_lt_of_cell? _ _ (hHeld.1))).trans (hHeld.1)
  have HS1_ := (hb.cell (World.block_lt_of_cell? _ _ (hHeld.2.1))).trans (hHeld.2.1)
  have HS2_ := (hb.cell (World.block_lt_of_cell? _ _ (hHeld.2.2))).trans (hHeld.2.2)
  clear hg_ hnew_
  (first | rw [← Ny134.out] at ho58 | (simp only [Int.reduceToNat] at ho58; rw [← Ny134.out] at ho58))
  replace HO132 := rB HO132 hb
  have HO136 := Aside0.mk (Kd.R_lower ho58 (below_size bE))
  replace HB := sB hb
  clear hb ho58
  have p48 : 0 ≤ ((ji43) : Int) := dA
  have q48 : ((ji43) : Int) < ((y130.length : Int) : Int) := dA
  obtain ⟨ce48, hcl48, hM48, hcc48, hfr48⟩ := Kd.R_elem HO132.out z98 ((ji43) : Int) p48 q48
  obtain rfl := k98_openM hM48
  have hx48_0 : World.cell? _ ⟨go46, ((ji43) : Int).toNat * 3, none⟩ = some (.string ((rd_T98 y130 (ji43)).f0)) := hcc48 0 _ rfl
  have hx48_1 : World.cell? _ ⟨go46, ((ji43) : Int).toNat * 3 + 1, none⟩ = some (.bool ((rd_T98 y130 (ji43)).f1)) := hcc48 1 _ rfl
  have hx48_2 : World.cell? _ ⟨go46, ((ji43) : Int).toNat * 3 + 2, none⟩ = some (.bool ((rd_T98 y130 (ji43)).f2)) := hcc48 2 _ rfl
  have hf48_0 : World.frozen? _ ⟨go46, ((ji43) : Int).toNat * 3, none⟩ = false := hfr48 0
  have hf48_1 : World.frozen? _ ⟨go46, ((ji43) : Int).toNat * 3 + 1, none⟩ = false := hfr48 1
  have hf48_2 : World.frozen? _ ⟨go46, ((ji43) : Int).toNat * 3 + 2, none⟩ = false := hfr48 2
  clear hcl48 hcc48 hfr48 hM48
  replace p48 := eq_true p48
  replace q48 := eq_true q48
  obtain ⟨ce60, hcl60, hM60, hcc60, hfr60⟩ := Kd.R_elem HO132.out z98 ((ji43) : Int) (dA) (by have h_ : ((ji43) : Int) < ((y130.length : Int) : Int) := dA; first | exact h_ | (have e_ := (Kd.R_reads' HO132.out).1; omega) | simpa using h_)
  obtain rfl := k98_openM hM60
  have HP60 := (Kd.R_seg HO132.out ((ji43) : Int) (dA) (by have h_ : ((ji43) : Int) < ((y130.length : Int) : Int) := dA; first | exact h_ | (have e_ := (Kd.R_reads' HO132.out).1; omega) | simpa using h_) (seg := [.string (((rd_T98 y130 (ji43)).f0) ++ (strOfNums y134))]) (j := 0) hcl60 hcc60 (show 1 ≤ 3 from by decide) (x' := (⟨((rd_T98 y130 (ji43)).f0) ++ (strOfNums y134), (rd_T98 y130 (ji43)).f1, (rd_T98 y130 (ji43)).f2⟩ : S98)) (k98_mkM _ _ _ (⟨((rd_T98 y130 (ji43)).f0) ++ (strOfNums y134), (rd_T98 y130 (ji43)).f1, (rd_T98 y130 (ji43)).f2⟩ : S98) ) (fun _ hk => hk)).1
  rw [← Ny137.out] at HP60
  have HQ60 := Aside0.mk HP60
  clear hcl60 hcc60 hfr60 hM60 HP60
  refine hK.out _ _ ⟨HS0_, HS1_, HS2_⟩ (fun hHeld => ?_)
  clear hK K
  refine nz (some 70) ?_
  refine on 6 (some 71) HT_ (fun K hK => ?_)
  have hcv59 := own_string (P := Tryz.prog) Tryz.underlying60 Tryz.underlying5 Tryz.underlying9 (Kd.own_of_R HO136.out)
  refine value_ (w1 := ?_) (v := ?_) (by rfl) rfl ?_ ?_
  rotate_left 2
  ·go_simp
   constructor
   ·rfl
   ·rfl
  clear hcv59
  refine hK.out _ _ ⟨hHeld.1, hHeld.2.1, hHeld.2.2⟩ (fun hHeld => ?_)
  clear hK K
  refine nz (some 71) ?_
  refine pz 7 (some 72) HT_ ?_
  refine pz 8 (some 73) HT_ ?_
  refine pz 9 (some 74) HT_ ?_
  refine last_ (i := 10) (N := none) #[true, true, true, true, true, true, true, true, true, true, true] rfl rfl (one_of HT_.out (by kernel_rfl)) (by decide) (fun K hK => ?_)
  refine skip_ (w1 := ?_) (by rfl) rfl ?_ ?_
  rotate_left
  ·go_simp
   rfl
  refine hK.out _ _ ?_
  clear hK K
  refine done_ (done_of HT_.out (by kernel_rfl)) ?_
  try go_wp2
  go_roundg k1
  case measure => have := HK1.out; omega
  case rel => exact ⟨(y137), (wrap64 (x11_1 + 1)), cA, H', ⟨by have := HK1.out; omega⟩, ⟨by (with_reducible repeat (first | apply Kd.R_alloc | apply Kd.R_drewN | apply Kd.R_drew)); exact HQ60.out⟩, ⟨by repeat (first | (with_reducible first | exact HB.out | apply below_alloc | apply pw_below_drewN | apply below_drew1 | refine below_set ?_ GB46.out) | exact HB.out)⟩⟩
end Go.Proofs.YtgdjfcmmpjcaaaaGreatDoor.Q
namespace Go.Proofs.YtgdjfcmmpjcaaaaGreatDoor.Q
open Go.RowKit Go.Proofs.YtgdjfcmmpjcaaaaGreatDoorW.PrintWords Go.Proofs.YtgdjfcmmpjcaaaaGreatDoorW.PrintLast Go.Proofs.YtgdjfcmmpjcaaaaGreatDoorW.Own Go.Proofs.YtgdjfcmmpjcaaaaGreatDoorW.PrintMore
attribute [local go_sem] max2_int min2_int max_two min_two max_three min_three max_four min_four   -- for this text's walks alone
set_option linter.unusedVariables false
set_option linter.unusedSimpArgs false
def chars_Lower.low (n : Int) : Int := if 65 ≤ n ∧ n ≤ 90 then n + 32 else n
def chars_Lower.f (a0 : ByteArray) : Option ByteArray := if a0.size ≤ 281474976710656 then some (strOfNums ((bytesOf a0).map chars_Lower.low)) else none
def chars_Lower.val (a0 : ByteArray) (i j : Nat) : Int := if j < i then chars_Lower.low (bt a0 (j : Int)) else bt a0 (j : Int)
structure chars_Lower.Row (w : World) (a0 : ByteArray) (i : Nat) (w' : World) : Prop where
  below : Below w.heap.size w w'
  cell : ∀ j, j < a0.size → w'.cell? ⟨w.heap.size, j, none⟩ = some (.int .u8 (chars_Lower.val a0 i j))
  soft : ∀ j, j < a0.size → w'.frozen? ⟨w.heap.size, j, none⟩ = false
set_option maxHeartbeats 4000000 in
set_option maxRecDepth 100000 in
theorem chars_Lower.calls (a0 : ByteArray) (r : ByteArray) (w : World) (hG : Glob w) (h : chars_Lower.f a0 = some r) :
    Calls Tryz.prog 71 #[.string a0] w fun e w' => e = .returned (.string r) ∧ Below w.heap.size w w' := by
  unfold chars_Lower.f at h
  split at h
  · rename_i hs
    obtain rfl := Option.some.inj h
    clear h
    have kb := fun W => print_bytes (P := Tryz.prog) 9 60 5 Tryz.underlying9 Tryz.underlying60 Tryz.underlying5 a0 W
    go_enter Tryz.func71, Tryz.ntmps71
    go_wp2
    have hR : chars_Lower.Row w a0 0 (Lib.bytesWorld w 5 a0) := by
      refine ⟨bytes_below (Below.refl _ _) (Nat.le_refl _) _ _, ?_, ?_⟩
      · intro j hj
        rw [Lib.bytesWorld_cell w 5 a0 j hj]
        unfold chars_Lower.val bt
        rw [if_neg (Nat.not_lt_zero _)]
        have h' : j < a0.data.toList.length := by rw [data_length]; exact hj
        simp [List.getD_eq_getElem?_getD, hj]
        rfl
      · intro j hj
        have hz : a0.size ≤ (Lib.bytesCells w 5 a0).size := by simp [Lib.bytesCells]
        simp [World.frozen?, Lib.bytesWorld_at_new]
        omega
    generalize hWx : Lib.bytesWorld w 5 a0 = W2 at hR ⊢
    go_loopg [10] a0.size (fun g v10 w' => ∃ i : Nat, i ≤ a0.size ∧ v10 = .int .i64 (i : Int) ∧ g + i = a0.size ∧ chars_Lower.Row w a0 i w')
    case atStart => exact ⟨0, Nat.zero_le _, rfl, rfl, hR⟩
    case round =>
      obtain ⟨i, hi, rfl, hgi, hr⟩ := hrel
      by_cases c : i < a0.size
      · have d : decide ((i : Int) < (a0.size : Int)) = true := decide_eq_true (by omega)
        have hx := hr.cell i c
        have hf := hr.soft i c
        have hv : chars_Lower.val a0 i i = bt a0 (i : Int) := by unfold chars_Lower.val; rw [if_neg (Nat.lt_irrefl _)]
        rw [hv] at hx
        have hb := bt_range a0 (i : Int)
        have hw1 : wrap64 ((i : Int) + 1) = ((i + 1 : Nat) : Int) := by unfold wrap64; omega
        by_cases c1 : 65 ≤ bt a0 (i : Int) ∧ bt a0 (i : Int) ≤ 90
        · have d1 : decide (65 ≤ bt a0 (i : Int)) = true := decide_eq_true c1.1
          have d2 : decide (bt a0 (i : Int) ≤ 90) = true := decide_eq_true c1.2
          go_wp2
          go_roundg (a0.size - (i + 1))
          case measure => omega
          case rel =>
            refine ⟨i + 1, by omega, by simp, by omega, ⟨hr.below.setCell (Nat.le_refl _) _, fun j hj => ?_, fun j hj => (World.frozen?_setCell _ _ _ _).trans (hr.soft j hj)⟩⟩
            by_cases e : j = i
            · subst e
              rw [World.cell?_setCell_same _ _ _ (hr.cell j hj)]
              unfold chars_Lower.val chars_Lower.low
              rw [if_pos (Nat.lt_succ_self _), if_pos c1]
              have : bt a0 (j : Int) - 65 + 97 = bt a0 (j : Int) + 32 := by omega
              rw [this]
            · rw [World.cell?_setCell_other _ _ _ _ (show (⟨w.heap.size, i, none⟩ : Addr) ≠ ⟨w.heap.size, j, none⟩ from by intro h; injection h with _ h2 _; exact e h2.symm), hr.cell j hj]
              unfold chars_Lower.val
              by_cases l : j < i
              · rw [if_pos l, if_pos (by omega)]
              · rw [if_neg l, if_neg (by omega)]
        · have d12 : decide (65 ≤ bt a0 (i : Int)) = true → decide (bt a0 (i : Int) ≤ 90) = false := fun h => decide_eq_false (fun h2 => c1 ⟨of_decide_eq_true h, h2⟩)
          have same : ∀ W, chars_Lower.Row w a0 i W → chars_Lower.Row w a0 (i + 1) W := fun W hr => by
            refine ⟨hr.below, fun j hj => ?_, hr.soft⟩
            rw [hr.cell j hj]
            by_cases e : j = i
            · subst e
              rw [hv]
              unfold chars_Lower.val chars_Lower.low
              rw [if_pos (Nat.lt_succ_self _), if_neg c1]
            · unfold chars_Lower.val
              by_cases l : j < i
              · rw [if_pos l, if_pos (by omega)]
              · rw [if_neg l, if_neg (by omega)]
          by_cases c2 : 65 ≤ bt a0 (i : Int)
          · have d1 : decide (65 ≤ bt a0 (i : Int)) = true := decide_eq_true c2
            have d2 := d12 d1
            go_wp2
            go_roundg (a0.size - (i + 1))
            case measure => omega
            case rel => exact ⟨i + 1, by omega, by simp, by omega, same _ hr⟩
          · have d1 : decide (65 ≤ bt a0 (i : Int)) = false := decide_eq_false c2
            go_wp2
            go_roundg (a0.size - (i + 1))
            case measure => omega
            case rel => exact ⟨i + 1, by omega, by simp, by omega, same _ hr⟩
      · have d : decide ((i : Int) < (a0.size : Int)) = false := decide_eq_false (by omega)
        have hi' : i = a0.size := by omega
        have hc : ∀ W, chars_Lower.Row w a0 i W → Kd.C (Kd.int .u8) W (some ⟨w.heap.size, 0, none⟩) a0.size ((bytesOf a0).map chars_Lower.low) := fun W hr => by
          refine Kd.C_of_reads (enc := Value.int .u8) (d := (0 : Int)) (h1 := fun _ => rfl) ⟨by rw [List.length_map, bytesOf_length], by omega, fun _ => ⟨_, rfl, fun j hj => ?_⟩⟩
          rw [add_plain, hr.cell j hj]
          unfold chars_Lower.val
          rw [if_pos (by omega)]
          have h' : j < (bytesOf a0).length := by rw [bytesOf_length]; exact hj
          have e : (bytesOf a0)[j]'h' = bt a0 (j : Int) := by
            rw [← rd_bytesOf]
            unfold rd
            simp [List.getD_eq_getElem?_getD, List.getElem?_eq_getElem h']
          simp [List.getD_eq_getElem?_getD, List.getElem?_eq_getElem h', e]
        have hcv := Kd.C_string (P := Tryz.prog) (A := some ⟨w.heap.size, 0, none⟩) (c := grownCap w a0.size 0 5) Tryz.underlying60 Tryz.underlying5 Tryz.underlying9 (hc _ hr)
        go_wp2
        go_ret
        exact ⟨rfl, hr.below⟩
  · exact absurd h (by simp)
end Go.Proofs.YtgdjfcmmpjcaaaaGreatDoor.Q
namespace Go.Proofs.YtgdjfcmmpjcaaaaGreatDoor.Q
open Go.RowKit Go.Proofs.YtgdjfcmmpjcaaaaGreatDoorW.PrintWords Go.Proofs.YtgdjfcmmpjcaaaaGreatDoorW.PrintLast Go.Proofs.YtgdjfcmmpjcaaaaGreatDoorW.Own Go.Proofs.YtgdjfcmmpjcaaaaGreatDoorW.PrintMore
attribute [local go_sem] max2_int min2_int max_two min_two max_three min_three max_four min_four   -- for this text's walks alone
set_option linter.unusedVariables false
set_option linter.unusedSimpArgs false
set_option maxHeartbeats 20000000
set_option maxRecDepth 100000
def api_Word.l0 : Nat → List (S85) → Int → Int → Option ((List (S85)))
 | 0, _, _, _ => none
 | k + 1, x0, x2, x3 => if x2 < x3 then (if 0 ≤ x3 then (if x3 < (x0.length : Int) then (if 0 ≤ x2 then (if x2 < (x0.length : Int) then (api_Word.l0 k ((x0.set (x2 : Int).toNat (⟨(rd_T85 x0 x3).f0, (rd_T85 x0 x3).f1⟩ : S85)).set (x3 : Int).toNat (⟨(rd_T85 x0 x2).f0, (rd_T85 x0 x2).f1⟩ : S85)) (wrap64 (x2 + 1)) (wrap64 (x3 - 1))) else (none)) else (none)) else (none)) else (none)) else (some x0)
def api_Word.f (k : Nat) (l0 : List (S85)) : Option ((List (S85))) := api_Word.l0 k l0 0 (wrap64 ((l0.length : Int) - 1))
theorem api_Word.mono_l : ∀ k, (∀ y0 y1 y2, LeO (api_Word.l0 k y0 y1 y2) (api_Word.l0 (k + 1) y0 y1 y2))
 | 0 => fun _ _ _ r h => by simp [api_Word.l0] at h
 | k + 1 => by
  have ih0 := api_Word.mono_l k
  ·intro y0 y1 y2
   unfold api_Word.l0
   exact mo
theorem api_Word.mono : ∀ a0 k, LeO (api_Word.f k a0) (api_Word.f (k + 1) a0) := by
 intro a0 k
 have ih0 := api_Word.mono_l k
 unfold api_Word.f
 exact mo
def api_Word.T3 : Bool × List (List Nat × List Nat) := (true, [([], []), ([], []), ([], []), ([], []), ([], []), ([], []), ([4, 5], [4, 5]), ([6], [6]), ([], []), ([], []), ([8, 9], [8, 9]), ([10], [10]), ([0, 1, 0, 1, 4, 5, 6, 7, 11], [0, 1]), ([12, 7, 0, 1, 4, 5, 6, 7, 11], [7, 12]), ([2, 3, 0, 1, 2, 3, 4, 5, 6, 7, 8, 9, 10, 11, 12, 13], [2, 3]), ([14, 11, 13, 0, 1, 2, 3, 4, 5, 6, 7, 8, 9, 10, 11, 12, 13], [11, 14])])
def api_Word.B3 : List Nat := [0, 0, 0, 0, 0, 0, 48, 112, 0, 0, 768, 1792, 4083, 8179, 16383, 32767]
theorem api_Word.tab3 : rtab .any (opsOf Tryz.f72 3) = api_Word.T3 := by kernel_rfl
theorem api_Word.bits3 : waitsOk api_Word.T3.2 api_Word.B3 = true := by kernel_rfl
theorem api_Word.calls (k : Nat) (P0_ : Nat → Prop) (u9000_ : Value) (l0 : List (S85)) (r : List (S85)) (w0 w : World) (hB : Below w0.heap.size w0 w) (ho0 : Kd.R k85 85 w w0.heap.size P0_ u9000_ l0) (hG : Glob w0) (h : api_Word.f k l0 = some r) :
 Calls Tryz.prog 72 #[u9000_] w fun e w' => e = .returned (.tuple #[]) ∧ Kd.R k85 85 w' w0.heap.size (fun k_ => (P0_ k_ ∨ w.heap.size ≤ k_)) u9000_ r ∧ Below w0.heap.size w0 w' ∧ Kept w w' (fun k_ => P0_ k_) := by
 have hu85 := Tryz.underlying85
 have HG := Aside0.mk hG
 clear hG
 have HO0 := Aside0.mk (show Kd.R k85 85 w w0.heap.size (fun k_ => (P0_ k_ ∨ w.heap.size ≤ k_)) u9000_ l0 from Kd.R_mono ho0 (fun k_ hk => (.inl hk)))
 have HK := Aside0.mk (Kept.refl w (fun k_ => P0_ k_))
 have HW0 := Aside0.mk hB.size
 have HB := Aside0.mk hB
 clear hB
 have H : (api_Word.l0 k l0 0 (wrap64 ((l0.length : Int) - 1))) = some r := h
 clear h
 have H' := Aside0.mk H
 clear H
 obtain ⟨Ao2, co2, eo2⟩ := Kd.R_slice HO0.out
 subst eo2
 go_enter Tryz.func72, Tryz.ntmps72
 go_wp2
 go_loopg [2, 3] k (fun kq v2 v3 w' => ∃ (x0_1 : List (S85)) (x2_1 : Int) (x3_1 : Int), v2 = .int .i64 x2_1 ∧ v3 = .int .i64 x3_1 ∧ Aside0 (api_Word.l0 kq x0_1 x2_1 x3_1 = some r) ∧ Aside0 (kq ≤ k) ∧ Aside0 (Kd.R k85 85 w' w0.heap.size (fun k_ => (P0_ k_ ∨ w.heap.size ≤ k_)) (.slice Ao2 l0.length co2) x0_1) ∧ Aside0 (Kept w w' (fun k_ => P0_ k_)) ∧ Aside0 (Below w0.heap.size w0 w'))
 case atStart => exact ⟨(l0), (0), (wrap64 ((l0.length : Int) - 1)), cA, cA, H', ⟨Nat.le_refl _⟩, ⟨kR HO0⟩, ⟨by repeat (first | (with_reducible first | exact HK.out | apply Kept.alloc | apply Kept.drewN | apply Kept.drew) | exact HK.out)⟩, ⟨bE⟩⟩
 clear H'
 try clear p2
 obtain ⟨x0_1, x2_1, x3_1, rfl, rfl, HA, HK1, HO_0, HK, HB⟩ := hrel
 have hl0_1 := (Kd.R_reads' HO_0.out).1
 rw [hl0_1] at HO_0
 (try simp only [hl0_1])
 cases gk with
 | zero => exact absurd HA.out (by simp [api_Word.l0])
 | succ k1 =>
  have H := HA.out
  clear HA
  simp only [api_Word.l0] at H
  by_cases c3 : x2_1 < x3_1
  rotate_left
  ·rw [if_neg c3] at H
   have c3b0 := dF c3
   clear c3
   obtain rfl := Option.some.inj H
   go_wp2
   first | go_end0 | ((try simp only [Exit.inBlock, Exit.then]); refine bodyPost_ret (results_none rfl _ _ _) rfl ?_)
   exact ⟨eA, (by first | exact (kR HO_0) | (simp only [hl0_1]; exact (kR HO_0))), bE, by repeat (first | (with_reducible first | exact HK.out | apply Kept.alloc | apply Kept.drewN | apply Kept.drew) | exact HK.out)⟩
  rw [if_pos c3] at H
  have c3b0 := dT c3
  clear c3
  obtain ⟨c4, H⟩ := gp H
  have c4b0 := dT c4
  clear c4
  obtain ⟨c5, H⟩ := gp H
  have c5b0 := dT c5
  clear c5
  obtain ⟨c6, H⟩ := gp H
  have c6b0 := dT c6
  clear c6
  obtain ⟨c7, H⟩ := gp H
  have c7b0 := dT c7
  clear c7
  obtain ⟨y145, hy145⟩ : ∃ y_ : List (S85), y_ = (x0_1.set (x2_1 : Int).toNat (⟨(rd_T85 x0_1 x3_1).f0, (rd_T85 x0_1 x3_1).f1⟩ : S85)) := ⟨_, rfl⟩
  replace H : (api_Word.l0 k1 (y145.set (x3_1 : Int).toNat (⟨(rd_T85 x0_1 x2_1).f0, (rd_T85 x0_1 x2_1).f1⟩ : S85)) (wrap64 (x2_1 + 1)) (wrap64 (x3_1 - 1))) = some r := by first | (rw [hy145]; with_reducible exact H) | (have H2_ := (Option.bind_some _ _).symm.trans H; rw [hy145]; with_reducible exact H2_) | (have H2_ := (Option.bind_some _ _).symm.trans H; with_reducible exact H2_) | with_reducible exact H | (rw [hy145]; exact H) | exact H
  have Ny145 := Aside0.mk hy145
  clear hy145
  obtain ⟨y146, hy146⟩ : ∃ y_ : List (S85), y_ = (y145.set (x3_1 : Int).toNat (⟨(rd_T85 x0_1 x2_1).f0, (rd_T85 x0_1 x2_1).f1⟩ : S85)) := ⟨_, rfl⟩
  replace H : (api_Word.l0 k1 y146 (wrap64 (x2_1 + 1)) (wrap64 (x3_1 - 1))) = some r := by first | (rw [hy146]; with_reducible exact H) | (have H2_ := (Option.bind_some _ _).symm.trans H; rw [hy146]; with_reducible exact H2_) | (have H2_ := (Option.bind_some _ _).symm.trans H; with_reducible exact H2_) | with_reducible exact H | (rw [hy146]; exact H) | exact H
  have Ny146 := Aside0.mk hy146
  clear hy146
  have H' := Aside0.mk H
  clear H
  try go_wp2
  replace HO_0 := Aside0.mk (Kd.R_drew HO_0.out)
  replace HK := Aside0.mk (Kept.drew HK.out)
  replace HB := Aside0.mk (below_drew1 HB.out)
  have p143 : 0 ≤ (x3_1 : Int) := dA
  have q143 : x3_1 < (x0_1.length : Int) := dA
  obtain ⟨ad143, e143, hx143_0, hx143_1⟩ := at_T85 (Kd.R_reads' HO_0.out).2.2 x3_1 p143 q143
  cases e143
  replace p143 := eq_true p143
  replace q143 := eq_true q143
  have p144 : 0 ≤ (x2_1 : Int) := dA
  have q144 : x2_1 < (x0_1.length : Int) := dA
  obtain ⟨ad144, e144, hx144_0, hx144_1⟩ := at_T85 (Kd.R_reads' HO_0.out).2.2 x2_1 p144 q144
  obtain rfl : ad143 = ad144 := (by injection e144)
  replace p144 := eq_true p144
  replace q144 := eq_true q144
  have p8 : 0 ≤ (x2_1 : Int) := dA
  have q8 : (x2_1 : Int) < ((x0_1.length : Int) : Int) := dA
  obtain ⟨go8, co8, eo8, gb8, gl8, cl8, HG8⟩ := Kd.R_form HO_0.out (by omega)
  (first | cases eo8 | (injection eo8 with ea_ en_ ec_; (first | subst ea_ | (injection ea_ with ea_; subst ea_)); subst ec_; clear en_))
  have GB8 := Aside0.mk gb8
  have hlt_sw_ : x2_1 < x3_1 := of_decide_eq_true c3b0
  have h0_sw_ : 0 ≤ x2_1 := of_decide_eq_true c6b0
  have far_sw_0 : ∀ (W : World) (v : Value), (W.setCell ⟨go8, (x2_1 : Int).toNat * 2, none⟩ v).cell? ⟨go8, (x3_1 : Int).toNat * 2, none⟩ = W.cell? ⟨go8, (x3_1 : Int).toNat * 2, none⟩ := fun W v => World.cell?_setCell_other _ _ _ _ (show (⟨go8, (x2_1 : Int).toNat * 2, none⟩ : Addr) ≠ ⟨go8, (x3_1 : Int).toNat * 2, none⟩ from by intro h; injection h with _ h2 _; omega)
  have far_sw_1 : ∀ (W : World) (v : Value), (W.setCell ⟨go8, (x2_1 : Int).toNat * 2, none⟩ v).cell? ⟨go8, (x3_1 : Int).toNat * 2 + 1, none⟩ = W.cell? ⟨go8, (x3_1 : Int).toNat * 2 + 1, none⟩ := fun W v => World.cell?_setCell_other _ _ _ _ (show (⟨go8, (x2_1 : Int).toNat * 2, none⟩ : Addr) ≠ ⟨go8, (x3_1 : Int).toNat * 2 + 1, none⟩ from by intro h; injection h with _ h2 _; omega)
  have far_sw_2 : ∀ (W : World) (v : Value), (W.setCell ⟨go8, (x2_1 : Int).toNat * 2 + 1, none⟩ v).cell? ⟨go8, (x3_1 : Int).toNat * 2, none⟩ = W.cell? ⟨go8, (x3_1 : Int).toNat * 2, none⟩ := fun W v => World.cell?_setCell_other _ _ _ _ (show (⟨go8, (x2_1 : Int).toNat * 2 + 1, none⟩ : Addr) ≠ ⟨go8, (x3_1 : Int).toNat * 2, none⟩ from by intro h; injection h with _ h2 _; omega)
  have far_sw_3 : ∀ (W : World) (v : Value), (W.setCell ⟨go8, (x2_1 : Int).toNat * 2 + 1, none⟩ v).cell? ⟨go8, (x3_1 : Int).toNat * 2 + 1, none⟩ = W.cell? ⟨go8, (x3_1 : Int).toNat * 2 + 1, none⟩ := fun W v => World.cell?_setCell_other _ _ _ _ (show (⟨go8, (x2_1 : Int).toNat * 2 + 1, none⟩ : Addr) ≠ ⟨go8, (x3_1 : Int).toNat * 2 + 1, none⟩ from by intro h; injection h with _ h2 _; omega)
  have far_sw_4 : ∀ (W : World) (v : Value), (W.setCell ⟨go8, (x3_1 : Int).toNat * 2, none⟩ v).cell? ⟨go8, (x2_1 : Int).toNat * 2, none⟩ = W.cell? ⟨go8, (x2_1 : Int).toNat * 2, none⟩ := fun W v => World.cell?_setCell_other _ _ _ _ (show (⟨go8, (x3_1 : Int).toNat * 2, none⟩ : Addr) ≠ ⟨go8, (x2_1 : Int).toNat * 2, none⟩ from by intro h; injection h with _ h2 _; omega)
  have far_sw_5 : ∀ (W : World) (v : Value), (W.setCell ⟨go8, (x3_1 : Int).toNat * 2, none⟩ v).cell? ⟨go8, (x2_1 : Int).toNat * 2 + 1, none⟩ = W.cell? ⟨go8, (x2_1 : Int).toNat * 2 + 1, none⟩ := fun W v => World.cell?_setCell_other _ _ _ _ (show (⟨go8, (x3_1 : Int).toNat * 2, none⟩ : Addr) ≠ ⟨go8, (x2_1 : Int).toNat * 2 + 1, none⟩ from by intro h; injection h with _ h2 _; omega)
  have far_sw_6 : ∀ (W : World) (v : Value), (W.setCell ⟨go8, (x3_1 : Int).toNat * 2 + 1, none⟩ v).cell? ⟨go8, (x2_1 : Int).toNat * 2, none⟩ = W.cell? ⟨go8, (x2_1 : Int).toNat * 2, none⟩ := fun W v => World.cell?_setCell_other _ _ _ _ (show (⟨go8, (x3_1 : Int).toNat * 2 + 1, none⟩ : Addr) ≠ ⟨go8, (x2_1 : Int).toNat * 2, none⟩ from by intro h; injection h with _ h2 _; omega)
  have far_sw_7 : ∀ (W : World) (v : Value), (W.setCell ⟨go8, (x3_1 : Int).toNat * 2 + 1, none⟩ v).cell? ⟨go8, (x2_1 : Int).toNat * 2 + 1, none⟩ = W.cell? ⟨go8, (x2_1 : Int).toNat * 2 + 1, none⟩ := fun W v => World.cell?_setCell_other _ _ _ _ (show (⟨go8, (x3_1 : Int).toNat * 2 + 1, none⟩ : Addr) ≠ ⟨go8, (x2_1 : Int).toNat * 2 + 1, none⟩ from by intro h; injection h with _ h2 _; omega)
  have far_sw_8 : ∀ (W : World) (v : Value), (W.setCell ⟨go8, (x2_1 : Int).toNat * 2, none⟩ v).cell? ⟨go8, (x2_1 : Int).toNat * 2 + 1, none⟩ = W.cell? ⟨go8, (x2_1 : Int).toNat * 2 + 1, none⟩ := fun W v => World.cell?_setCell_other _ _ _ _ (show (⟨go8, (x2_1 : Int).toNat * 2, none⟩ : Addr) ≠ ⟨go8, (x2_1 : Int).toNat * 2 + 1, none⟩ from by intro h; injection h with _ h2 _; omega)
  have far_sw_9 : ∀ (W : World) (v : Value), (W.setCell ⟨go8, (x2_1 : Int).toNat * 2 + 1, none⟩ v).cell? ⟨go8, (x2_1 : Int).toNat * 2, none⟩ = W.cell? ⟨go8, (x2_1 : Int).toNat * 2, none⟩ := fun W v => World.cell?_setCell_other _ _ _ _ (show (⟨go8, (x2_1 : Int).toNat * 2 + 1, none⟩ : Addr) ≠ ⟨go8, (x2_1 : Int).toNat * 2, none⟩ from by intro h; injection h with _ h2 _; omega)
  have far_sw_10 : ∀ (W : World) (v : Value), (W.setCell ⟨go8, (x3_1 : Int).toNat * 2, none⟩ v).cell? ⟨go8, (x3_1 : Int).toNat * 2 + 1, none⟩ = W.cell? ⟨go8, (x3_1 : Int).toNat * 2 + 1, none⟩ := fun W v => World.cell?_setCell_other _ _ _ _ (show (⟨go8, (x3_1 : Int).toNat * 2, none⟩ : Addr) ≠ ⟨go8, (x3_1 : Int).toNat * 2 + 1, none⟩ from by intro h; injection h with _ h2 _; omega)
  have far_sw_11 : ∀ (W : World) (v : Value), (W.setCell ⟨go8, (x3_1 : Int).toNat * 2 + 1, none⟩ v).cell? ⟨go8, (x3_1 : Int).toNat * 2, none⟩ = W.cell? ⟨go8, (x3_1 : Int).toNat * 2, none⟩ := fun W v => World.cell?_setCell_other _ _ _ _ (show (⟨go8, (x3_1 : Int).toNat * 2 + 1, none⟩ : Addr) ≠ ⟨go8, (x3_1 : Int).toNat * 2, none⟩ from by intro h; injection h with _ h2 _; omega)
  have GG8 := Aside0.mk HG8
  clear gb8 gl8 HG8
  have HMgo8 := Aside0.mk (show (P0_ go8 ∨ w.heap.size ≤ go8) from (HO_0.out.1 _ rfl))
  (first | simp only [add_plain] at hx143_0 | skip)
  (first | simp only [add_plain] at hx143_1 | skip)
  (first | simp only [add_plain] at hx144_0 | skip)
  (first | simp only [add_plain] at hx144_1 | skip)
  obtain ⟨ce8, hcl8, hM8, hcc8, hfr8⟩ := Kd.R_elem HO_0.out z85 (x2_1 : Int) p8 q8
  obtain rfl := k85_openM hM8
  have hx8_0 : World.cell? _ ⟨go8, (x2_1 : Int).toNat * 2, none⟩ = some (.int .i64 ((rd_T85 x0_1 x2_1).f0)) := hcc8 0 _ rfl
  have hx8_1 : World.cell? _ ⟨go8, (x2_1 : Int).toNat * 2 + 1, none⟩ = some (.string ((rd_T85 x0_1 x2_1).f1)) := hcc8 1 _ rfl
  have hf8_0 : World.frozen? _ ⟨go8, (x2_1 : Int).toNat * 2, none⟩ = false := hfr8 0
  have hf8_1 : World.frozen? _ ⟨go8, (x2_1 : Int).toNat * 2 + 1, none⟩ = false := hfr8 1
  clear hcl8 hcc8 hfr8 hM8
  replace p8 := eq_true p8
  replace q8 := eq_true q8
  obtain ⟨ce11, hcl11, hM11, hcc11, hfr11⟩ := Kd.R_elem HO_0.out z85 (x2_1 : Int) (dA) (by have h_ : (x2_1 : Int) < ((x0_1.length : Int) : Int) := dA; first | exact h_ | (have e_ := (Kd.R_reads' HO_0.out).1; omega) | simpa using h_)
  obtain rfl := k85_openM hM11
  have HP11 := (Kd.R_seg HO_0.out (x2_1 : Int) (dA) (by have h_ : (x2_1 : Int) < ((x0_1.length : Int) : Int) := dA; first | exact h_ | (have e_ := (Kd.R_reads' HO_0.out).1; omega) | simpa using h_) (seg := [.int .i64 ((rd_T85 x0_1 x3_1).f0), .string ((rd_T85 x0_1 x3_1).f1)]) (j := 0) hcl11 hcc11 (show 2 ≤ 2 from by decide) (x' := (⟨(rd_T85 x0_1 x3_1).f0, (rd_T85 x0_1 x3_1).f1⟩ : S85)) (k85_mkM _ _ _ (⟨(rd_T85 x0_1 x3_1).f0, (rd_T85 x0_1 x3_1).f1⟩ : S85) ) (fun _ hk => hk)).1
  rw [← Ny145.out] at HP11
  have HQ11 := Aside0.mk HP11
  clear hcl11 hcc11 hfr11 hM11 HP11
  have p9 : 0 ≤ (x3_1 : Int) := dA
  have q9 : (x3_1 : Int) < ((x0_1.length : Int) : Int) := dA
  obtain ⟨ce9, hcl9, hM9, hcc9, hfr9⟩ := Kd.R_elem HQ11.out z85 (x3_1 : Int) p9 q9
  obtain rfl := k85_openM hM9
  have hx9_0 : World.cell? _ ⟨go8, (x3_1 : Int).toNat * 2, none⟩ = some (.int .i64 ((rd_T85 y145 x3_1).f0)) := hcc9 0 _ rfl
  have hx9_1 : World.cell? _ ⟨go8, (x3_1 : Int).toNat * 2 + 1, none⟩ = some (.string ((rd_T85 y145 x3_1).f1)) := hcc9 1 _ rfl
  have hf9_0 : World.frozen? _ ⟨go8, (x3_1 : Int).toNat * 2, none⟩ = false := hfr9 0
  have hf9_1 : World.frozen? _ ⟨go8, (x3_1 : Int).toNat * 2 + 1, none⟩ = false := hfr9 1
  (try simp only [World.frozen?_setCells] at hf9_0 hf9_1)
  clear hcl9 hcc9 hfr9 hM9
  replace p9 := eq_true p9
  replace q9 := eq_true q9
  obtain ⟨ce12, hcl12, hM12, hcc12, hfr12⟩ := Kd.R_elem HQ11.out z85 (x3_1 : Int) (dA) (by have h_ : (x3_1 : Int) < ((x0_1.length : Int) : Int) := dA; first | exact h_ | (have e_ := (Kd.R_reads' HO_0.out).1; omega) | simpa using h_)
  obtain rfl := k85_openM hM12
  have HP12 := (Kd.R_seg HQ11.out (x3_1 : Int) (dA) (by have h_ : (x3_1 : Int) < ((x0_1.length : Int) : Int) := dA; first | exact h_ | (have e_ := (Kd.R_reads' HO_0.out).1; omega) | simpa using h_) (seg := [.int .i64 ((rd_T85 x0_1 x2_1).f0), .string ((rd_T85 x0_1 x2_1).f1)]) (j := 0) hcl12 hcc12 (show 2 ≤ 2 from by decide) (x' := (⟨(rd_T85 x0_1 x2_1).f0, (rd_T85 x0_1 x2_1).f1⟩ : S85)) (k85_mkM _ _ _ (⟨(rd_T85 x0_1 x2_1).f0, (rd_T85 x0_1 x2_1).f1⟩ : S85) ) (fun _ hk => hk)).1
  rw [← Ny146.out] at HP12
  have HQ12 := Aside0.mk HP12
  clear hcl12 hcc12 hfr12 hM12 HP12
  refine start_ (n := 16) (S := fun w' => w'.cell? ⟨go8, ((x3_1).toNat * 2), none⟩ = some (.int .i64 ((rd_T85 x0_1 x3_1).f0)) ∧ w'.cell? ⟨go8, ((x3_1).toNat * 2) + 1, none⟩ = some (.string ((rd_T85 x0_1 x3_1).f1)) ∧ w'.cell? ⟨go8, ((x2_1).toNat * 2), none⟩ = some (.int .i64 ((rd_T85 x0_1 x2_1).f0)) ∧ w'.cell? ⟨go8, ((x2_1).toNat * 2) + 1, none⟩ = some (.string ((rd_T85 x0_1 x2_1).f1))) (ds := [13, 15]) #[false, false, false, false, false, false, false, false, false, false, false, false, false, false, false, false] (by kernel_rfl) rfl rfl ⟨hx143_0, hx143_1, hx144_0, hx144_1⟩ (fun hHeld => ?_); refine with_tabW api_Word.tab3 api_Word.bits3 (fun HT_ HW_ => ?_)
  generalize wr.drew = w10 at HO_0 HK HB GG8 HQ11 HQ12 hf8_0 hf8_1 hf9_0 hf9_1 hx143_0 hx143_1 hx144_0 hx144_1 hx8_0 hx8_1 hx9_0 hx9_1 hHeld ⊢
  refine pz 0 (some 14) HT_ ?_
  refine pz 1 (some 15) HT_ ?_
  refine pz 2 (some 16) HT_ ?_
  refine pz 3 (some 17) HT_ ?_
  refine pz 4 (some 18) HT_ ?_
  refine pz 5 (some 19) HT_ ?_
  refine pz 6 (some 20) HT_ ?_
  refine pz 8 (some 22) HT_ ?_
  refine pz 9 (some 23) HT_ ?_
  refine pz 10 (some 24) HT_ ?_
  refine tm 7 (some 21) HT_ HW_ hHeld ?_
  refine tm 11 (some 25) HT_ HW_ hHeld ?_
  refine pz 12 (some 26) HT_ ?_
  refine last_ (i := 13) (N := none) #[true, true, true, true, true, true, true, true, true, true, true, true, true, true, false, false] rfl rfl (one_of HT_.out (by kernel_rfl)) (by decide) (fun K hK => ?_)
  refine skip_ (w1 := ?_) (by rfl) rfl ?_ ?_
  rotate_left
  ·go_simp
   rfl
  refine hK.out _ _ ?_
  clear hK K
  refine pz 14 (some 27) HT_ ?_
  refine last_ (i := 15) (N := none) #[true, true, true, true, true, true, true, true, true, true, true, true, true, true, true, true] rfl rfl (one_of HT_.out (by kernel_rfl)) (by decide) (fun K hK => ?_)
  refine skip_ (w1 := ?_) (by rfl) rfl ?_ ?_
  rotate_left
  ·go_simp
   rfl
  refine hK.out _ _ ?_
  clear hK K
  refine done_ (done_of HT_.out (by kernel_rfl)) ?_
  try go_wp2
  (try simp only [← hl0_1])
  go_roundg k1
  case measure => have := HK1.out; omega
  case rel => exact ⟨(y146), (wrap64 (x2_1 + 1)), (wrap64 (x3_1 - 1)), cA, cA, H', ⟨by have := HK1.out; omega⟩, ⟨by (try simp only [hl0_1]); (with_reducible repeat (first | apply Kd.R_alloc | apply Kd.R_drewN | apply Kd.R_drew)); exact HQ12.out⟩, ⟨by repeat (first | (with_reducible first | exact HK.out | apply Kept.alloc | apply Kept.drewN | apply Kept.drew | refine Kept.setCell ?_ HMgo8.out _ | refine Kept.setCell ?_ HMgo8.out _ | refine Kept.setCell ?_ HMgo8.out _ | refine Kept.setCell ?_ HMgo8.out _) | exact HK.out)⟩, ⟨by repeat (first | (with_reducible first | exact HB.out | apply below_alloc | apply pw_below_drewN | apply below_drew1 | refine below_set ?_ GB8.out | refine below_set ?_ GB8.out | refine below_set ?_ GB8.out | refine below_set ?_ GB8.out) | exact HB.out)⟩⟩
end Go.Proofs.YtgdjfcmmpjcaaaaGreatDoor.Q
