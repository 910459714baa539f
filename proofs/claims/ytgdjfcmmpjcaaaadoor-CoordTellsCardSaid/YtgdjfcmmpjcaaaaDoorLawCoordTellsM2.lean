/- Texts put together: what functions of the program compute, and plain words about them. -/
import Derived.Test.YtgdjfcmmpjcaaaaDoorLawCoordTellsM1
import Derived.Shelf.Strings.Builder1
import Derived.Shelf.Strings.Builder2
import Derived.Shelf.Strings.OnBuilder
import Derived.Shelf.Strings.Trim
import Derived.Shelf.Small.Utf8
import Derived.Shelf.Small.Strs
import Derived.Shelf.Small.Wraps
import Derived.Shelf.Strings.BuilderF
import Derived.Shelf.Strings.BuilderK
import Derived.Shelf.Utf8.RuneCount
import Derived.Shelf.Strings.Builder2Cap
import Derived.Shelf.Strings.Search1
import Derived.Shelf.Strings.Search2
import Derived.Shelf.Strings.Search3
import Derived.Shelf.Strings.Cut
import Derived.Shelf.Strings.Count
import Derived.Shelf.LaysM
import Derived.Shelf.Strings.Shaped
import Derived.Shelf.Strings.Prefix
import Derived.Shelf.Strings.Split
import Derived.Shelf.Strings.SplitShaped
import Derived.Shelf.Unicode.Decode
import Derived.Shelf.Strings.Runes
import Derived.Shelf.Strings.RuneCount
import Derived.Shelf.Strings.IndexAny
import Derived.Shelf.Strings.AsciiSet
import Derived.Shelf.Strings.IndexAnyAll
import Derived.Shelf.Strings.Explode
import Derived.Shelf.Unicode.DecodeSlow
import Derived.Shelf.Unicode.DecodeAny
import Derived.Shelf.Unicode.DecodeLast
import Derived.Shelf.Strings.BuilderCap
import Derived.Ground.Names2Prog
import Derived.Shelf.Slices.SearchI
import Derived.Test.YtgdjfcmmpjcaaaaDoorProg
import Derived.Deep.QuietTactic
import Derived.BigQuiet
import Derived.Lib.Hide
import Derived.StillTailTactics
namespace Go.Proofs.YtgdjfcmmpjcaaaaDoor.Q
open Go.RowKit Go.Proofs.YtgdjfcmmpjcaaaaDoorW.PrintWords Go.Proofs.YtgdjfcmmpjcaaaaDoorW.PrintLast Go.Proofs.YtgdjfcmmpjcaaaaDoorW.Own Go.Proofs.YtgdjfcmmpjcaaaaDoorW.PrintMore
attribute [local go_sem] max2_int min2_int max_two min_two max_three min_three max_four min_four   -- for this text's walks alone
set_option linter.unusedVariables false
set_option linter.unusedSimpArgs false
theorem eqA32 (d : Nat) (w : World) (x0 y0 : ByteArray) (x1 y1 : ByteArray) (x2 y2 : ByteArray) :
    (Op.equalIn (d + 2) 32 (.agg #[.string x0, .string x1, .string x2]) (.agg #[.string y0, .string y1, .string y2])).run Tryd.prog w = .ok (x0.toList == y0.toList && (x1.toList == y1.toList && (x2.toList == y2.toList))) w := by
  refine eqA_of Tryd.underlying32 (by kernel_rfl) ?_
  refine eqf_cons (by rfl) (by go_simp; rfl) (by go_simp; rfl) (by go_simp) ?_
  refine eqf_cons (by rfl) (by go_simp; rfl) (by go_simp; rfl) (by go_simp) ?_
  exact eqf_last (by rfl) (by go_simp; rfl) (by go_simp; rfl) (by go_simp)
end Go.Proofs.YtgdjfcmmpjcaaaaDoor.Q
namespace Go.Proofs.YtgdjfcmmpjcaaaaDoor.Q
open Go.RowKit Go.Proofs.YtgdjfcmmpjcaaaaDoorW.PrintWords Go.Proofs.YtgdjfcmmpjcaaaaDoorW.PrintLast Go.Proofs.YtgdjfcmmpjcaaaaDoorW.Own Go.Proofs.YtgdjfcmmpjcaaaaDoorW.PrintMore
attribute [local go_sem] max2_int min2_int max_two min_two max_three min_three max_four min_four   -- for this text's walks alone
set_option linter.unusedVariables false
set_option linter.unusedSimpArgs false
set_option maxHeartbeats 20000000
set_option maxRecDepth 100000
def coord_letter.f (a0 : Int) : Option (Bool) := if a0 ≥ 65 then (if a0 ≤ 90 then (some true) else (if a0 ≥ 97 then (if a0 ≤ 122 then (some true) else (if a0 ≥ 48 then (if a0 ≤ 57 then (some true) else (if a0 = 95 then (some true) else (if a0 = 45 then (some true) else (some (a0 == 46))))) else (if a0 = 95 then (some true) else (if a0 = 45 then (some true) else (some (a0 == 46)))))) else (if a0 ≥ 48 then (if a0 ≤ 57 then (some true) else (if a0 = 95 then (some true) else (if a0 = 45 then (some true) else (some (a0 == 46))))) else (if a0 = 95 then (some true) else (if a0 = 45 then (some true) else (some (a0 == 46))))))) else (if a0 ≥ 97 then (if a0 ≤ 122 then (some true) else (if a0 ≥ 48 then (if a0 ≤ 57 then (some true) else (if a0 = 95 then (some true) else (if a0 = 45 then (some true) else (some (a0 == 46))))) else (if a0 = 95 then (some true) else (if a0 = 45 then (some true) else (some (a0 == 46)))))) else (if a0 ≥ 48 then (if a0 ≤ 57 then (some true) else (if a0 = 95 then (some true) else (if a0 = 45 then (some true) else (some (a0 == 46))))) else (if a0 = 95 then (some true) else (if a0 = 45 then (some true) else (some (a0 == 46))))))
theorem coord_letter.calls (a0 : Int) (r : Bool) (w : World) (hG : Glob w) (h : coord_letter.f a0 = some r) :
 Calls Tryd.prog 63 #[.int .u8 a0] w fun e w' => e = .returned (.bool r) ∧ Drawn0 w w' := by
 have HG := Aside0.mk hG
 clear hG
 have H : (if a0 ≥ 65 then (if a0 ≤ 90 then (some true) else (if a0 ≥ 97 then (if a0 ≤ 122 then (some true) else (if a0 ≥ 48 then (if a0 ≤ 57 then (some true) else (if a0 = 95 then (some true) else (if a0 = 45 then (some true) else (some (a0 == 46))))) else (if a0 = 95 then (some true) else (if a0 = 45 then (some true) else (some (a0 == 46)))))) else (if a0 ≥ 48 then (if a0 ≤ 57 then (some true) else (if a0 = 95 then (some true) else (if a0 = 45 then (some true) else (some (a0 == 46))))) else (if a0 = 95 then (some true) else (if a0 = 45 then (some true) else (some (a0 == 46))))))) else (if a0 ≥ 97 then (if a0 ≤ 122 then (some true) else (if a0 ≥ 48 then (if a0 ≤ 57 then (some true) else (if a0 = 95 then (some true) else (if a0 = 45 then (some true) else (some (a0 == 46))))) else (if a0 = 95 then (some true) else (if a0 = 45 then (some true) else (some (a0 == 46)))))) else (if a0 ≥ 48 then (if a0 ≤ 57 then (some true) else (if a0 = 95 then (some true) else (if a0 = 45 then (some true) else (some (a0 == 46))))) else (if a0 = 95 then (some true) else (if a0 = 45 then (some true) else (some (a0 == 46))))))) = some r := h
 clear h
 by_cases c2 : a0 ≥ 65
 rotate_left
 ·rw [if_neg c2] at H
  have c2b0 := dF c2
  clear c2
  by_cases c18 : a0 ≥ 97
  rotate_left
  ·rw [if_neg c18] at H
   have c18b0 := dF c18
   clear c18
   by_cases c26 : a0 ≥ 48
   rotate_left
   ·rw [if_neg c26] at H
    have c26b0 := dF c26
    clear c26
    by_cases c30 : a0 = 95
    ·rw [if_pos c30] at H
     obtain ⟨c30b0, c30b1⟩ := eqT c30
     clear c30
     obtain rfl := Option.some.inj H
     go_enter Tryd.func63, Tryd.ntmps63
     go_wp2
     go_ret
     exact ⟨by first | rfl | (simp; done) | (simp [*]; done), by repeat (first | exact Drawn0.refl _ | apply Drawn0.step)⟩
    rw [if_neg c30] at H
    obtain ⟨c30b0, c30b1⟩ := eqF c30
    by_cases c31 : a0 = 45
    rotate_left
    ·rw [if_neg c31] at H
     obtain ⟨c31b0, c31b1⟩ := eqF c31
     obtain rfl := Option.some.inj H
     go_enter Tryd.func63, Tryd.ntmps63
     go_wp2
     go_ret
     exact ⟨by first | rfl | (simp; done) | (simp [*]; done), by repeat (first | exact Drawn0.refl _ | apply Drawn0.step)⟩
    rw [if_pos c31] at H
    obtain ⟨c31b0, c31b1⟩ := eqT c31
    clear c31
    obtain rfl := Option.some.inj H
    go_enter Tryd.func63, Tryd.ntmps63
    go_wp2
    go_ret
    exact ⟨by first | rfl | (simp; done) | (simp [*]; done), by repeat (first | exact Drawn0.refl _ | apply Drawn0.step)⟩
   rw [if_pos c26] at H
   have c26b0 := dT c26
   clear c26
   by_cases c27 : a0 ≤ 57
   ·rw [if_pos c27] at H
    have c27b0 := dT c27
    clear c27
    obtain rfl := Option.some.inj H
    go_enter Tryd.func63, Tryd.ntmps63
    go_wp2
    go_ret
    exact ⟨by first | rfl | (simp; done) | (simp [*]; done), by repeat (first | exact Drawn0.refl _ | apply Drawn0.step)⟩
   rw [if_neg c27] at H
   have c27b0 := dF c27
   clear c27
   by_cases c28 : a0 = 95
   ·rw [if_pos c28] at H
    obtain ⟨c28b0, c28b1⟩ := eqT c28
    clear c28
    obtain rfl := Option.some.inj H
    go_enter Tryd.func63, Tryd.ntmps63
    go_wp2
    go_ret
    exact ⟨by first | rfl | (simp; done) | (simp [*]; done), by repeat (first | exact Drawn0.refl _ | apply Drawn0.step)⟩
   rw [if_neg c28] at H
   obtain ⟨c28b0, c28b1⟩ := eqF c28
   by_cases c29 : a0 = 45
   rotate_left
   ·rw [if_neg c29] at H
    obtain ⟨c29b0, c29b1⟩ := eqF c29
    obtain rfl := Option.some.inj H
    go_enter Tryd.func63, Tryd.ntmps63
    go_wp2
    go_ret
    exact ⟨by first | rfl | (simp; done) | (simp [*]; done), by repeat (first | exact Drawn0.refl _ | apply Drawn0.step)⟩
   rw [if_pos c29] at H
   obtain ⟨c29b0, c29b1⟩ := eqT c29
   clear c29
   obtain rfl := Option.some.inj H
   go_enter Tryd.func63, Tryd.ntmps63
   go_wp2
   go_ret
   exact ⟨by first | rfl | (simp; done) | (simp [*]; done), by repeat (first | exact Drawn0.refl _ | apply Drawn0.step)⟩
  rw [if_pos c18] at H
  have c18b0 := dT c18
  clear c18
  by_cases c19 : a0 ≤ 122
  ·rw [if_pos c19] at H
   have c19b0 := dT c19
   clear c19
   obtain rfl := Option.some.inj H
   go_enter Tryd.func63, Tryd.ntmps63
   go_wp2
   go_ret
   exact ⟨by first | rfl | (simp; done) | (simp [*]; done), by repeat (first | exact Drawn0.refl _ | apply Drawn0.step)⟩
  rw [if_neg c19] at H
  have c19b0 := dF c19
  clear c19
  by_cases c20 : a0 ≥ 48
  rotate_left
  ·rw [if_neg c20] at H
   have c20b0 := dF c20
   clear c20
   by_cases c24 : a0 = 95
   ·rw [if_pos c24] at H
    obtain ⟨c24b0, c24b1⟩ := eqT c24
    clear c24
    obtain rfl := Option.some.inj H
    go_enter Tryd.func63, Tryd.ntmps63
    go_wp2
    go_ret
    exact ⟨by first | rfl | (simp; done) | (simp [*]; done), by repeat (first | exact Drawn0.refl _ | apply Drawn0.step)⟩
   rw [if_neg c24] at H
   obtain ⟨c24b0, c24b1⟩ := eqF c24
   by_cases c25 : a0 = 45
   rotate_left
   ·rw [if_neg c25] at H
    obtain ⟨c25b0, c25b1⟩ := eqF c25
    obtain rfl := Option.some.inj H
    go_enter Tryd.func63, Tryd.ntmps63
    go_wp2
    go_ret
    exact ⟨by first | rfl | (simp; done) | (simp [*]; done), by repeat (first | exact Drawn0.refl _ | apply Drawn0.step)⟩
   rw [if_pos c25] at H
   obtain ⟨c25b0, c25b1⟩ := eqT c25
   clear c25
   obtain rfl := Option.some.inj H
   go_enter Tryd.func63, Tryd.ntmps63
   go_wp2
   go_ret
   exact ⟨by first | rfl | (simp; done) | (simp [*]; done), by repeat (first | exact Drawn0.refl _ | apply Drawn0.step)⟩
  rw [if_pos c20] at H
  have c20b0 := dT c20
  clear c20
  by_cases c21 : a0 ≤ 57
  ·rw [if_pos c21] at H
   have c21b0 := dT c21
   clear c21
   obtain rfl := Option.some.inj H
   go_enter Tryd.func63, Tryd.ntmps63
   go_wp2
   go_ret
   exact ⟨by first | rfl | (simp; done) | (simp [*]; done), by repeat (first | exact Drawn0.refl _ | apply Drawn0.step)⟩
  rw [if_neg c21] at H
  have c21b0 := dF c21
  clear c21
  by_cases c22 : a0 = 95
  ·rw [if_pos c22] at H
   obtain ⟨c22b0, c22b1⟩ := eqT c22
   clear c22
   obtain rfl := Option.some.inj H
   go_enter Tryd.func63, Tryd.ntmps63
   go_wp2
   go_ret
   exact ⟨by first | rfl | (simp; done) | (simp [*]; done), by repeat (first | exact Drawn0.refl _ | apply Drawn0.step)⟩
  rw [if_neg c22] at H
  obtain ⟨c22b0, c22b1⟩ := eqF c22
  by_cases c23 : a0 = 45
  rotate_left
  ·rw [if_neg c23] at H
   obtain ⟨c23b0, c23b1⟩ := eqF c23
   obtain rfl := Option.some.inj H
   go_enter Tryd.func63, Tryd.ntmps63
   go_wp2
   go_ret
   exact ⟨by first | rfl | (simp; done) | (simp [*]; done), by repeat (first | exact Drawn0.refl _ | apply Drawn0.step)⟩
  rw [if_pos c23] at H
  obtain ⟨c23b0, c23b1⟩ := eqT c23
  clear c23
  obtain rfl := Option.some.inj H
  go_enter Tryd.func63, Tryd.ntmps63
  go_wp2
  go_ret
  exact ⟨by first | rfl | (simp; done) | (simp [*]; done), by repeat (first | exact Drawn0.refl _ | apply Drawn0.step)⟩
 rw [if_pos c2] at H
 have c2b0 := dT c2
 clear c2
 by_cases c3 : a0 ≤ 90
 ·rw [if_pos c3] at H
  have c3b0 := dT c3
  clear c3
  obtain rfl := Option.some.inj H
  go_enter Tryd.func63, Tryd.ntmps63
  go_wp2
  go_ret
  exact ⟨by first | rfl | (simp; done) | (simp [*]; done), by repeat (first | exact Drawn0.refl _ | apply Drawn0.step)⟩
 rw [if_neg c3] at H
 have c3b0 := dF c3
 clear c3
 by_cases c4 : a0 ≥ 97
 rotate_left
 ·rw [if_neg c4] at H
  have c4b0 := dF c4
  clear c4
  by_cases c12 : a0 ≥ 48
  rotate_left
  ·rw [if_neg c12] at H
   have c12b0 := dF c12
   clear c12
   by_cases c16 : a0 = 95
   ·rw [if_pos c16] at H
    obtain ⟨c16b0, c16b1⟩ := eqT c16
    clear c16
    obtain rfl := Option.some.inj H
    go_enter Tryd.func63, Tryd.ntmps63
    go_wp2
    go_ret
    exact ⟨by first | rfl | (simp; done) | (simp [*]; done), by repeat (first | exact Drawn0.refl _ | apply Drawn0.step)⟩
   rw [if_neg c16] at H
   obtain ⟨c16b0, c16b1⟩ := eqF c16
   by_cases c17 : a0 = 45
   rotate_left
   ·rw [if_neg c17] at H
    obtain ⟨c17b0, c17b1⟩ := eqF c17
    obtain rfl := Option.some.inj H
    go_enter Tryd.func63, Tryd.ntmps63
    go_wp2
    go_ret
    exact ⟨by first | rfl | (simp; done) | (simp [*]; done), by repeat (first | exact Drawn0.refl _ | apply Drawn0.step)⟩
   rw [if_pos c17] at H
   obtain ⟨c17b0, c17b1⟩ := eqT c17
   clear c17
   obtain rfl := Option.some.inj H
   go_enter Tryd.func63, Tryd.ntmps63
   go_wp2
   go_ret
   exact ⟨by first | rfl | (simp; done) | (simp [*]; done), by repeat (first | exact Drawn0.refl _ | apply Drawn0.step)⟩
  rw [if_pos c12] at H
  have c12b0 := dT c12
  clear c12
  by_cases c13 : a0 ≤ 57
  ·rw [if_pos c13] at H
   have c13b0 := dT c13
   clear c13
   obtain rfl := Option.some.inj H
   go_enter Tryd.func63, Tryd.ntmps63
   go_wp2
   go_ret
   exact ⟨by first | rfl | (simp; done) | (simp [*]; done), by repeat (first | exact Drawn0.refl _ | apply Drawn0.step)⟩
  rw [if_neg c13] at H
  have c13b0 := dF c13
  clear c13
  by_cases c14 : a0 = 95
  ·rw [if_pos c14] at H
   obtain ⟨c14b0, c14b1⟩ := eqT c14
   clear c14
   obtain rfl := Option.some.inj H
   go_enter Tryd.func63, Tryd.ntmps63
   go_wp2
   go_ret
   exact ⟨by first | rfl | (simp; done) | (simp [*]; done), by repeat (first | exact Drawn0.refl _ | apply Drawn0.step)⟩
  rw [if_neg c14] at H
  obtain ⟨c14b0, c14b1⟩ := eqF c14
  by_cases c15 : a0 = 45
  rotate_left
  ·rw [if_neg c15] at H
   obtain ⟨c15b0, c15b1⟩ := eqF c15
   obtain rfl := Option.some.inj H
   go_enter Tryd.func63, Tryd.ntmps63
   go_wp2
   go_ret
   exact ⟨by first | rfl | (simp; done) | (simp [*]; done), by repeat (first | exact Drawn0.refl _ | apply Drawn0.step)⟩
  rw [if_pos c15] at H
  obtain ⟨c15b0, c15b1⟩ := eqT c15
  clear c15
  obtain rfl := Option.some.inj H
  go_enter Tryd.func63, Tryd.ntmps63
  go_wp2
  go_ret
  exact ⟨by first | rfl | (simp; done) | (simp [*]; done), by repeat (first | exact Drawn0.refl _ | apply Drawn0.step)⟩
 rw [if_pos c4] at H
 have c4b0 := dT c4
 clear c4
 by_cases c5 : a0 ≤ 122
 ·rw [if_pos c5] at H
  have c5b0 := dT c5
  clear c5
  obtain rfl := Option.some.inj H
  go_enter Tryd.func63, Tryd.ntmps63
  go_wp2
  go_ret
  exact ⟨by first | rfl | (simp; done) | (simp [*]; done), by repeat (first | exact Drawn0.refl _ | apply Drawn0.step)⟩
 rw [if_neg c5] at H
 have c5b0 := dF c5
 clear c5
 by_cases c6 : a0 ≥ 48
 rotate_left
 ·rw [if_neg c6] at H
  have c6b0 := dF c6
  clear c6
  by_cases c10 : a0 = 95
  ·rw [if_pos c10] at H
   obtain ⟨c10b0, c10b1⟩ := eqT c10
   clear c10
   obtain rfl := Option.some.inj H
   go_enter Tryd.func63, Tryd.ntmps63
   go_wp2
   go_ret
   exact ⟨by first | rfl | (simp; done) | (simp [*]; done), by repeat (first | exact Drawn0.refl _ | apply Drawn0.step)⟩
  rw [if_neg c10] at H
  obtain ⟨c10b0, c10b1⟩ := eqF c10
  by_cases c11 : a0 = 45
  rotate_left
  ·rw [if_neg c11] at H
   obtain ⟨c11b0, c11b1⟩ := eqF c11
   obtain rfl := Option.some.inj H
   go_enter Tryd.func63, Tryd.ntmps63
   go_wp2
   go_ret
   exact ⟨by first | rfl | (simp; done) | (simp [*]; done), by repeat (first | exact Drawn0.refl _ | apply Drawn0.step)⟩
  rw [if_pos c11] at H
  obtain ⟨c11b0, c11b1⟩ := eqT c11
  clear c11
  obtain rfl := Option.some.inj H
  go_enter Tryd.func63, Tryd.ntmps63
  go_wp2
  go_ret
  exact ⟨by first | rfl | (simp; done) | (simp [*]; done), by repeat (first | exact Drawn0.refl _ | apply Drawn0.step)⟩
 rw [if_pos c6] at H
 have c6b0 := dT c6
 clear c6
 by_cases c7 : a0 ≤ 57
 ·rw [if_pos c7] at H
  have c7b0 := dT c7
  clear c7
  obtain rfl := Option.some.inj H
  go_enter Tryd.func63, Tryd.ntmps63
  go_wp2
  go_ret
  exact ⟨by first | rfl | (simp; done) | (simp [*]; done), by repeat (first | exact Drawn0.refl _ | apply Drawn0.step)⟩
 rw [if_neg c7] at H
 have c7b0 := dF c7
 clear c7
 by_cases c8 : a0 = 95
 ·rw [if_pos c8] at H
  obtain ⟨c8b0, c8b1⟩ := eqT c8
  clear c8
  obtain rfl := Option.some.inj H
  go_enter Tryd.func63, Tryd.ntmps63
  go_wp2
  go_ret
  exact ⟨by first | rfl | (simp; done) | (simp [*]; done), by repeat (first | exact Drawn0.refl _ | apply Drawn0.step)⟩
 rw [if_neg c8] at H
 obtain ⟨c8b0, c8b1⟩ := eqF c8
 by_cases c9 : a0 = 45
 rotate_left
 ·rw [if_neg c9] at H
  obtain ⟨c9b0, c9b1⟩ := eqF c9
  obtain rfl := Option.some.inj H
  go_enter Tryd.func63, Tryd.ntmps63
  go_wp2
  go_ret
  exact ⟨by first | rfl | (simp; done) | (simp [*]; done), by repeat (first | exact Drawn0.refl _ | apply Drawn0.step)⟩
 rw [if_pos c9] at H
 obtain ⟨c9b0, c9b1⟩ := eqT c9
 clear c9
 obtain rfl := Option.some.inj H
 go_enter Tryd.func63, Tryd.ntmps63
 go_wp2
 go_ret
 exact ⟨by first | rfl | (simp; done) | (simp [*]; done), by repeat (first | exact Drawn0.refl _ | apply Drawn0.step)⟩
mutual
def coord_Id.j0 : Nat → ByteArray → Bool → Option (Bool)
 | 0, _, _ => none
 | k + 1, x0, x9 => if x9 = true then (some false) else (coord_Id.l0 k x0)
def coord_Id.l0 : Nat → ByteArray → Option (Bool)
 | 0, _ => none
 | k + 1, x0 => if 0 < (x0.size : Int) then ((coord_letter.f (bt x0 0)).bind fun t654 => (if t654 = true then (if 1 ≤ (x0.size : Int) then (if (x0.extract 1 x0.size).toList = ([] : List UInt8) then (some true) else (coord_Id.l0 k (x0.extract 1 x0.size))) else (none)) else (some false))) else (none)
end
def coord_Id.f (k : Nat) (a0 : ByteArray) : Option (Bool) := if a0.toList = ([] : List UInt8) then (coord_Id.j0 k a0 true) else (coord_Id.j0 k a0 (decide ((a0.size : Int) > 500)))
theorem coord_Id.mono_l : ∀ k, (∀ y0 y1, LeO (coord_Id.j0 k y0 y1) (coord_Id.j0 (k + 1) y0 y1)) ∧ (∀ y0, LeO (coord_Id.l0 k y0) (coord_Id.l0 (k + 1) y0))
 | 0 => ⟨fun _ _ r h => by simp [coord_Id.j0] at h, fun _ r h => by simp [coord_Id.l0] at h⟩
 | k + 1 => by
  obtain ⟨ih0, ih1⟩ := coord_Id.mono_l k
  refine ⟨?_, ?_⟩
  ·intro y0 y1
   unfold coord_Id.j0
   exact mo
  ·intro y0
   unfold coord_Id.l0
   exact mo
theorem coord_Id.mono : ∀ a0 k, LeO (coord_Id.f k a0) (coord_Id.f (k + 1) a0) := by
 intro a0 k
 obtain ⟨ih0, ih1⟩ := coord_Id.mono_l k
 unfold coord_Id.f
 exact mo
theorem coord_Id.calls (k : Nat) (a0 : ByteArray) (r : Bool) (w : World) (hG : Glob w) (h : coord_Id.f k a0 = some r) :
 Calls Tryd.prog 23 #[.string a0] w fun e w' => e = .returned (.bool r) ∧ Drawn0 w w' := by
 have HG := Aside0.mk hG
 clear hG
 have H : (if a0.toList = ([] : List UInt8) then (coord_Id.j0 k a0 true) else (coord_Id.j0 k a0 (decide ((a0.size : Int) > 500)))) = some r := h
 clear h
 have HS2 := Aside0.mk H
 clear H
 go_enter Tryd.func23, Tryd.ntmps23
 go_wp2
 refine wp_scope_loop 0 (by rfl) ?_
 have H := HS2.out
 clear HS2
 have HC3 := Aside0.mk H
 clear H
 go_upto_region 1 with (fail)
 go_cut [9] (fun v9 wc => ∃ (kq : Nat) (x9_2 : Bool), v9 = .bool x9_2 ∧ Aside0 (coord_Id.j0 kq a0 x9_2 = some r) ∧ Aside0 (kq ≤ k) ∧ Drawn0 w wc)
 case first =>
  have H := HC3.out
  clear HC3
  by_cases c4 : a0.toList = ([] : List UInt8)
  rotate_left
  ·rw [if_neg c4] at H
   obtain ⟨c4b0, c4b1⟩ := eqF c4
   (try (have c4b2 : a0.toList.isEmpty = false := by simpa using c4))
   (first | rw [c4b0] | rw [c4b2] | (simp only [i64_w, i32_w]; rw [c4b0]) | skip)
   have H' := Aside0.mk H
   clear H
   go_wp2
   go_meet
   case rel => exact ⟨_, (decide ((a0.size : Int) > 500)), cA, H', ⟨by first | omega | exact Nat.le_refl _⟩, by repeat (first | exact Drawn0.refl _ | apply Drawn0.step)⟩
  rw [if_pos c4] at H
  obtain ⟨c4b0, c4b1⟩ := eqT c4
  (try (have c4b2 : a0.toList.isEmpty = true := by simpa using c4))
  clear c4
  (first | rw [c4b0] | rw [c4b2] | (simp only [i64_w, i32_w]; rw [c4b0]) | skip)
  have H' := Aside0.mk H
  clear H
  go_wp2
  go_meet
  case rel => exact ⟨_, (true), cA, H', ⟨by first | omega | exact Nat.le_refl _⟩, by repeat (first | exact Drawn0.refl _ | apply Drawn0.step)⟩
 clear HC3
 try clear c2
 try clear p2
 try clear c4
 try clear c4b0
 try clear c4b1
 try clear c4b2
 obtain ⟨kq, x9_2, rfl, HA, HJ2, ⟨mc2, rfl⟩⟩ := hcut
 cases kq with
 | zero => exact absurd HA.out (by simp [coord_Id.j0])
 | succ kj2 =>
  have H := HA.out
  clear HA
  simp only [coord_Id.j0] at H
  by_cases c5 : x9_2 = true
  ·subst c5
   replace H : (some false) = some r := by rw [if_pos rfl] at H; exact H
   obtain rfl := Option.some.inj H
   go_wp2
   (try simp only [Exit.inBlock, Exit.then, jump_ret])
   go_ret
   exact ⟨by first | rfl | (simp; done) | (simp [*]; done), by repeat (first | exact Drawn0.refl _ | apply Drawn0.step)⟩
  replace c5 := Bool.eq_false_iff.mpr c5
  subst c5
  replace H : (coord_Id.l0 kj2 a0) = some r := by rw [if_neg nF] at H; exact H
  have H' := Aside0.mk H
  clear H
  go_wp2
  refine wp_label ?_
  rename_i hlb
  refine hlb _ _ ?_
  refine wp_at_label ?_
  refine LoopAt.intro (fun aB_ kq_ a1 w1 => ∃ (u0 u2 u10 u11 u12 u13 u14 u15 u16 u17 : Value), (fun kq v0 w' => ∃ (x0_2 : ByteArray), v0 = .string x0_2 ∧ Aside0 (coord_Id.l0 kq x0_2 = some r) ∧ Aside0 (kq ≤ kj2) ∧ Drawn0 w w') kq_ u0 w1 ∧ a1 = ((((((((((aB_.put (some 0) u0).put (some 2) u2).put (some 10) u10).put (some 11) u11).put (some 12) u12).put (some 13) u13).put (some 14) u14).put (some 15) u15).put (some 16) u16).put (some 17) u17)) kj2 ?_ ?_
  ·(repeat apply Exists.intro)
   (try simp only [Act.put, List.setIfInBounds_toArray, List.set_cons_zero, List.set_cons_succ])
   refine ⟨?_, rfl⟩
   exact ⟨(a0), cA, H', ⟨Nat.le_refl _⟩, by repeat (first | exact Drawn0.refl _ | apply Drawn0.step)⟩
  ·intro gk a1 wr hinv
   obtain ⟨u0, u2, u10, u11, u12, u13, u14, u15, u16, u17, hrel, ha⟩ := hinv
   subst ha
   (try simp only [Act.put, List.setIfInBounds_toArray, List.set_cons_zero, List.set_cons_succ])
   intro Js0 Ks0 hJs0 hKs0
   clear H'
   try clear c2
   try clear p2
   try clear c4
   try clear c4b0
   try clear c4b1
   try clear c4b2
   try clear c5
   try clear p2
   obtain ⟨x0_2, rfl, HA, HK2, ⟨m2, rfl⟩⟩ := hrel
   cases gk with
   | zero => exact absurd HA.out (by simp [coord_Id.l0])
   | succ k2 =>
    have H := HA.out
    clear HA
    simp only [coord_Id.l0] at H
    obtain ⟨c6, H⟩ := gp H
    have c6b0 := dT c6
    have c6b1 : decide (0 < x0_2.size) = true := decide_eq_true (by omega)
    clear c6
    replace H := bi H
    obtain ⟨t654, A80, H⟩ := H
    try dsimp only at H
    have A8 := Aside0.mk A80
    clear A80
    by_cases c9 : t654 = true
    rotate_left
    ·replace c9 := Bool.eq_false_iff.mpr c9
     subst c9
     replace H : (some false) = some r := by rw [if_neg nF] at H; exact H
     obtain rfl := Option.some.inj H
     have p7 : 0 ≤ (0 : Int) := (by omega)
     have q7 : 0 < x0_2.size := (by have : (0 : Int) < (x0_2.size : Int) := dA; omega)
     have hx7 : ∀ h : 0 < x0_2.size, ((x0_2[0]'h).toNat : Int) = bt x0_2 0 := bt_at x0_2 0
     clear p7
     have qi7 : (0 < (x0_2.size : Int)) = True := eq_true (dA)
     replace q7 := eq_true q7
     go_wp2_with (first | (refine gl (some 12) Tryd.func63 #[.int .u8 (bt x0_2 0)] ?_; (with_reducible refine (coord_letter.calls (bt x0_2 0) false _ ?side1 A8.out).mono ?_); (case side1 => exact Glob.drawn HG.out (by repeat (first | exact Drawn0.refl _ | apply Drawn0.step))); rintro e w' ⟨rfl, ⟨nd, rfl⟩⟩; refine ⟨_, rfl, ?_⟩))
     (try simp only [Exit.inBlock, Exit.then, jump_ret])
     go_ret
     exact ⟨by first | rfl | (simp; done) | (simp [*]; done), by repeat (first | exact Drawn0.refl _ | apply Drawn0.step)⟩
    subst c9
    replace H : (if 1 ≤ (x0_2.size : Int) then (if (x0_2.extract 1 x0_2.size).toList = ([] : List UInt8) then (some true) else (coord_Id.l0 k2 (x0_2.extract 1 x0_2.size))) else (none)) = some r := by rw [if_pos rfl] at H; exact H
    obtain ⟨c10, H⟩ := gp H
    have c10b0 := eq_true c10
    have c10b1 := dT c10
    clear c10
    by_cases c11 : (x0_2.extract 1 x0_2.size).toList = ([] : List UInt8)
    ·rw [if_pos c11] at H
     obtain ⟨c11b0, c11b1⟩ := eqT c11
     (try (have c11b2 : ((x0_2.extract 1 x0_2.size).toList).isEmpty = true := by simpa using c11))
     clear c11
     obtain rfl := Option.some.inj H
     have p7 : 0 ≤ (0 : Int) := (by omega)
     have q7 : 0 < x0_2.size := (by have : (0 : Int) < (x0_2.size : Int) := dA; omega)
     have hx7 : ∀ h : 0 < x0_2.size, ((x0_2[0]'h).toNat : Int) = bt x0_2 0 := bt_at x0_2 0
     clear p7
     have qi7 : (0 < (x0_2.size : Int)) = True := eq_true (dA)
     replace q7 := eq_true q7
     go_wp2_with (first | (refine gl (some 12) Tryd.func63 #[.int .u8 (bt x0_2 0)] ?_; (with_reducible refine (coord_letter.calls (bt x0_2 0) true _ ?side1 A8.out).mono ?_); (case side1 => exact Glob.drawn HG.out (by repeat (first | exact Drawn0.refl _ | apply Drawn0.step))); rintro e w' ⟨rfl, ⟨nd, rfl⟩⟩; refine ⟨_, rfl, ?_⟩))
     (try simp only [Exit.inBlock, Exit.then, jump_ret])
     go_ret
     exact ⟨by first | rfl | (simp; done) | (simp [*]; done), by repeat (first | exact Drawn0.refl _ | apply Drawn0.step)⟩
    rw [if_neg c11] at H
    obtain ⟨c11b0, c11b1⟩ := eqF c11
    (try (have c11b2 : ((x0_2.extract 1 x0_2.size).toList).isEmpty = false := by simpa using c11))
    have H' := Aside0.mk H
    clear H
    have p7 : 0 ≤ (0 : Int) := (by omega)
    have q7 : 0 < x0_2.size := (by have : (0 : Int) < (x0_2.size : Int) := dA; omega)
    have hx7 : ∀ h : 0 < x0_2.size, ((x0_2[0]'h).toNat : Int) = bt x0_2 0 := bt_at x0_2 0
    clear p7
    have qi7 : (0 < (x0_2.size : Int)) = True := eq_true (dA)
    replace q7 := eq_true q7
    go_wp2_with (first | (refine gl (some 12) Tryd.func63 #[.int .u8 (bt x0_2 0)] ?_; (with_reducible refine (coord_letter.calls (bt x0_2 0) true _ ?side1 A8.out).mono ?_); (case side1 => exact Glob.drawn HG.out (by repeat (first | exact Drawn0.refl _ | apply Drawn0.step))); rintro e w' ⟨rfl, ⟨nd, rfl⟩⟩; refine ⟨_, rfl, ?_⟩))
    refine wp_goto (And.intro rfl ?_)
    refine hKs0 _ _ ?_
    go_roundg k2
    case measure => have := HJ2.out; have := HK2.out; omega
    case rel => exact ⟨(x0_2.extract 1 x0_2.size), cA, H', ⟨by have := HJ2.out; have := HK2.out; omega⟩, by repeat (first | exact Drawn0.refl _ | apply Drawn0.step)⟩
def cmp_Or_string.l0 : Nat → ByteArray → List ByteArray → Int → Int → Option (ByteArray)
 | 0, _, _, _, _ => none
 | k + 1, x3, x6, x7, x8 => if x8 < x7 then (if 0 ≤ x8 then (if x8 < (x6.length : Int) then (if (rdOf ByteArray.empty x6 x8).toList = x3.toList then (cmp_Or_string.l0 k x3 x6 x7 (wrap64 (x8 + 1))) else (some (rdOf ByteArray.empty x6 x8))) else (none)) else (none)) else (some x3)
def cmp_Or_string.f (k : Nat) (l0 : List ByteArray) : Option (ByteArray) := cmp_Or_string.l0 k (⟨#[]⟩ : ByteArray) l0 (l0.length : Int) 0
theorem cmp_Or_string.mono_l : ∀ k, (∀ y0 y1 y2 y3, LeO (cmp_Or_string.l0 k y0 y1 y2 y3) (cmp_Or_string.l0 (k + 1) y0 y1 y2 y3))
 | 0 => fun _ _ _ _ r h => by simp [cmp_Or_string.l0] at h
 | k + 1 => by
  have ih0 := cmp_Or_string.mono_l k
  ·intro y0 y1 y2 y3
   unfold cmp_Or_string.l0
   exact mo
theorem cmp_Or_string.mono : ∀ a0 k, LeO (cmp_Or_string.f k a0) (cmp_Or_string.f (k + 1) a0) := by
 intro a0 k
 have ih0 := cmp_Or_string.mono_l k
 unfold cmp_Or_string.f
 exact mo
theorem cmp_Or_string.calls (k : Nat) (A0 : Option Addr) (c0 : Nat) (l0 : List ByteArray) (r : ByteArray) (w : World) (hr0 : Kd.C Kd.string w A0 l0.length l0) (hc0 : l0.length ≤ c0) (hG : Glob w) (h : cmp_Or_string.f k l0 = some r) :
 Calls Tryd.prog 64 #[.slice A0 l0.length c0] w fun e w' => e = .returned (.string r) ∧ Drawn0 w w' := by
 have HG := Aside0.mk hG
 clear hG
 have HR0 := Aside0.mk hr0
 have HC0 := Aside0.mk hc0
 clear hr0 hc0
 have H : (cmp_Or_string.l0 k (⟨#[]⟩ : ByteArray) l0 (l0.length : Int) 0) = some r := h
 clear h
 have H' := Aside0.mk H
 clear H
 go_enter Tryd.func64, Tryd.ntmps64
 go_wp2
 go_loopg [8] k (fun kq v8 w' => ∃ (x8_1 : Int), v8 = .int .i64 x8_1 ∧ Aside0 (cmp_Or_string.l0 kq (⟨#[]⟩ : ByteArray) l0 (l0.length : Int) x8_1 = some r) ∧ Aside0 (kq ≤ k) ∧ Drawn0 w w')
 case atStart => exact ⟨(0), cA, H', ⟨Nat.le_refl _⟩, by repeat (first | exact Drawn0.refl _ | apply Drawn0.step)⟩
 clear H'
 obtain ⟨x8_1, rfl, HA, HK1, ⟨m1, rfl⟩⟩ := hrel
 cases gk with
 | zero => exact absurd HA.out (by simp [cmp_Or_string.l0])
 | succ k1 =>
  have H := HA.out
  clear HA
  simp only [cmp_Or_string.l0] at H
  (try simp only [toList_lit] at H)
  by_cases c2 : x8_1 < (l0.length : Int)
  rotate_left
  ·rw [if_neg c2] at H
   have c2b0 := dF c2
   clear c2
   obtain rfl := Option.some.inj H
   go_wp2
   go_ret
   exact ⟨by first | rfl | (simp; done) | (simp [*]; done), by repeat (first | exact Drawn0.refl _ | apply Drawn0.step)⟩
  rw [if_pos c2] at H
  have c2b0 := dT c2
  clear c2
  obtain ⟨c3, H⟩ := gp H
  have c3b0 := dT c3
  clear c3
  obtain ⟨c4, H⟩ := gp H
  have c4b0 := dT c4
  clear c4
  by_cases c5 : (rdOf ByteArray.empty l0 x8_1).toList = ([] : List UInt8)
  rotate_left
  ·rw [if_neg c5] at H
   obtain ⟨c5b0, c5b1⟩ := eqF c5
   (try (have c5b2 : ((rdOf ByteArray.empty l0 x8_1).toList).isEmpty = false := by simpa using c5))
   obtain rfl := Option.some.inj H
   have p670 : 0 ≤ (x8_1 : Int) := dA
   have q670 : x8_1 < (l0.length : Int) := dA
   obtain ⟨ad670, e670, hx670_0⟩ := Kd.at_string HR0.out x8_1 p670 q670
   cases e670
   replace p670 := eq_true p670
   replace q670 := eq_true q670
   go_wp2
   go_ret
   exact ⟨by first | rfl | (simp; done) | (simp [*]; done), by repeat (first | exact Drawn0.refl _ | apply Drawn0.step)⟩
  rw [if_pos c5] at H
  obtain ⟨c5b0, c5b1⟩ := eqT c5
  (try (have c5b2 : ((rdOf ByteArray.empty l0 x8_1).toList).isEmpty = true := by simpa using c5))
  clear c5
  have H' := Aside0.mk H
  clear H
  have p670 : 0 ≤ (x8_1 : Int) := dA
  have q670 : x8_1 < (l0.length : Int) := dA
  obtain ⟨ad670, e670, hx670_0⟩ := Kd.at_string HR0.out x8_1 p670 q670
  cases e670
  replace p670 := eq_true p670
  replace q670 := eq_true q670
  go_wp2
  go_roundg k1
  case measure => have := HK1.out; omega
  case rel => exact ⟨(wrap64 (x8_1 + 1)), cA, H', ⟨by have := HK1.out; omega⟩, by repeat (first | exact Drawn0.refl _ | apply Drawn0.step)⟩
def coord_Key.f (k : Nat) (a0_0 : ByteArray) (a0_1 : ByteArray) (a0_2 : ByteArray) (a0_3 : ByteArray) (a0_4 : ByteArray) (a0_5 : ByteArray) (a0_6 : Bool) (l0_7 : List (S183)) : Option (ByteArray) := if a0_0.size + 1 ≤ 9223372036854775807 then (if (a0_0 ++ (⟨#[58]⟩ : ByteArray)).size + a0_1.size ≤ 9223372036854775807 then (if ((a0_0 ++ (⟨#[58]⟩ : ByteArray)) ++ a0_1).size + 1 ≤ 9223372036854775807 then ((cmp_Or_string.f k (([a0_3, (⟨#[106, 97, 114]⟩ : ByteArray)] : List ByteArray))).bind fun t675 => (if (((a0_0 ++ (⟨#[58]⟩ : ByteArray)) ++ a0_1) ++ (⟨#[58]⟩ : ByteArray)).size + t675.size ≤ 9223372036854775807 then (if ((((a0_0 ++ (⟨#[58]⟩ : ByteArray)) ++ a0_1) ++ (⟨#[58]⟩ : ByteArray)) ++ t675).size + 1 ≤ 9223372036854775807 then (if (((((a0_0 ++ (⟨#[58]⟩ : ByteArray)) ++ a0_1) ++ (⟨#[58]⟩ : ByteArray)) ++ t675) ++ (⟨#[58]⟩ : ByteArray)).size + a0_4.size ≤ 9223372036854775807 then (some ((((((a0_0 ++ (⟨#[58]⟩ : ByteArray)) ++ a0_1) ++ (⟨#[58]⟩ : ByteArray)) ++ t675) ++ (⟨#[58]⟩ : ByteArray)) ++ a0_4)) else (none)) else (none)) else (none))) else (none)) else (none)) else (none)
theorem coord_Key.mono : ∀ a0 a1 a2 a3 a4 a5 a6 a7 k, LeO (coord_Key.f k a0 a1 a2 a3 a4 a5 a6 a7) (coord_Key.f (k + 1) a0 a1 a2 a3 a4 a5 a6 a7) := by
 intro a0 a1 a2 a3 a4 a5 a6 a7 k
 unfold coord_Key.f
 have m0 := @cmp_Or_string.mono
 exact mo
def coord_Key.T1 : Bool × List (List Nat × List Nat) := (true, [([], []), ([0], [0]), ([1], [1]), ([], []), ([3], [3]), ([2, 4], [2, 4]), ([5], [5]), ([], []), ([7], [7]), ([8], [8]), ([9], [9]), ([6, 10], [6, 10]), ([11], [11]), ([], []), ([13], [13]), ([12, 14], [12, 14]), ([15, 10, 0, 1, 2, 3, 4, 5, 6, 7, 8, 9, 10, 11, 12, 13, 14, 15], [15])])
def coord_Key.B1 : List Nat := [0, 1, 3, 0, 8, 31, 63, 0, 128, 384, 896, 2047, 4095, 0, 8192, 32767, 65535]
theorem coord_Key.tab1 : rtab .any (opsOf Tryd.f25 1) = coord_Key.T1 := by kernel_rfl
theorem coord_Key.bits1 : waitsOk coord_Key.T1.2 coord_Key.B1 = true := by kernel_rfl
theorem coord_Key.calls (k : Nat) (a0_0 : ByteArray) (a0_1 : ByteArray) (a0_2 : ByteArray) (a0_3 : ByteArray) (a0_4 : ByteArray) (a0_5 : ByteArray) (a0_6 : Bool) (A0_7 : Option Addr) (c0_7 : Nat) (l0_7 : List (S183)) (r : ByteArray) (w : World) (hr0_7 : Kd.C k183 w A0_7 l0_7.length l0_7) (hc0_7 : l0_7.length ≤ c0_7) (hG : Glob w) (h : coord_Key.f k a0_0 a0_1 a0_2 a0_3 a0_4 a0_5 a0_6 l0_7 = some r) :
 Calls Tryd.prog 25 #[.agg #[.string a0_0, .string a0_1, .string a0_2, .string a0_3, .string a0_4, .string a0_5, .bool a0_6, .slice A0_7 l0_7.length c0_7]] w fun e w' => e = .returned (.string r) ∧ Below w.heap.size w w' := by
 have hu24 := Tryd.underlying24
 have HG := Aside0.mk hG
 clear hG
 have HR0_7 := Aside0.mk hr0_7
 have HC0_7 := Aside0.mk hc0_7
 clear hr0_7 hc0_7
 have HB := Aside0.mk (Below.refl w.heap.size w)
 have H : (if a0_0.size + 1 ≤ 9223372036854775807 then (if (a0_0 ++ (⟨#[58]⟩ : ByteArray)).size + a0_1.size ≤ 9223372036854775807 then (if ((a0_0 ++ (⟨#[58]⟩ : ByteArray)) ++ a0_1).size + 1 ≤ 9223372036854775807 then ((cmp_Or_string.f k (([a0_3, (⟨#[106, 97, 114]⟩ : ByteArray)] : List ByteArray))).bind fun t675 => (if (((a0_0 ++ (⟨#[58]⟩ : ByteArray)) ++ a0_1) ++ (⟨#[58]⟩ : ByteArray)).size + t675.size ≤ 9223372036854775807 then (if ((((a0_0 ++ (⟨#[58]⟩ : ByteArray)) ++ a0_1) ++ (⟨#[58]⟩ : ByteArray)) ++ t675).size + 1 ≤ 9223372036854775807 then (if (((((a0_0 ++ (⟨#[58]⟩ : ByteArray)) ++ a0_1) ++ (⟨#[58]⟩ : ByteArray)) ++ t675) ++ (⟨#[58]⟩ : ByteArray)).size + a0_4.size ≤ 9223372036854775807 then (some ((((((a0_0 ++ (⟨#[58]⟩ : ByteArray)) ++ a0_1) ++ (⟨#[58]⟩ : ByteArray)) ++ t675) ++ (⟨#[58]⟩ : ByteArray)) ++ a0_4)) else (none)) else (none)) else (none))) else (none)) else (none)) else (none)) = some r := h
 clear h
 obtain ⟨c2, H⟩ := gp H
 have c2b0 := eq_true c2
 have c2b1 := dT c2
 try have c2b2 : (9223372036854775807 < a0_0.size + 1) = False := eq_false (Nat.not_lt.2 c2)
 obtain ⟨c3, H⟩ := gp H
 have c3b0 := eq_true c3
 have c3b1 := dT c3
 try have c3b2 : (9223372036854775807 < (a0_0 ++ (⟨#[58]⟩ : ByteArray)).size + a0_1.size) = False := eq_false (Nat.not_lt.2 c3)
 have c3n : (a0_0.size + 1) + a0_1.size ≤ 9223372036854775807 := by have z_ := c3; simp only [ByteArray.size_append] at z_; exact z_
 have c3m : (9223372036854775807 < (a0_0.size + 1) + a0_1.size) = False := eq_false (Nat.not_lt.2 c3n)
 clear c3 c3b0 c3b1
 try clear c3b2
 obtain ⟨c4, H⟩ := gp H
 have c4b0 := eq_true c4
 have c4b1 := dT c4
 try have c4b2 : (9223372036854775807 < ((a0_0 ++ (⟨#[58]⟩ : ByteArray)) ++ a0_1).size + 1) = False := eq_false (Nat.not_lt.2 c4)
 have c4n : ((a0_0.size + 1) + a0_1.size) + 1 ≤ 9223372036854775807 := by have z_ := c4; simp only [ByteArray.size_append] at z_; exact z_
 have c4m : (9223372036854775807 < ((a0_0.size + 1) + a0_1.size) + 1) = False := eq_false (Nat.not_lt.2 c4n)
 clear c4 c4b0 c4b1
 try clear c4b2
 obtain ⟨y672, hy672⟩ : ∃ y_ : List ByteArray, y_ = (([a0_3, (⟨#[106, 97, 114]⟩ : ByteArray)] : List ByteArray)) := ⟨_, rfl⟩
 replace H : ((cmp_Or_string.f k y672).bind fun t675 => (if (((a0_0 ++ (⟨#[58]⟩ : ByteArray)) ++ a0_1) ++ (⟨#[58]⟩ : ByteArray)).size + t675.size ≤ 9223372036854775807 then (if ((((a0_0 ++ (⟨#[58]⟩ : ByteArray)) ++ a0_1) ++ (⟨#[58]⟩ : ByteArray)) ++ t675).size + 1 ≤ 9223372036854775807 then (if (((((a0_0 ++ (⟨#[58]⟩ : ByteArray)) ++ a0_1) ++ (⟨#[58]⟩ : ByteArray)) ++ t675) ++ (⟨#[58]⟩ : ByteArray)).size + a0_4.size ≤ 9223372036854775807 then (some ((((((a0_0 ++ (⟨#[58]⟩ : ByteArray)) ++ a0_1) ++ (⟨#[58]⟩ : ByteArray)) ++ t675) ++ (⟨#[58]⟩ : ByteArray)) ++ a0_4)) else (none)) else (none)) else (none))) = some r := by first | (rw [hy672]; with_reducible exact H) | (have H2_ := (Option.bind_some _ _).symm.trans H; rw [hy672]; with_reducible exact H2_) | (have H2_ := (Option.bind_some _ _).symm.trans H; with_reducible exact H2_) | with_reducible exact H | (rw [hy672]; exact H) | exact H
 have Ny672 := Aside0.mk hy672
 clear hy672
 replace H := bi H
 obtain ⟨t675, A50, H⟩ := H
 try dsimp only at H
 have A5 := Aside0.mk A50
 clear A50
 obtain ⟨c6, H⟩ := gp H
 have c6b0 := eq_true c6
 have c6b1 := dT c6
 try have c6b2 : (9223372036854775807 < (((a0_0 ++ (⟨#[58]⟩ : ByteArray)) ++ a0_1) ++ (⟨#[58]⟩ : ByteArray)).size + t675.size) = False := eq_false (Nat.not_lt.2 c6)
 have c6n : (((a0_0.size + 1) + a0_1.size) + 1) + t675.size ≤ 9223372036854775807 := by have z_ := c6; simp only [ByteArray.size_append] at z_; exact z_
 have c6m : (9223372036854775807 < (((a0_0.size + 1) + a0_1.size) + 1) + t675.size) = False := eq_false (Nat.not_lt.2 c6n)
 clear c6 c6b0 c6b1
 try clear c6b2
 obtain ⟨c7, H⟩ := gp H
 have c7b0 := eq_true c7
 have c7b1 := dT c7
 try have c7b2 : (9223372036854775807 < ((((a0_0 ++ (⟨#[58]⟩ : ByteArray)) ++ a0_1) ++ (⟨#[58]⟩ : ByteArray)) ++ t675).size + 1) = False := eq_false (Nat.not_lt.2 c7)
 have c7n : ((((a0_0.size + 1) + a0_1.size) + 1) + t675.size) + 1 ≤ 9223372036854775807 := by have z_ := c7; simp only [ByteArray.size_append] at z_; exact z_
 have c7m : (9223372036854775807 < ((((a0_0.size + 1) + a0_1.size) + 1) + t675.size) + 1) = False := eq_false (Nat.not_lt.2 c7n)
 clear c7 c7b0 c7b1
 try clear c7b2
 obtain ⟨c8, H⟩ := gp H
 have c8b0 := eq_true c8
 have c8b1 := dT c8
 try have c8b2 : (9223372036854775807 < (((((a0_0 ++ (⟨#[58]⟩ : ByteArray)) ++ a0_1) ++ (⟨#[58]⟩ : ByteArray)) ++ t675) ++ (⟨#[58]⟩ : ByteArray)).size + a0_4.size) = False := eq_false (Nat.not_lt.2 c8)
 have c8n : (((((a0_0.size + 1) + a0_1.size) + 1) + t675.size) + 1) + a0_4.size ≤ 9223372036854775807 := by have z_ := c8; simp only [ByteArray.size_append] at z_; exact z_
 have c8m : (9223372036854775807 < (((((a0_0.size + 1) + a0_1.size) + 1) + t675.size) + 1) + a0_4.size) = False := eq_false (Nat.not_lt.2 c8n)
 clear c8 c8b0 c8b1
 try clear c8b2
 obtain rfl := Option.some.inj H
 go_enter Tryd.func25, Tryd.ntmps25
 try go_wp2_with (first | (refine be 1 #[.string a0_0, .string a0_1, .string a0_2, .string a0_3, .string a0_4, .string a0_5, .bool a0_6, .slice A0_7 l0_7.length c0_7] 24 ?_; intro gb671 hg w9 hbox hb; have BK671 := Aside0.mk (hbox); have GW671 := gW hg; have GE671 := gW hg; replace HB := sB hb; clear hb hbox hg))
 replace BK671 := Aside0.mk (blk_drew BK671.out)
 replace HB := Aside0.mk (below_drew1 HB.out)
 refine start_ (n := 17) (S := fun w' => w'.cell? ⟨gb671, 0, none⟩ = some (.string a0_0) ∧ w'.cell? ⟨gb671, 1, none⟩ = some (.string a0_1) ∧ w'.cell? ⟨gb671, 2, none⟩ = some (.string a0_2) ∧ w'.cell? ⟨gb671, 3, none⟩ = some (.string a0_3) ∧ w'.cell? ⟨gb671, 4, none⟩ = some (.string a0_4) ∧ w'.cell? ⟨gb671, 5, none⟩ = some (.string a0_5) ∧ w'.cell? ⟨gb671, 6, none⟩ = some (.bool a0_6) ∧ w'.cell? ⟨gb671, 7, none⟩ = some (.slice A0_7 l0_7.length c0_7)) (ds := []) #[false, false, false, false, false, false, false, false, false, false, false, false, false, false, false, false, false] (by kernel_rfl) rfl rfl ⟨(blk_cell BK671.out 0).trans rfl, (blk_cell BK671.out 1).trans rfl, (blk_cell BK671.out 2).trans rfl, (blk_cell BK671.out 3).trans rfl, (blk_cell BK671.out 4).trans rfl, (blk_cell BK671.out 5).trans rfl, (blk_cell BK671.out 6).trans rfl, (blk_cell BK671.out 7).trans rfl⟩ (fun hHeld => ?_); refine with_tabW coord_Key.tab1 coord_Key.bits1 (fun HT_ HW_ => ?_)
 generalize w9.drew = w10 at BK671 HB hHeld ⊢
 refine pz 0 (some 3) HT_ ?_
 refine pz 3 (some 6) HT_ ?_
 refine pz 7 (some 10) HT_ ?_
 refine pz 13 (some 16) HT_ ?_
 refine tm 1 (some 4) HT_ HW_ hHeld ?_
 refine pz 2 (some 5) HT_ ?_
 refine tm 4 (some 7) HT_ HW_ hHeld ?_
 refine pz 5 (some 8) HT_ ?_
 refine pz 6 (some 9) HT_ ?_
 refine tm 8 (some 11) HT_ HW_ hHeld ?_
 refine tm 14 (some 17) HT_ HW_ hHeld ?_
 refine on 9 (some 12) HT_ (fun K hK => ?_)
 refine Kd.R_lit_step Kd.string _ 9 ?hg (N := 12) ?hd (xs := ([a0_3, (⟨#[106, 97, 114]⟩ : ByteArray)] : List ByteArray)) (inner := [.string a0_3, .string (⟨#[106, 97, 114]⟩ : ByteArray)]) (ok := fun _ => True) (okp := fun _ => True) ?hr ?hp (fun _ hk => hk) trivial (Below.refl _ _) (Nat.le_refl _) (by simp) ?_; (case hd => rfl); (case hg => rfl); (case hr => first | (go_simp; done) | (go_simp; rfl)); (case hp => exact (Reps.one (show Kd.M Kd.string _ _ _ a0_3 [.string a0_3] from rfl) (Reps.one (show Kd.M Kd.string _ _ _ (⟨#[106, 97, 114]⟩ : ByteArray) [.string (⟨#[106, 97, 114]⟩ : ByteArray)] from rfl) (Reps.none _ _))))
 intro v673 w11 ho12 hb hg_ hnew_
 clear hg_ hnew_
 (first | rw [← Ny672.out] at ho12 | (simp only [Int.reduceToNat] at ho12; rw [← Ny672.out] at ho12))
 have HO674 := Aside0.mk (Kd.R_lower ho12 (below_size bG))
 replace BK671 := kB BK671 hb
 replace HB := sB hb
 clear hb ho12
 obtain ⟨Ao13, co13, eo13⟩ := Kd.R_slice HO674.out
 (first | subst eo13 | (injection eo13 with f1_ f2_ f3_; have f4_ := f1_.symm; have f5_ := f3_.symm; clear f1_ f2_ f3_; subst f4_; subst f5_))
 refine hK.out _ _ ⟨(blk_cell BK671.out 0).trans rfl, (blk_cell BK671.out 1).trans rfl, (blk_cell BK671.out 2).trans rfl, (blk_cell BK671.out 3).trans rfl, (blk_cell BK671.out 4).trans rfl, (blk_cell BK671.out 5).trans rfl, (blk_cell BK671.out 6).trans rfl, (blk_cell BK671.out 7).trans rfl⟩ (fun hHeld => ?_)
 clear hK K
 refine nz (some 12) ?_
 refine on 10 (some 13) HT_ (fun K hK => ?_)
 refine goes_ Tryd.func64 (by kernel_rfl) rfl #[.slice Ao13 y672.length co13] (by rfl) rfl rfl mA ?_
 with_reducible refine (cmp_Or_string.calls k _ _ y672 t675 _ ?side1 ?side2 (gS HG) A5.out).mono ?_
 (case side1 => repeat (first | exact (Kd.R_reads' HO674.out).2.2 | (with_reducible refine Kd.C_alloc ?_ _) | (with_reducible refine Kd.C_drewN ?_ _) | (with_reducible refine Kd.C_drew ?_)))
 (case side2 => exact (Kd.R_reads' HO674.out).2.1)
 rintro e w' ⟨rfl, ⟨nd, rfl⟩⟩
 refine ⟨_, rfl, ?_⟩
 refine hK.out _ _ ⟨(blk_cell BK671.out 0).trans rfl, (blk_cell BK671.out 1).trans rfl, (blk_cell BK671.out 2).trans rfl, (blk_cell BK671.out 3).trans rfl, (blk_cell BK671.out 4).trans rfl, (blk_cell BK671.out 5).trans rfl, (blk_cell BK671.out 6).trans rfl, (blk_cell BK671.out 7).trans rfl⟩ (fun hHeld => ?_)
 clear hK K
 refine nz (some 13) ?_
 refine pz 11 (some 14) HT_ ?_
 refine pz 12 (some 15) HT_ ?_
 refine pz 15 (some 18) HT_ ?_
 refine pz 16 (some 2) HT_ ?_
 refine done_ (done_of HT_.out (by kernel_rfl)) ?_
 try go_wp2
 go_ret
 exact ⟨eA, bG⟩
end Go.Proofs.YtgdjfcmmpjcaaaaDoor.Q
namespace Go.Proofs
open Go.Shelf
def Tryd.lays161_ren : Go.Shelf.Ren := ⟨fun | 161 => 108 | 231 => 135 | 227 => 136 | 233 => 137 | 235 => 138 | 228 => 146 | 197 => 155 | 151 => 157 | 260 => 167 | 152 => 144 | 137 => 68 | 119 => 163 | 224 => 159 | 225 => 158 | 217 => 105 | 266 => 134 | n => n, fun | 9 => 9 | 4 => 4 | 3 => 3 | 5 => 5 | 117 => 144 | 116 => 143 | 0 => 0 | 124 => 147 | 105 => 152 | 21 => 21 | 119 => 165 | 46 => 41 | 139 => 168 | 138 => 167 | n => n, fun | 3 => 1 | 4 => 2 | n => n⟩
theorem Tryd.lays161 : Go.Proofs.Lays.n161 Tryd.prog Tryd.lays161_ren := {
  mixed := by kernel_rfl
  f119 := Tryd.func163.trans (congrArg some (by kernel_rfl))
  f137 := Tryd.func68.trans (congrArg some (by kernel_rfl))
  f151 := Tryd.func157.trans (congrArg some (by kernel_rfl))
  f152 := Tryd.func144.trans (congrArg some (by kernel_rfl))
  f161 := Tryd.func108.trans (congrArg some (by kernel_rfl))
  f197 := Tryd.func155.trans (congrArg some (by kernel_rfl))
  f217 := Tryd.func105.trans (congrArg some (by kernel_rfl))
  f224 := Tryd.func159.trans (congrArg some (by kernel_rfl))
  f225 := Tryd.func158.trans (congrArg some (by kernel_rfl))
  f227 := Tryd.func136.trans (congrArg some (by kernel_rfl))
  f228 := Tryd.func146.trans (congrArg some (by kernel_rfl))
  f231 := Tryd.func135.trans (congrArg some (by kernel_rfl))
  f233 := Tryd.func137.trans (congrArg some (by kernel_rfl))
  f235 := Tryd.func138.trans (congrArg some (by kernel_rfl))
  f260 := Tryd.func167.trans (congrArg some (by kernel_rfl))
  f266 := Tryd.func134.trans (congrArg some (by kernel_rfl))
  t0 := Tryd.underlying0
  a0 := Tryd.isAgg0
  z0 := Tryd.sizeOf0
  v0 := Tryd.zeroValue0
  t3 := Tryd.underlying3
  a3 := Tryd.isAgg3
  z3 := Tryd.sizeOf3
  v3 := Tryd.zeroValue3
  t4 := Tryd.underlying4
  a4 := Tryd.isAgg4
  z4 := Tryd.sizeOf4
  v4 := Tryd.zeroValue4
  t5 := Tryd.underlying5
  a5 := Tryd.isAgg5
  z5 := Tryd.sizeOf5
  v5 := Tryd.zeroValue5
  t9 := Tryd.underlying9
  a9 := Tryd.isAgg9
  z9 := Tryd.sizeOf9
  v9 := Tryd.zeroValue9
  t21 := Tryd.underlying21
  a21 := Tryd.isAgg21
  z21 := Tryd.sizeOf21
  v21 := Tryd.zeroValue21
  t46 := Tryd.underlying41
  a46 := Tryd.isAgg41
  z46 := Tryd.sizeOf41
  v46 := Tryd.zeroValue41
  t105 := Tryd.underlying152
  a105 := Tryd.isAgg152
  z105 := Tryd.sizeOf152
  v105 := Tryd.zeroValue152
  t116 := Tryd.underlying143
  a116 := Tryd.isAgg143
  z116 := Tryd.sizeOf143
  t117 := Tryd.underlying144
  a117 := Tryd.isAgg144
  z117 := Tryd.sizeOf144
  v117 := Tryd.zeroValue144
  t119 := Tryd.underlying165
  a119 := Tryd.isAgg165
  z119 := Tryd.sizeOf165
  t124 := Tryd.underlying147
  a124 := Tryd.isAgg147
  z124 := Tryd.sizeOf147
  v124 := Tryd.zeroValue147
  t138 := Tryd.underlying167
  a138 := Tryd.isAgg167
  z138 := Tryd.sizeOf167
  v138 := Tryd.zeroValue167
  t139 := Tryd.underlying168
  a139 := Tryd.isAgg168
  z139 := Tryd.sizeOf168
  v139 := Tryd.zeroValue168
  g3 := by kernel_rfl
  g4 := by kernel_rfl }
open Go.RowKit in
theorem Tryd.strings_TrimLeft_one (s : ByteArray) (c : UInt8) (hc : c.toNat < 128) (w : World) :
    Calls Tryd.prog 108 #[.string s, .string ⟨#[c]⟩] w fun e w' => e = .returned (.string ⟨(Lib.trimLeftB s.data.toList c).toArray⟩) ∧ w' = w := Any.strings_TrimLeft_one Tryd.lays161 s c hc w
def Tryd.lays137_ren : Go.Shelf.Ren := ⟨fun | 137 => 68 | 217 => 105 | 266 => 134 | n => n, fun | 9 => 9 | 5 => 5 | 3 => 3 | n => n, fun | n => n⟩
theorem Tryd.lays137 : Go.Proofs.Lays.n137 Tryd.prog Tryd.lays137_ren := {
  mixed := by kernel_rfl
  f137 := Tryd.func68.trans (congrArg some (by kernel_rfl))
  f217 := Tryd.func105.trans (congrArg some (by kernel_rfl))
  f266 := Tryd.func134.trans (congrArg some (by kernel_rfl))
  t3 := Tryd.underlying3
  a3 := Tryd.isAgg3
  z3 := Tryd.sizeOf3
  v3 := Tryd.zeroValue3
  t5 := Tryd.underlying5
  a5 := Tryd.isAgg5
  z5 := Tryd.sizeOf5
  v5 := Tryd.zeroValue5
  t9 := Tryd.underlying9
  a9 := Tryd.isAgg9
  z9 := Tryd.sizeOf9
  v9 := Tryd.zeroValue9 }
open Go.RowKit in
theorem Tryd.strings_IndexByte (s : ByteArray) (c : Int) (w : World) :
    Calls Tryd.prog 68 #[.string s, .int .u8 c] w fun e w' => e = .returned (.int .i64 (Lib.indexByte s.data.toList c.toNat.toUInt8)) ∧ w' = w := Any.strings_IndexByte Tryd.lays137 s c w
def Tryd.lays219_ren : Go.Shelf.Ren := ⟨fun | 219 => 139 | 217 => 105 | 225 => 158 | 224 => 159 | 267 => 160 | 266 => 134 | 314 => 168 | n => n, fun | 9 => 9 | 3 => 3 | 4 => 4 | 5 => 5 | 46 => 41 | 146 => 162 | 51 => 161 | n => n, fun | 1 => 0 | n => n⟩
def Tryd.lays144_ren : Go.Shelf.Ren := ⟨fun | 144 => 79 | 143 => 110 | 219 => 139 | 217 => 105 | 225 => 158 | 224 => 159 | 267 => 160 | 266 => 134 | 314 => 168 | n => n, fun | 9 => 9 | 4 => 4 | 3 => 3 | 5 => 5 | 46 => 41 | 146 => 162 | 51 => 161 | n => n, fun | 1 => 0 | n => n⟩
theorem Tryd.lays144 : Go.Proofs.Lays.n144 Tryd.prog Tryd.lays144_ren := {
  mixed := by kernel_rfl
  f143 := Tryd.func110.trans (congrArg some (by kernel_rfl))
  f144 := Tryd.func79.trans (congrArg some (by kernel_rfl))
  f217 := Tryd.func105.trans (congrArg some (by kernel_rfl))
  f219 := Tryd.func139.trans (congrArg some (by kernel_rfl))
  f224 := Tryd.func159.trans (congrArg some (by kernel_rfl))
  f225 := Tryd.func158.trans (congrArg some (by kernel_rfl))
  f266 := Tryd.func134.trans (congrArg some (by kernel_rfl))
  f267 := Tryd.func160.trans (congrArg some (by kernel_rfl))
  f314 := Tryd.func168.trans (congrArg some (by kernel_rfl))
  t3 := Tryd.underlying3
  a3 := Tryd.isAgg3
  z3 := Tryd.sizeOf3
  v3 := Tryd.zeroValue3
  t4 := Tryd.underlying4
  a4 := Tryd.isAgg4
  z4 := Tryd.sizeOf4
  v4 := Tryd.zeroValue4
  t5 := Tryd.underlying5
  a5 := Tryd.isAgg5
  z5 := Tryd.sizeOf5
  v5 := Tryd.zeroValue5
  t9 := Tryd.underlying9
  a9 := Tryd.isAgg9
  z9 := Tryd.sizeOf9
  v9 := Tryd.zeroValue9
  t46 := Tryd.underlying41
  a46 := Tryd.isAgg41
  z46 := Tryd.sizeOf41
  v46 := Tryd.zeroValue41
  t51 := Tryd.underlying161
  a51 := Tryd.isAgg161
  z51 := Tryd.sizeOf161
  v51 := Tryd.zeroValue161
  t146 := Tryd.underlying162
  a146 := Tryd.isAgg162
  z146 := Tryd.sizeOf162
  v146 := Tryd.zeroValue162
  g1 := by kernel_rfl }
open Go.RowKit Go.Lib in
theorem Tryd.strings_Contains (s sub : ByteArray) (m : Int) (w : World) (hs : s.size < 4294967281) (hm : w.cell? ⟨0, 0, none⟩ = some (.int .i64 m)) :
    Calls Tryd.prog 79 #[.string s, .string sub] w fun e w' => e = .returned (.bool (Lib.contains s.data.toList sub.data.toList)) ∧ w' = w := Any.strings_Contains Tryd.lays144 s sub m w hs hm
def Tryd.lays221_ren : Go.Shelf.Ren := ⟨fun | 221 => 103 | 268 => 132 | 138 => 133 | 143 => 110 | 195 => 154 | 197 => 155 | 218 => 156 | 219 => 139 | 260 => 167 | 217 => 105 | 225 => 158 | 224 => 159 | 267 => 160 | 266 => 134 | 314 => 168 | n => n, fun | 9 => 9 | 3 => 3 | 31 => 43 | 4 => 4 | 0 => 0 | 105 => 152 | 21 => 21 | 5 => 5 | 46 => 41 | 119 => 165 | 139 => 168 | 138 => 167 | 146 => 162 | 51 => 161 | n => n, fun | 1 => 0 | 3 => 1 | 4 => 2 | n => n⟩
def Tryd.lays146_ren : Go.Shelf.Ren := ⟨fun | 146 => 65 | 221 => 103 | 268 => 132 | 138 => 133 | 143 => 110 | 195 => 154 | 197 => 155 | 218 => 156 | 219 => 139 | 260 => 167 | 217 => 105 | 225 => 158 | 224 => 159 | 267 => 160 | 266 => 134 | 314 => 168 | n => n, fun | 9 => 9 | 31 => 43 | 3 => 3 | 4 => 4 | 0 => 0 | 105 => 152 | 21 => 21 | 5 => 5 | 46 => 41 | 119 => 165 | 139 => 168 | 138 => 167 | 146 => 162 | 51 => 161 | n => n, fun | 1 => 0 | 3 => 1 | 4 => 2 | n => n⟩
theorem Tryd.lays146 : Go.Proofs.Lays.n146 Tryd.prog Tryd.lays146_ren := {
  mixed := by kernel_rfl
  f138 := Tryd.func133.trans (congrArg some (by kernel_rfl))
  f143 := Tryd.func110.trans (congrArg some (by kernel_rfl))
  f146 := Tryd.func65.trans (congrArg some (by kernel_rfl))
  f195 := Tryd.func154.trans (congrArg some (by kernel_rfl))
  f197 := Tryd.func155.trans (congrArg some (by kernel_rfl))
  f217 := Tryd.func105.trans (congrArg some (by kernel_rfl))
  f218 := Tryd.func156.trans (congrArg some (by kernel_rfl))
  f219 := Tryd.func139.trans (congrArg some (by kernel_rfl))
  f221 := Tryd.func103.trans (congrArg some (by kernel_rfl))
  f224 := Tryd.func159.trans (congrArg some (by kernel_rfl))
  f225 := Tryd.func158.trans (congrArg some (by kernel_rfl))
  f260 := Tryd.func167.trans (congrArg some (by kernel_rfl))
  f266 := Tryd.func134.trans (congrArg some (by kernel_rfl))
  f267 := Tryd.func160.trans (congrArg some (by kernel_rfl))
  f268 := Tryd.func132.trans (congrArg some (by kernel_rfl))
  f314 := Tryd.func168.trans (congrArg some (by kernel_rfl))
  t0 := Tryd.underlying0
  a0 := Tryd.isAgg0
  z0 := Tryd.sizeOf0
  v0 := Tryd.zeroValue0
  t3 := Tryd.underlying3
  a3 := Tryd.isAgg3
  z3 := Tryd.sizeOf3
  v3 := Tryd.zeroValue3
  t4 := Tryd.underlying4
  a4 := Tryd.isAgg4
  z4 := Tryd.sizeOf4
  v4 := Tryd.zeroValue4
  t5 := Tryd.underlying5
  a5 := Tryd.isAgg5
  z5 := Tryd.sizeOf5
  v5 := Tryd.zeroValue5
  t9 := Tryd.underlying9
  a9 := Tryd.isAgg9
  z9 := Tryd.sizeOf9
  v9 := Tryd.zeroValue9
  t21 := Tryd.underlying21
  a21 := Tryd.isAgg21
  z21 := Tryd.sizeOf21
  v21 := Tryd.zeroValue21
  t31 := Tryd.underlying43
  a31 := Tryd.isAgg43
  z31 := Tryd.sizeOf43
  v31 := Tryd.zeroValue43
  t46 := Tryd.underlying41
  a46 := Tryd.isAgg41
  z46 := Tryd.sizeOf41
  v46 := Tryd.zeroValue41
  t51 := Tryd.underlying161
  a51 := Tryd.isAgg161
  z51 := Tryd.sizeOf161
  v51 := Tryd.zeroValue161
  t105 := Tryd.underlying152
  a105 := Tryd.isAgg152
  z105 := Tryd.sizeOf152
  v105 := Tryd.zeroValue152
  t119 := Tryd.underlying165
  a119 := Tryd.isAgg165
  z119 := Tryd.sizeOf165
  t138 := Tryd.underlying167
  a138 := Tryd.isAgg167
  z138 := Tryd.sizeOf167
  v138 := Tryd.zeroValue167
  t139 := Tryd.underlying168
  a139 := Tryd.isAgg168
  z139 := Tryd.sizeOf168
  v139 := Tryd.zeroValue168
  t146 := Tryd.underlying162
  a146 := Tryd.isAgg162
  z146 := Tryd.sizeOf162
  v146 := Tryd.zeroValue162
  g1 := by kernel_rfl
  g3 := by kernel_rfl
  g4 := by kernel_rfl }
open Go.RowKit Go.Lib in
theorem Tryd.strings_Split (s sep : ByteArray) (m : Int) (w : World) (hs : s.size < 4294967281) (hm : w.cell? ⟨0, 0, none⟩ = some (.int .i64 m)) (h1 : 1 ≤ sep.size) :
    Calls Tryd.prog 65 #[.string s, .string sep] w fun e w' =>
      e = .returned (.slice (some ⟨w.heap.size, 0, none⟩) (Lib.countB s sep + 1) (Lib.countB s sep + 1)) ∧ w' = w.alloc (.cells ((Lib.splitB sep 0 (Lib.countB s sep) s).map Value.string).toArray 9) := Any.strings_Split Tryd.lays146 (by kernel_rfl) s sep m w hs hm h1
end Go.Proofs
namespace Go.Proofs.YtgdjfcmmpjcaaaaDoor.Q
open Go.RowKit Go.Proofs.YtgdjfcmmpjcaaaaDoorW.PrintWords Go.Proofs.YtgdjfcmmpjcaaaaDoorW.PrintLast Go.Proofs.YtgdjfcmmpjcaaaaDoorW.Own Go.Proofs.YtgdjfcmmpjcaaaaDoorW.PrintMore
attribute [local go_sem] max2_int min2_int max_two min_two max_three min_three max_four min_four   -- for this text's walks alone
set_option linter.unusedVariables false
set_option linter.unusedSimpArgs false
set_option maxHeartbeats 20000000
set_option maxRecDepth 100000
def strings_IndexByte.f (a0 : ByteArray) (a1 : Int) : Option Int := some (Lib.indexByte a0.data.toList a1.toNat.toUInt8)
theorem strings_IndexByte.calls (a0 : ByteArray) (a1 : Int) (r : Int) (w : World) (hG : Glob w) (h : strings_IndexByte.f a0 a1 = some r) :
 Calls Tryd.prog 68 #[.string a0, .int .u8 a1] w fun e w' => e = .returned (.int .i64 r) ∧ Drawn0 w w' := by
 obtain rfl := Option.some.inj h
 exact (Tryd.strings_IndexByte a0 a1 w).mono fun e w' hh => ⟨hh.1, ⟨⟨0, hh.2⟩⟩⟩
def words_Right_1.f (a0 : Int) : Option (Bool) := if a0 < 33 then (some true) else (if a0 > 126 then (some true) else ((strings_IndexByte.f (⟨#[91, 93, 40, 41, 44]⟩ : ByteArray) a0).bind fun t108 => (some (decide (t108 ≥ 0)))))
theorem words_Right_1.calls (a0 : Int) (r : Bool) (w : World) (hG : Glob w) (h : words_Right_1.f a0 = some r) :
 Calls Tryd.prog 67 #[.int .u8 a0] w fun e w' => e = .returned (.bool r) ∧ Drawn0 w w' := by
 have HG := Aside0.mk hG
 clear hG
 have H : (if a0 < 33 then (some true) else (if a0 > 126 then (some true) else ((strings_IndexByte.f (⟨#[91, 93, 40, 41, 44]⟩ : ByteArray) a0).bind fun t108 => (some (decide (t108 ≥ 0)))))) = some r := h
 clear h
 by_cases c2 : a0 < 33
 ·rw [if_pos c2] at H
  have c2b0 := dT c2
  clear c2
  obtain rfl := Option.some.inj H
  go_enter Tryd.func67, Tryd.ntmps67
  go_wp2
  go_ret
  exact ⟨by first | rfl | (simp; done) | (simp [*]; done), by repeat (first | exact Drawn0.refl _ | apply Drawn0.step)⟩
 rw [if_neg c2] at H
 have c2b0 := dF c2
 clear c2
 by_cases c3 : a0 > 126
 ·rw [if_pos c3] at H
  have c3b0 := dT c3
  clear c3
  obtain rfl := Option.some.inj H
  go_enter Tryd.func67, Tryd.ntmps67
  go_wp2
  go_ret
  exact ⟨by first | rfl | (simp; done) | (simp [*]; done), by repeat (first | exact Drawn0.refl _ | apply Drawn0.step)⟩
 rw [if_neg c3] at H
 have c3b0 := dF c3
 clear c3
 replace H := bi H
 obtain ⟨t108, A40, H⟩ := H
 try dsimp only at H
 have A4 := Aside0.mk A40
 clear A40
 obtain rfl := Option.some.inj H
 go_enter Tryd.func67, Tryd.ntmps67
 go_wp2_with (first | (go_at_call 68; (with_reducible refine (strings_IndexByte.calls (⟨#[91, 93, 40, 41, 44]⟩ : ByteArray) a0 t108 _ ?side1 A4.out).mono ?_); (case side1 => exact Glob.drawn HG.out (by repeat (first | exact Drawn0.refl _ | apply Drawn0.step))); rintro e w' ⟨rfl, ⟨nd, rfl⟩⟩))
 go_ret
 exact ⟨by first | rfl | (simp; done) | (simp [*]; done), by repeat (first | exact Drawn0.refl _ | apply Drawn0.step)⟩
def slices_IndexFunc_byte_byte.l0 : Nat → List Int → Int → Int → Option (Int)
 | 0, _, _, _ => none
 | k + 1, x0, x7, x8 => if x8 < x7 then (if 0 ≤ x8 then (if x8 < (x0.length : Int) then ((words_Right_1.f (rd x0 x8)).bind fun t110 => (if t110 = true then (some x8) else (slices_IndexFunc_byte_byte.l0 k x0 x7 (wrap64 (x8 + 1))))) else (none)) else (none)) else (some (-1))
def slices_IndexFunc_byte_byte.f (k : Nat) (l0 : List Int)  : Option (Int) := slices_IndexFunc_byte_byte.l0 k l0 (l0.length : Int) 0
theorem slices_IndexFunc_byte_byte.mono_l : ∀ k, (∀ y0 y1 y2, LeO (slices_IndexFunc_byte_byte.l0 k y0 y1 y2) (slices_IndexFunc_byte_byte.l0 (k + 1) y0 y1 y2))
 | 0 => fun _ _ _ r h => by simp [slices_IndexFunc_byte_byte.l0] at h
 | k + 1 => by
  have ih0 := slices_IndexFunc_byte_byte.mono_l k
  ·intro y0 y1 y2
   unfold slices_IndexFunc_byte_byte.l0
   exact mo
theorem slices_IndexFunc_byte_byte.mono : ∀ a0 k, LeO (slices_IndexFunc_byte_byte.f k a0) (slices_IndexFunc_byte_byte.f (k + 1) a0) := by
 intro a0 k
 have ih0 := slices_IndexFunc_byte_byte.mono_l k
 unfold slices_IndexFunc_byte_byte.f
 exact mo
theorem slices_IndexFunc_byte_byte.calls (k : Nat) (A0 : Option Addr) (c0 : Nat) (l0 : List Int)  (r : Int) (w : World) (hr0 : Kd.C (Kd.int .u8) w A0 l0.length l0) (hc0 : l0.length ≤ c0) (hG : Glob w) (h : slices_IndexFunc_byte_byte.f k l0 = some r) :
 Calls Tryd.prog 104 #[.slice A0 l0.length c0, .func (.func 67) #[] #[]] w fun e w' => e = .returned (.int .i64 r) ∧ Drawn0 w w' := by
 have HG := Aside0.mk hG
 clear hG
 have HR0 := Aside0.mk hr0
 have HC0 := Aside0.mk hc0
 clear hr0 hc0
 have H : (slices_IndexFunc_byte_byte.l0 k l0 (l0.length : Int) 0) = some r := h
 clear h
 have H' := Aside0.mk H
 clear H
 go_enter Tryd.func104, Tryd.ntmps104
 go_wp2
 go_loopg [8] k (fun kq v8 w' => ∃ (x8_1 : Int), v8 = .int .i64 x8_1 ∧ Aside0 (slices_IndexFunc_byte_byte.l0 kq l0 (l0.length : Int) x8_1 = some r) ∧ Aside0 (kq ≤ k) ∧ Drawn0 w w')
 case atStart => exact ⟨(0), cA, H', ⟨Nat.le_refl _⟩, by repeat (first | exact Drawn0.refl _ | apply Drawn0.step)⟩
 clear H'
 try clear c1
 try clear p2
 obtain ⟨x8_1, rfl, HA, HK1, ⟨m1, rfl⟩⟩ := hrel
 cases gk with
 | zero => exact absurd HA.out (by simp [slices_IndexFunc_byte_byte.l0])
 | succ k1 =>
  have H := HA.out
  clear HA
  simp only [slices_IndexFunc_byte_byte.l0] at H
  by_cases c3 : x8_1 < (l0.length : Int)
  rotate_left
  ·rw [if_neg c3] at H
   have c3b0 := dF c3
   clear c3
   obtain rfl := Option.some.inj H
   go_wp2
   go_ret
   exact ⟨by first | rfl | (simp; done) | (simp [*]; done), by repeat (first | exact Drawn0.refl _ | apply Drawn0.step)⟩
  rw [if_pos c3] at H
  have c3b0 := dT c3
  clear c3
  obtain ⟨c4, H⟩ := gp H
  have c4b0 := dT c4
  clear c4
  obtain ⟨c5, H⟩ := gp H
  have c5b0 := dT c5
  clear c5
  replace H := bi H
  obtain ⟨t110, A60, H⟩ := H
  try dsimp only at H
  have A6 := Aside0.mk A60
  clear A60
  by_cases c7 : t110 = true
  ·subst c7
   replace H : (some x8_1) = some r := by rw [if_pos rfl] at H; exact H
   obtain rfl := Option.some.inj H
   have p109 : 0 ≤ (x8_1 : Int) := dA
   have q109 : x8_1 < (l0.length : Int) := dA
   obtain ⟨ad109, e109, hx109_0⟩ := Kd.at_int HR0.out x8_1 p109 q109
   cases e109
   replace p109 := eq_true p109
   replace q109 := eq_true q109
   go_wp2_with (first | (go_at_call 67; (with_reducible refine (words_Right_1.calls (rd l0 x8_1) true _ ?side1 A6.out).mono ?_); (case side1 => exact Glob.drawn HG.out (by repeat (first | exact Drawn0.refl _ | apply Drawn0.step))); rintro e w' ⟨rfl, ⟨nd, rfl⟩⟩))
   go_ret
   exact ⟨by first | rfl | (simp; done) | (simp [*]; done), by repeat (first | exact Drawn0.refl _ | apply Drawn0.step)⟩
  replace c7 := Bool.eq_false_iff.mpr c7
  subst c7
  replace H : (slices_IndexFunc_byte_byte.l0 k1 l0 (l0.length : Int) (wrap64 (x8_1 + 1))) = some r := by rw [if_neg nF] at H; exact H
  have H' := Aside0.mk H
  clear H
  have p109 : 0 ≤ (x8_1 : Int) := dA
  have q109 : x8_1 < (l0.length : Int) := dA
  obtain ⟨ad109, e109, hx109_0⟩ := Kd.at_int HR0.out x8_1 p109 q109
  cases e109
  replace p109 := eq_true p109
  replace q109 := eq_true q109
  go_wp2_with (first | (go_at_call 67; (with_reducible refine (words_Right_1.calls (rd l0 x8_1) false _ ?side1 A6.out).mono ?_); (case side1 => exact Glob.drawn HG.out (by repeat (first | exact Drawn0.refl _ | apply Drawn0.step))); rintro e w' ⟨rfl, ⟨nd, rfl⟩⟩))
  go_roundg k1
  case measure => have := HK1.out; omega
  case rel => exact ⟨(wrap64 (x8_1 + 1)), cA, H', ⟨by have := HK1.out; omega⟩, by repeat (first | exact Drawn0.refl _ | apply Drawn0.step)⟩
def slices_ContainsFunc_byte_byte.f (k : Nat) (l0 : List Int)  : Option (Bool) := (slices_IndexFunc_byte_byte.f k l0).bind fun t111 => (some (decide (t111 ≥ 0)))
theorem slices_ContainsFunc_byte_byte.mono : ∀ a0 k, LeO (slices_ContainsFunc_byte_byte.f k a0) (slices_ContainsFunc_byte_byte.f (k + 1) a0) := by
 intro a0 k
 unfold slices_ContainsFunc_byte_byte.f
 have m0 := @slices_IndexFunc_byte_byte.mono
 exact mo
theorem slices_ContainsFunc_byte_byte.calls (k : Nat) (A0 : Option Addr) (c0 : Nat) (l0 : List Int)  (r : Bool) (w : World) (hr0 : Kd.C (Kd.int .u8) w A0 l0.length l0) (hc0 : l0.length ≤ c0) (hG : Glob w) (h : slices_ContainsFunc_byte_byte.f k l0 = some r) :
 Calls Tryd.prog 66 #[.slice A0 l0.length c0, .func (.func 67) #[] #[]] w fun e w' => e = .returned (.bool r) ∧ Drawn0 w w' := by
 have HG := Aside0.mk hG
 clear hG
 have HR0 := Aside0.mk hr0
 have HC0 := Aside0.mk hc0
 clear hr0 hc0
 have H : ((slices_IndexFunc_byte_byte.f k l0).bind fun t111 => (some (decide (t111 ≥ 0)))) = some r := h
 clear h
 replace H := bi H
 obtain ⟨t111, A30, H⟩ := H
 try dsimp only at H
 have A3 := Aside0.mk A30
 clear A30
 obtain rfl := Option.some.inj H
 go_enter Tryd.func66, Tryd.ntmps66
 go_wp2_with (first | (refine gl (some 7) Tryd.func104 #[.slice A0 l0.length c0, .func (.func 67) #[] #[]] ?_; (with_reducible refine (slices_IndexFunc_byte_byte.calls k _ _ l0  t111 _ ?side1 ?side2 ?side3 A3.out).mono ?_); (case side1 => repeat (first | exact HR0.out | (with_reducible refine Kd.C_alloc ?_ _) | (with_reducible refine Kd.C_drewN ?_ _) | (with_reducible refine Kd.C_drew ?_))); (case side2 => exact HC0.out); (case side3 => exact Glob.drawn HG.out (by repeat (first | exact Drawn0.refl _ | apply Drawn0.step))); rintro e w' ⟨rfl, ⟨nd, rfl⟩⟩; refine ⟨_, rfl, ?_⟩))
 go_ret
 exact ⟨by first | rfl | (simp; done) | (simp [*]; done), by repeat (first | exact Drawn0.refl _ | apply Drawn0.step)⟩
def words_Right.f (k : Nat) (a0 : ByteArray) : Option Bool := if 1 ≤ a0.size ∧ a0.size ≤ 100 then (slices_ContainsFunc_byte_byte.f k (bytesOf a0)).bind fun t => some (!t) else some false
theorem words_Right.mono : ∀ a0 k, LeO (words_Right.f k a0) (words_Right.f (k + 1) a0) := by
 intro a0 k
 unfold words_Right.f
 exact LeO.ite (LeO.bind (slices_ContainsFunc_byte_byte.mono _ _) (fun _ => LeO.refl _)) (LeO.refl _)
theorem words_Right.calls (k : Nat) (a0 : ByteArray) (r : Bool) (w : World) (hG : Glob w) (h : words_Right.f k a0 = some r) :
 Calls Tryd.prog 28 #[.string a0] w fun e w' => e = .returned (.bool r) ∧ Below w.heap.size w w' := by
 unfold words_Right.f at h
 go_enter Tryd.func28, Tryd.ntmps28
 by_cases c1 : 1 ≤ a0.size
 rotate_left
 ·rw [if_neg (fun h => c1 h.1)] at h
  obtain rfl := Option.some.inj h
  have d1 : decide (1 ≤ (a0.size : Int)) = false := decide_eq_false (by omega)
  have d1' : decide (1 ≤ a0.size) = false := decide_eq_false (by omega)
  go_wp2
  go_ret
  exact ⟨rfl, Below.refl _ _⟩
 by_cases c2 : a0.size ≤ 100
 ·rw [if_pos ⟨c1, c2⟩] at h
  obtain ⟨t, ht, h⟩ := Option.bind_eq_some_iff.1 h
  obtain rfl := Option.some.inj h
  have d1 : decide (1 ≤ (a0.size : Int)) = true := decide_eq_true (by omega)
  have d1' : decide (1 ≤ a0.size) = true := decide_eq_true (by omega)
  have d2 : decide ((a0.size : Int) ≤ 100) = true := decide_eq_true (by omega)
  have d2' : decide (a0.size ≤ 100) = true := decide_eq_true (by omega)
  have kb := fun W => print_bytes (P := Tryd.prog) 9 30 5 Tryd.underlying9 Tryd.underlying30 Tryd.underlying5 a0 W
  go_wp2_with (fail)
  have hr : Kd.C (Kd.int .u8) (Lib.bytesWorld w 5 a0) (some ⟨w.heap.size, 0, none⟩) a0.size (bytesOf a0) := Kd.C_of_reads (enc := Value.int .u8) (d := (0 : Int)) (h1 := fun _ => rfl) (bytes_reads w 5 a0 (by omega))
  have hb : Below w.heap.size w (Lib.bytesWorld w 5 a0) := bytes_below (Below.refl _ _) (Nat.le_refl _) _ _
  rw [← bytesOf_length] at hr ⊢
  refine (slices_ContainsFunc_byte_byte.calls k _ _ (bytesOf a0) t _ hr ?_ (hG.step hb) ht).mono fun e w' hh => ?_
  ·rw [bytesOf_length]; exact grownCap_ge _ _ _ _
  obtain ⟨rfl, hd⟩ := hh
  go_wp2
  go_ret
  exact ⟨rfl, hb.trans (hd.below.mono hb.size)⟩
 ·rw [if_neg (fun h => c2 h.2)] at h
  obtain rfl := Option.some.inj h
  have d1 : decide (1 ≤ (a0.size : Int)) = true := decide_eq_true (by omega)
  have d1' : decide (1 ≤ a0.size) = true := decide_eq_true (by omega)
  have d2 : decide ((a0.size : Int) ≤ 100) = false := decide_eq_false (by omega)
  have d2' : decide (a0.size ≤ 100) = false := decide_eq_false (by omega)
  go_wp2
  go_ret
  exact ⟨rfl, Below.refl _ _⟩
def strings_Contains.f (a0 a1 : ByteArray) : Option Bool := if a0.size < 4294967281 then some (Lib.contains a0.data.toList a1.data.toList) else none
theorem strings_Contains.calls (a0 a1 : ByteArray) (r : Bool) (w : World) (hG : Glob w) (h : strings_Contains.f a0 a1 = some r) :
 Calls Tryd.prog 79 #[.string a0, .string a1] w fun e w' => e = .returned (.bool r) ∧ Drawn0 w w' := by
 unfold strings_Contains.f at h
 split at h
 ·rename_i hs
  obtain rfl := Option.some.inj h
  obtain ⟨m, hm⟩ := hG
  exact (Tryd.strings_Contains a0 a1 m w hs hm).mono fun e w' hh => ⟨hh.1, ⟨⟨0, hh.2⟩⟩⟩
 ·exact absurd h (by simp)
def coord_Right.f (k : Nat) (a0_0 : ByteArray) (a0_1 : ByteArray) (a0_2 : ByteArray) : Option (Bool) := (coord_Id.f k a0_0).bind fun t656 => (if t656 = true then ((coord_Id.f k a0_1).bind fun t657 => (if t657 = true then ((words_Right.f k a0_2).bind fun t658 => (if t658 = true then ((strings_Contains.f a0_2 (⟨#[58]⟩ : ByteArray)).bind fun t659 => (some (!t659))) else (some false))) else (some false))) else (some false))
theorem coord_Right.mono : ∀ a0 a1 a2 k, LeO (coord_Right.f k a0 a1 a2) (coord_Right.f (k + 1) a0 a1 a2) := by
 intro a0 a1 a2 k
 unfold coord_Right.f
 have m0 := @coord_Id.mono
 have m1 := @words_Right.mono
 exact mo
theorem coord_Right.calls (k : Nat) (a0_0 : ByteArray) (a0_1 : ByteArray) (a0_2 : ByteArray) (r : Bool) (w : World) (hG : Glob w) (h : coord_Right.f k a0_0 a0_1 a0_2 = some r) :
 Calls Tryd.prog 36 #[.agg #[.string a0_0, .string a0_1, .string a0_2]] w fun e w' => e = .returned (.bool r) ∧ Below w.heap.size w w' := by
 have hu32 := Tryd.underlying32
 have HG := Aside0.mk hG
 clear hG
 have HB := Aside0.mk (Below.refl w.heap.size w)
 have H : ((coord_Id.f k a0_0).bind fun t656 => (if t656 = true then ((coord_Id.f k a0_1).bind fun t657 => (if t657 = true then ((words_Right.f k a0_2).bind fun t658 => (if t658 = true then ((strings_Contains.f a0_2 (⟨#[58]⟩ : ByteArray)).bind fun t659 => (some (!t659))) else (some false))) else (some false))) else (some false))) = some r := h
 clear h
 replace H := bi H
 obtain ⟨t656, A20, H⟩ := H
 try dsimp only at H
 have A2 := Aside0.mk A20
 clear A20
 by_cases c3 : t656 = true
 rotate_left
 ·replace c3 := Bool.eq_false_iff.mpr c3
  subst c3
  replace H : (some false) = some r := by rw [if_neg nF] at H; exact H
  obtain rfl := Option.some.inj H
  go_enter Tryd.func36, Tryd.ntmps36
  go_wp2_with (first | (refine be 1 #[.string a0_0, .string a0_1, .string a0_2] 32 ?_; intro gb655 hg w18 hbox hb; have BK655 := Aside0.mk (hbox); have GW655 := gW hg; have GE655 := gW hg; replace HB := sB hb; clear hb hbox hg; have hcz19_0 : w18.cell? ⟨gb655, 0, none⟩ = some (.string a0_0) := (blk_cell BK655.out 0).trans rfl; have hcz19_1 : w18.cell? ⟨gb655, 1, none⟩ = some (.string a0_1) := (blk_cell BK655.out 1).trans rfl; have hcz19_2 : w18.cell? ⟨gb655, 2, none⟩ = some (.string a0_2) := (blk_cell BK655.out 2).trans rfl; have hfz19_0 := blk_frozen BK655.out 0; have hfz19_1 := blk_frozen BK655.out 1; have hfz19_2 := blk_frozen BK655.out 2) | (refine gl (some 5) Tryd.func23 #[.string a0_0] ?_; (with_reducible refine (coord_Id.calls k a0_0 false _ (gS HG) A2.out).mono ?_); rintro e w' ⟨rfl, ⟨nd, rfl⟩⟩; refine ⟨_, rfl, ?_⟩))
  go_ret
  exact ⟨eA, bG⟩
 subst c3
 replace H : ((coord_Id.f k a0_1).bind fun t657 => (if t657 = true then ((words_Right.f k a0_2).bind fun t658 => (if t658 = true then ((strings_Contains.f a0_2 (⟨#[58]⟩ : ByteArray)).bind fun t659 => (some (!t659))) else (some false))) else (some false))) = some r := by rw [if_pos rfl] at H; exact H
 replace H := bi H
 obtain ⟨t657, A40, H⟩ := H
 try dsimp only at H
 have A4 := Aside0.mk A40
 clear A40
 by_cases c5 : t657 = true
 rotate_left
 ·replace c5 := Bool.eq_false_iff.mpr c5
  subst c5
  replace H : (some false) = some r := by rw [if_neg nF] at H; exact H
  obtain rfl := Option.some.inj H
  go_enter Tryd.func36, Tryd.ntmps36
  go_wp2_with (first | (refine be 1 #[.string a0_0, .string a0_1, .string a0_2] 32 ?_; intro gb655 hg w16 hbox hb; have BK655 := Aside0.mk (hbox); have GW655 := gW hg; have GE655 := gW hg; replace HB := sB hb; clear hb hbox hg; have hcz17_0 : w16.cell? ⟨gb655, 0, none⟩ = some (.string a0_0) := (blk_cell BK655.out 0).trans rfl; have hcz17_1 : w16.cell? ⟨gb655, 1, none⟩ = some (.string a0_1) := (blk_cell BK655.out 1).trans rfl; have hcz17_2 : w16.cell? ⟨gb655, 2, none⟩ = some (.string a0_2) := (blk_cell BK655.out 2).trans rfl; have hfz17_0 := blk_frozen BK655.out 0; have hfz17_1 := blk_frozen BK655.out 1; have hfz17_2 := blk_frozen BK655.out 2) | (refine gl (some 5) Tryd.func23 #[.string a0_0] ?_; (with_reducible refine (coord_Id.calls k a0_0 true _ (gS HG) A2.out).mono ?_); rintro e w' ⟨rfl, ⟨nd, rfl⟩⟩; refine ⟨_, rfl, ?_⟩) | (go_at_call 23; (with_reducible refine (coord_Id.calls k a0_1 false _ (gS HG) A4.out).mono ?_); rintro e w' ⟨rfl, ⟨nd, rfl⟩⟩))
  go_ret
  exact ⟨eA, bG⟩
 subst c5
 replace H : ((words_Right.f k a0_2).bind fun t658 => (if t658 = true then ((strings_Contains.f a0_2 (⟨#[58]⟩ : ByteArray)).bind fun t659 => (some (!t659))) else (some false))) = some r := by rw [if_pos rfl] at H; exact H
 replace H := bi H
 obtain ⟨t658, A60, H⟩ := H
 try dsimp only at H
 have A6 := Aside0.mk A60
 clear A60
 by_cases c7 : t658 = true
 rotate_left
 ·replace c7 := Bool.eq_false_iff.mpr c7
  subst c7
  replace H : (some false) = some r := by rw [if_neg nF] at H; exact H
  obtain rfl := Option.some.inj H
  go_enter Tryd.func36, Tryd.ntmps36
  go_wp2_with (first | (refine be 1 #[.string a0_0, .string a0_1, .string a0_2] 32 ?_; intro gb655 hg w13 hbox hb; have BK655 := Aside0.mk (hbox); have GW655 := gW hg; have GE655 := gW hg; replace HB := sB hb; clear hb hbox hg; have hcz14_0 : w13.cell? ⟨gb655, 0, none⟩ = some (.string a0_0) := (blk_cell BK655.out 0).trans rfl; have hcz14_1 : w13.cell? ⟨gb655, 1, none⟩ = some (.string a0_1) := (blk_cell BK655.out 1).trans rfl; have hcz14_2 : w13.cell? ⟨gb655, 2, none⟩ = some (.string a0_2) := (blk_cell BK655.out 2).trans rfl; have hfz14_0 := blk_frozen BK655.out 0; have hfz14_1 := blk_frozen BK655.out 1; have hfz14_2 := blk_frozen BK655.out 2) | (refine gl (some 5) Tryd.func23 #[.string a0_0] ?_; (with_reducible refine (coord_Id.calls k a0_0 true _ (gS HG) A2.out).mono ?_); rintro e w' ⟨rfl, ⟨nd, rfl⟩⟩; refine ⟨_, rfl, ?_⟩) | (go_at_call 23; (with_reducible refine (coord_Id.calls k a0_1 true _ (gS HG) A4.out).mono ?_); rintro e w' ⟨rfl, ⟨nd, rfl⟩⟩) | (go_at_call 28; (with_reducible refine (words_Right.calls k a0_2 false _ (gS HG) A6.out).mono ?_); rintro e w15 ⟨rfl, hb⟩; replace BK655 := kB BK655 hb; replace HB := sB hb; (try clear hb)))
  go_ret
  exact ⟨eA, bG⟩
 subst c7
 replace H : ((strings_Contains.f a0_2 (⟨#[58]⟩ : ByteArray)).bind fun t659 => (some (!t659))) = some r := by rw [if_pos rfl] at H; exact H
 replace H := bi H
 obtain ⟨t659, A80, H⟩ := H
 try dsimp only at H
 have A8 := Aside0.mk A80
 clear A80
 obtain rfl := Option.some.inj H
 go_enter Tryd.func36, Tryd.ntmps36
 go_wp2_with (first | (refine be 1 #[.string a0_0, .string a0_1, .string a0_2] 32 ?_; intro gb655 hg w9 hbox hb; have BK655 := Aside0.mk (hbox); have GW655 := gW hg; have GE655 := gW hg; replace HB := sB hb; clear hb hbox hg; have hcz10_0 : w9.cell? ⟨gb655, 0, none⟩ = some (.string a0_0) := (blk_cell BK655.out 0).trans rfl; have hcz10_1 : w9.cell? ⟨gb655, 1, none⟩ = some (.string a0_1) := (blk_cell BK655.out 1).trans rfl; have hcz10_2 : w9.cell? ⟨gb655, 2, none⟩ = some (.string a0_2) := (blk_cell BK655.out 2).trans rfl; have hfz10_0 := blk_frozen BK655.out 0; have hfz10_1 := blk_frozen BK655.out 1; have hfz10_2 := blk_frozen BK655.out 2) | (refine gl (some 5) Tryd.func23 #[.string a0_0] ?_; (with_reducible refine (coord_Id.calls k a0_0 true _ (gS HG) A2.out).mono ?_); rintro e w' ⟨rfl, ⟨nd, rfl⟩⟩; refine ⟨_, rfl, ?_⟩) | (go_at_call 23; (with_reducible refine (coord_Id.calls k a0_1 true _ (gS HG) A4.out).mono ?_); rintro e w' ⟨rfl, ⟨nd, rfl⟩⟩) | (go_at_call 28; (with_reducible refine (words_Right.calls k a0_2 true _ (gS HG) A6.out).mono ?_); rintro e w11 ⟨rfl, hb⟩; replace BK655 := kB BK655 hb; replace HB := sB hb; (try clear hb); have hcz12_0 : w11.cell? ⟨gb655, 0, none⟩ = some (.string a0_0) := (blk_cell BK655.out 0).trans rfl; have hcz12_1 : w11.cell? ⟨gb655, 1, none⟩ = some (.string a0_1) := (blk_cell BK655.out 1).trans rfl; have hcz12_2 : w11.cell? ⟨gb655, 2, none⟩ = some (.string a0_2) := (blk_cell BK655.out 2).trans rfl; have hfz12_0 := blk_frozen BK655.out 0; have hfz12_1 := blk_frozen BK655.out 1; have hfz12_2 := blk_frozen BK655.out 2) | (go_at_call 79; (with_reducible refine (strings_Contains.calls a0_2 (⟨#[58]⟩ : ByteArray) t659 _ (gS HG) A8.out).mono ?_); rintro e w' ⟨rfl, ⟨nd, rfl⟩⟩))
 go_ret
 exact ⟨eA, bG⟩
def strings_Split.f (a0 a1 : ByteArray) : Option (List ByteArray) := if a0.size < 4294967281 ∧ 1 ≤ a1.size then some (Lib.splitB a1 0 (Lib.countB a0 a1) a0) else none
theorem strings_Split.reps (w : World) (base : Nat) (ok : Nat → Prop) : ∀ l : List ByteArray, Reps (Kd.string.M w base ok) 1 l (l.map Value.string)
 | [] => Reps.none _ _
 | _ :: l => Reps.one rfl (strings_Split.reps w base ok l)
theorem strings_Split.calls (a0 a1 : ByteArray) (r : List ByteArray) (w : World) (hG : Glob w) (h : strings_Split.f a0 a1 = some r) :
 Calls Tryd.prog 65 #[.string a0, .string a1] w fun e w' => ∃ v0_ : Value, e = .returned v0_ ∧ Kd.R Kd.string 9 w' w.heap.size (fun _ => True) v0_ r ∧ Below w.heap.size w w' := by
 unfold strings_Split.f at h
 split at h
 ·rename_i hs
  obtain rfl := Option.some.inj h
  obtain ⟨m, hm⟩ := hG
  refine (Tryd.strings_Split a0 a1 m w hs.1 hm hs.2).mono fun e w' hh => ?_
  obtain ⟨rfl, rfl⟩ := hh
  have hl : (Lib.splitB a1 0 (Lib.countB a0 a1) a0).length = Lib.countB a0 a1 + 1 := Lib.splitB_all a1 hs.2 0 _ a0 rfl
  have hc : Lib.countB a0 a1 ≤ a0.size := Lib.countB_le a1 hs.2 _ a0 (Nat.le_refl _)
  refine ⟨_, rfl, ⟨fun _ _ => trivial, _, ?_, strings_Split.reps _ _ _ _⟩, below_alloc (Below.refl _ _) _⟩
  have ho := World.ownsRow_lit (base := w.heap.size) (e := 9) (size := 1) w ((Lib.splitB a1 0 (Lib.countB a0 a1) a0).map Value.string).toArray (Lib.splitB a1 0 (Lib.countB a0 a1) a0).length (Nat.le_refl _) (by rw [hl]; unfold maxLen; omega) (by simp)
  rw [← hl]
  exact ho
 ·exact absurd h (by simp)
def coord_Parse.f (k : Nat) (a0 : ByteArray) : Option (ByteArray × ByteArray × ByteArray × Bool) := (strings_Split.f a0 (⟨#[58]⟩ : ByteArray)).bind fun t661 => (if (t661.length : Int) = 3 then (if 0 < (t661.length : Int) then (if 1 < (t661.length : Int) then (if 2 < (t661.length : Int) then ((coord_Right.f k (rdOf ByteArray.empty t661 0) (rdOf ByteArray.empty t661 1) (rdOf ByteArray.empty t661 2)).bind fun t668 => (if t668 = true then (some (rdOf ByteArray.empty t661 0, rdOf ByteArray.empty t661 1, rdOf ByteArray.empty t661 2, true)) else (some ((⟨#[]⟩ : ByteArray), (⟨#[]⟩ : ByteArray), (⟨#[]⟩ : ByteArray), false)))) else (none)) else (none)) else (none)) else (some ((⟨#[]⟩ : ByteArray), (⟨#[]⟩ : ByteArray), (⟨#[]⟩ : ByteArray), false)))
theorem coord_Parse.mono : ∀ a0 k, LeO (coord_Parse.f k a0) (coord_Parse.f (k + 1) a0) := by
 intro a0 k
 unfold coord_Parse.f
 have m0 := @coord_Right.mono
 exact mo
def coord_Parse.T4 : Bool × List (List Nat × List Nat) := (true, [([], []), ([0], [0]), ([1], [1]), ([], []), ([3], [3]), ([4], [4]), ([], []), ([6], [6]), ([7], [7]), ([2, 5, 8], [2, 5, 8]), ([], []), ([10, 9, 0, 1, 2, 3, 4, 5, 6, 7, 8, 9, 10], [9, 10])])
def coord_Parse.B4 : List Nat := [0, 1, 3, 0, 8, 24, 0, 64, 192, 511, 0, 2047]
theorem coord_Parse.tab4 : rtab .any (opsOf Tryd.f26 4) = coord_Parse.T4 := by kernel_rfl
theorem coord_Parse.bits4 : waitsOk coord_Parse.T4.2 coord_Parse.B4 = true := by kernel_rfl
theorem coord_Parse.calls (k : Nat) (a0 : ByteArray) (r1 : ByteArray) (r2 : ByteArray) (r3 : ByteArray) (r4 : Bool) (w : World) (hG : Glob w) (h : coord_Parse.f k a0 = some (r1, r2, r3, r4)) :
 Calls Tryd.prog 26 #[.string a0] w fun e w' => e = .returned (.tuple #[.agg #[.string r1, .string r2, .string r3], .bool r4]) ∧ Below w.heap.size w w' := by
 have hu32 := Tryd.underlying32
 have HG := Aside0.mk hG
 clear hG
 have HB := Aside0.mk (Below.refl w.heap.size w)
 have H : ((strings_Split.f a0 (⟨#[58]⟩ : ByteArray)).bind fun t661 => (if (t661.length : Int) = 3 then (if 0 < (t661.length : Int) then (if 1 < (t661.length : Int) then (if 2 < (t661.length : Int) then ((coord_Right.f k (rdOf ByteArray.empty t661 0) (rdOf ByteArray.empty t661 1) (rdOf ByteArray.empty t661 2)).bind fun t668 => (if t668 = true then (some (rdOf ByteArray.empty t661 0, rdOf ByteArray.empty t661 1, rdOf ByteArray.empty t661 2, true)) else (some ((⟨#[]⟩ : ByteArray), (⟨#[]⟩ : ByteArray), (⟨#[]⟩ : ByteArray), false)))) else (none)) else (none)) else (none)) else (some ((⟨#[]⟩ : ByteArray), (⟨#[]⟩ : ByteArray), (⟨#[]⟩ : ByteArray), false)))) = some (r1, r2, r3, r4) := h
 clear h
 replace H := bi H
 obtain ⟨t661, A20, H⟩ := H
 try dsimp only at H
 have A2 := Aside0.mk A20
 clear A20
 by_cases c3 : (t661.length : Int) = 3
 rotate_left
 ·rw [if_neg c3] at H
  obtain ⟨c3b0, c3b1⟩ := eqF c3
  simp only [Option.some.injEq, Prod.mk.injEq] at H
  obtain ⟨rfl, rfl, rfl, rfl⟩ := H
  go_enter Tryd.func26, Tryd.ntmps26
  go_wp2_with (first | (refine be 2 #[.string (⟨#[]⟩ : ByteArray), .string (⟨#[]⟩ : ByteArray), .string (⟨#[]⟩ : ByteArray)] 32 ?_; intro gb660 hg w34 hbox hb; have BK660 := Aside0.mk (hbox); have GW660 := gW hg; have GE660 := gW hg; replace HB := sB hb; clear hb hbox hg) | (refine gl (some 7) Tryd.func65 #[.string a0, .string (⟨#[58]⟩ : ByteArray)] ?_; (with_reducible refine (strings_Split.calls a0 (⟨#[58]⟩ : ByteArray) t661 _ (gS HG) A2.out).mono ?_); rintro e w35 ⟨v662, rfl, ho0, hb⟩; refine ⟨_, rfl, ?_⟩; have HO663 := Aside0.mk (Kd.R_lower ho0 (below_size bG)); replace BK660 := kB BK660 hb; replace HB := sB hb; (try clear hb); (try clear ho0); obtain ⟨Ao36, co36, eo36⟩ := Kd.R_slice HO663.out; subst eo36; have hcz37_0 : w35.cell? ⟨gb660, 0, none⟩ = some (.string (⟨#[]⟩ : ByteArray)) := (blk_cell BK660.out 0).trans rfl; have hcz37_1 : w35.cell? ⟨gb660, 1, none⟩ = some (.string (⟨#[]⟩ : ByteArray)) := (blk_cell BK660.out 1).trans rfl; have hcz37_2 : w35.cell? ⟨gb660, 2, none⟩ = some (.string (⟨#[]⟩ : ByteArray)) := (blk_cell BK660.out 2).trans rfl; have hfz37_0 := blk_frozen BK660.out 0; have hfz37_1 := blk_frozen BK660.out 1; have hfz37_2 := blk_frozen BK660.out 2))
  refine bodyPost_ret (results_ct rfl _ _ gb660 32 #[.string (⟨#[]⟩ : ByteArray), .string (⟨#[]⟩ : ByteArray), .string (⟨#[]⟩ : ByteArray)] (0, 0) _ rfl (bP BK660) Tryd.underlying32 rfl (by kernel_rfl)) rfl ?_
  exact ⟨eA, bG⟩
 rw [if_pos c3] at H
 obtain ⟨c3b0, c3b1⟩ := eqT c3
 clear c3
 obtain ⟨c4, H⟩ := gp H
 have c4b0 := dT c4
 have c4b1 : decide (0 < t661.length) = true := decide_eq_true (by omega)
 clear c4
 obtain ⟨c5, H⟩ := gp H
 have c5b0 := dT c5
 have c5b1 : decide (1 < t661.length) = true := decide_eq_true (by omega)
 clear c5
 obtain ⟨c6, H⟩ := gp H
 have c6b0 := dT c6
 have c6b1 : decide (2 < t661.length) = true := decide_eq_true (by omega)
 clear c6
 replace H := bi H
 obtain ⟨t668, A70, H⟩ := H
 try dsimp only at H
 have A7 := Aside0.mk A70
 clear A70
 by_cases c8 : t668 = true
 ·subst c8
  replace H : (some (rdOf ByteArray.empty t661 0, rdOf ByteArray.empty t661 1, rdOf ByteArray.empty t661 2, true)) = some (r1, r2, r3, r4) := by rw [if_pos rfl] at H; exact H
  simp only [Option.some.injEq, Prod.mk.injEq] at H
  obtain ⟨rfl, rfl, rfl, rfl⟩ := H
  go_enter Tryd.func26, Tryd.ntmps26
  try go_wp2_with (first | (refine be 2 #[.string (⟨#[]⟩ : ByteArray), .string (⟨#[]⟩ : ByteArray), .string (⟨#[]⟩ : ByteArray)] 32 ?_; intro gb660 hg w9 hbox hb; have BK660 := Aside0.mk (hbox); have GW660 := gW hg; have GE660 := gW hg; replace HB := sB hb; clear hb hbox hg) | (refine gl (some 7) Tryd.func65 #[.string a0, .string (⟨#[58]⟩ : ByteArray)] ?_; (with_reducible refine (strings_Split.calls a0 (⟨#[58]⟩ : ByteArray) t661 _ (gS HG) A2.out).mono ?_); rintro e w10 ⟨v662, rfl, ho0, hb⟩; refine ⟨_, rfl, ?_⟩; have HO663 := Aside0.mk (Kd.R_lower ho0 (below_size bG)); replace BK660 := kB BK660 hb; replace HB := sB hb; (try clear hb); (try clear ho0); obtain ⟨Ao11, co11, eo11⟩ := Kd.R_slice HO663.out; subst eo11))
  replace HO663 := Aside0.mk (Kd.R_drew HO663.out)
  replace BK660 := Aside0.mk (blk_drew BK660.out)
  replace HB := Aside0.mk (below_drew1 HB.out)
  have p664 : 0 ≤ (0 : Int) := (by omega)
  have q664 : 0 < (t661.length : Int) := dA
  (try (obtain ⟨Ao_, co_, eo_⟩ := Kd.R_slice HO663.out; subst eo_))
  obtain ⟨ad664, e664, hx664_0⟩ := Kd.at_string (Kd.R_reads' HO663.out).2.2 0 p664 q664
  cases e664
  have qi664 : (0 < t661.length) = True := eq_true (by omega)
  (try rw [show ((0 : Int)).toNat = 0 from rfl] at hx664_0)
  (try rw [Addr.add_zero'] at hx664_0)
  replace p664 := eq_true p664
  replace q664 := eq_true q664
  have p665 : 0 ≤ (1 : Int) := (by omega)
  have q665 : 1 < (t661.length : Int) := dA
  (try (obtain ⟨Ao_, co_, eo_⟩ := Kd.R_slice HO663.out; subst eo_))
  obtain ⟨ad665, e665, hx665_0⟩ := Kd.at_string (Kd.R_reads' HO663.out).2.2 1 p665 q665
  obtain rfl : ad664 = ad665 := (by injection e665)
  (try simp only [show (1 : Int).toNat = 1 from rfl, Nat.reduceMul, Nat.reduceEqDiff, Go.Addr.add, ↓reduceIte] at hx665_0)
  have qi665 : (1 < t661.length) = True := eq_true (by omega)
  (try rw [show ((1 : Int)).toNat = 1 from rfl] at hx665_0)
  replace p665 := eq_true p665
  replace q665 := eq_true q665
  have p666 : 0 ≤ (2 : Int) := (by omega)
  have q666 : 2 < (t661.length : Int) := dA
  (try (obtain ⟨Ao_, co_, eo_⟩ := Kd.R_slice HO663.out; subst eo_))
  obtain ⟨ad666, e666, hx666_0⟩ := Kd.at_string (Kd.R_reads' HO663.out).2.2 2 p666 q666
  obtain rfl : ad664 = ad666 := (by injection e666)
  (try simp only [show (2 : Int).toNat = 2 from rfl, Nat.reduceMul, Nat.reduceEqDiff, Go.Addr.add, ↓reduceIte] at hx666_0)
  have qi666 : (2 < t661.length) = True := eq_true (by omega)
  (try rw [show ((2 : Int)).toNat = 2 from rfl] at hx666_0)
  replace p666 := eq_true p666
  replace q666 := eq_true q666
  refine start_ (n := 12) (S := fun w' => w'.cell? ad664 = some (.string (rdOf ByteArray.empty t661 0)) ∧ w'.cell? ⟨ad664.block, ad664.off + 1, none⟩ = some (.string (rdOf ByteArray.empty t661 1)) ∧ w'.cell? ⟨ad664.block, ad664.off + 2, none⟩ = some (.string (rdOf ByteArray.empty t661 2))) (ds := []) #[false, false, false, false, false, false, false, false, false, false, false, false] (by kernel_rfl) rfl rfl ⟨hx664_0, hx665_0, hx666_0⟩ (fun hHeld => ?_); refine with_tabW coord_Parse.tab4 coord_Parse.bits4 (fun HT_ HW_ => ?_)
  generalize w10.drew = w12 at HO663 BK660 HB hx664_0 hx665_0 hx666_0 hHeld ⊢
  refine pz 0 (some 12) HT_ ?_
  refine pz 1 (some 13) HT_ ?_
  refine pz 3 (some 15) HT_ ?_
  refine pz 4 (some 16) HT_ ?_
  refine pz 6 (some 18) HT_ ?_
  refine pz 7 (some 19) HT_ ?_
  refine tm 2 (some 14) HT_ HW_ hHeld ?_
  refine tm 5 (some 17) HT_ HW_ hHeld ?_
  refine tm 8 (some 20) HT_ HW_ hHeld ?_
  refine pz 9 (some 21) HT_ ?_
  refine on 10 (some 5) HT_ (fun K hK => ?_)
  refine bs 5 #[.string (⟨#[]⟩ : ByteArray), .string (⟨#[]⟩ : ByteArray), .string (⟨#[]⟩ : ByteArray)] 32 ?_
  intro gb667 hg w13 hbox hb
  have HS0_ := (hb.cell (World.block_lt_of_cell? _ _ (hHeld.1))).trans (hHeld.1)
  have HS1_ := (hb.cell (World.block_lt_of_cell? _ _ (hHeld.2.1))).trans (hHeld.2.1)
  have HS2_ := (hb.cell (World.block_lt_of_cell? _ _ (hHeld.2.2))).trans (hHeld.2.2)
  replace HO663 := rB HO663 hb
  have BK667 := Aside0.mk (hbox)
  have GW667 := gW hg
  have GE667 := gW hg
  replace HB := sB hb
  have NB660_667 := nL BK660 hg
  have NB667_660 := nG BK660 hg
  replace BK660 := kB BK660 hb
  clear hb hbox hg
  refine hK.out _ _ ⟨HS0_, HS1_, HS2_⟩ (fun hHeld => ?_)
  clear hK K
  refine nz (some 5) ?_
  refine on 11 (none) HT_ (fun K hK => ?_)
  have hs14 : w13.cell? ⟨gb667, 0, none⟩ = some (.string (⟨#[]⟩ : ByteArray)) := (blk_cell BK667.out 0).trans rfl
  have hfs14 := blk_frozen BK667.out 0
  have hns14_0 := NB660_667.out
  have hms14_0 := NB667_660.out
  have hs15 : w13.cell? ⟨gb667, 1, none⟩ = some (.string (⟨#[]⟩ : ByteArray)) := (blk_cell BK667.out 1).trans rfl
  have hfs15 := blk_frozen BK667.out 1
  have hns15_0 := NB660_667.out
  have hms15_0 := NB667_660.out
  have hs16 : w13.cell? ⟨gb667, 2, none⟩ = some (.string (⟨#[]⟩ : ByteArray)) := (blk_cell BK667.out 2).trans rfl
  have hfs16 := blk_frozen BK667.out 2
  have hns16_0 := NB660_667.out
  have hms16_0 := NB667_660.out
  refine skip_ (w1 := ?_) (by rfl) rfl ?_ ?_
  rotate_left
  ·go_simp
   rfl
  refine hK.out _ _ ⟨((cell_far (p := ⟨gb667, _, none⟩) (by first | exact Kd.own_blk (Kd.R_ne HO663.out BK667.out (by decide)) | (rw [add_block]; exact Kd.own_blk (Kd.R_ne HO663.out BK667.out (by decide))) | (show (Addr.add _ _).block ≠ _; rw [add_block]; exact Kd.own_blk (Kd.R_ne HO663.out BK667.out (by decide))) | (dsimp only; exact Kd.own_blk (Kd.R_ne HO663.out BK667.out (by decide)))) _).trans (((cell_far (p := ⟨gb667, _, none⟩) (by first | exact Kd.own_blk (Kd.R_ne HO663.out BK667.out (by decide)) | (rw [add_block]; exact Kd.own_blk (Kd.R_ne HO663.out BK667.out (by decide))) | (show (Addr.add _ _).block ≠ _; rw [add_block]; exact Kd.own_blk (Kd.R_ne HO663.out BK667.out (by decide))) | (dsimp only; exact Kd.own_blk (Kd.R_ne HO663.out BK667.out (by decide)))) _).trans (((cell_far (p := ⟨gb667, _, none⟩) (by first | exact Kd.own_blk (Kd.R_ne HO663.out BK667.out (by decide)) | (rw [add_block]; exact Kd.own_blk (Kd.R_ne HO663.out BK667.out (by decide))) | (show (Addr.add _ _).block ≠ _; rw [add_block]; exact Kd.own_blk (Kd.R_ne HO663.out BK667.out (by decide))) | (dsimp only; exact Kd.own_blk (Kd.R_ne HO663.out BK667.out (by decide)))) _).trans (hHeld.1)))))), ((cell_far (p := ⟨gb667, _, none⟩) (by first | exact Kd.own_blk (Kd.R_ne HO663.out BK667.out (by decide)) | (rw [add_block]; exact Kd.own_blk (Kd.R_ne HO663.out BK667.out (by decide))) | (show (Addr.add _ _).block ≠ _; rw [add_block]; exact Kd.own_blk (Kd.R_ne HO663.out BK667.out (by decide))) | (dsimp only; exact Kd.own_blk (Kd.R_ne HO663.out BK667.out (by decide)))) _).trans (((cell_far (p := ⟨gb667, _, none⟩) (by first | exact Kd.own_blk (Kd.R_ne HO663.out BK667.out (by decide)) | (rw [add_block]; exact Kd.own_blk (Kd.R_ne HO663.out BK667.out (by decide))) | (show (Addr.add _ _).block ≠ _; rw [add_block]; exact Kd.own_blk (Kd.R_ne HO663.out BK667.out (by decide))) | (dsimp only; exact Kd.own_blk (Kd.R_ne HO663.out BK667.out (by decide)))) _).trans (((cell_far (p := ⟨gb667, _, none⟩) (by first | exact Kd.own_blk (Kd.R_ne HO663.out BK667.out (by decide)) | (rw [add_block]; exact Kd.own_blk (Kd.R_ne HO663.out BK667.out (by decide))) | (show (Addr.add _ _).block ≠ _; rw [add_block]; exact Kd.own_blk (Kd.R_ne HO663.out BK667.out (by decide))) | (dsimp only; exact Kd.own_blk (Kd.R_ne HO663.out BK667.out (by decide)))) _).trans (hHeld.2.1)))))), ((cell_far (p := ⟨gb667, _, none⟩) (by first | exact Kd.own_blk (Kd.R_ne HO663.out BK667.out (by decide)) | (rw [add_block]; exact Kd.own_blk (Kd.R_ne HO663.out BK667.out (by decide))) | (show (Addr.add _ _).block ≠ _; rw [add_block]; exact Kd.own_blk (Kd.R_ne HO663.out BK667.out (by decide))) | (dsimp only; exact Kd.own_blk (Kd.R_ne HO663.out BK667.out (by decide)))) _).trans (((cell_far (p := ⟨gb667, _, none⟩) (by first | exact Kd.own_blk (Kd.R_ne HO663.out BK667.out (by decide)) | (rw [add_block]; exact Kd.own_blk (Kd.R_ne HO663.out BK667.out (by decide))) | (show (Addr.add _ _).block ≠ _; rw [add_block]; exact Kd.own_blk (Kd.R_ne HO663.out BK667.out (by decide))) | (dsimp only; exact Kd.own_blk (Kd.R_ne HO663.out BK667.out (by decide)))) _).trans (((cell_far (p := ⟨gb667, _, none⟩) (by first | exact Kd.own_blk (Kd.R_ne HO663.out BK667.out (by decide)) | (rw [add_block]; exact Kd.own_blk (Kd.R_ne HO663.out BK667.out (by decide))) | (show (Addr.add _ _).block ≠ _; rw [add_block]; exact Kd.own_blk (Kd.R_ne HO663.out BK667.out (by decide))) | (dsimp only; exact Kd.own_blk (Kd.R_ne HO663.out BK667.out (by decide)))) _).trans (hHeld.2.2))))))⟩ (fun hHeld => ?_)
  clear hK K
  refine done_ (done_of HT_.out (by kernel_rfl)) ?_
  have hnb17 := NB667_660.out
  have hnc17 := NB660_667.out
  obtain ⟨hcz18_0, hcz18_1, hcz18_2, hfz18_0, hfz18_1, hfz18_2⟩ := cells3 BK667
  try go_wp2_with (first | (refine gl (some 23) Tryd.func36 #[.agg #[.string (rdOf ByteArray.empty t661 0), .string (rdOf ByteArray.empty t661 1), .string (rdOf ByteArray.empty t661 2)]] ?_; (with_reducible refine (coord_Right.calls k (rdOf ByteArray.empty t661 0) (rdOf ByteArray.empty t661 1) (rdOf ByteArray.empty t661 2) true _ (gS HG) A7.out).mono ?_); rintro e w19 ⟨rfl, hb⟩; refine ⟨_, rfl, ?_⟩; replace HO663 := Aside0.mk (Kd.R_below (by (with_reducible repeat (first | apply Kd.R_alloc | apply Kd.R_drewN | apply Kd.R_drew)); exact (Kd.R_mono (Kd.R_far (p := ⟨gb667, 2, none⟩) (Kd.R_far (p := ⟨gb667, 1, none⟩) (Kd.R_far (p := ⟨gb667, 0, none⟩) (Kd.R_types HO663.out BK667.out (by decide)) (fun _ hk => hk.2) (.string (rdOf ByteArray.empty t661 0))) (fun _ hk => hk.2) (.string (rdOf ByteArray.empty t661 1))) (fun _ hk => hk.2) (.string (rdOf ByteArray.empty t661 2))) (fun _ h_ => h_.1))) hb); replace BK660 := Aside0.mk (blk_below (g := gb660) (o := .cells #[.string (⟨#[]⟩ : ByteArray), .string (⟨#[]⟩ : ByteArray), .string (⟨#[]⟩ : ByteArray)] 32 (0, 0)) (by (with_reducible repeat (first | refine blk_drewN ?_ _ | refine blk_drew ?_ | refine blk_alloc ?_ _)); refine blk_far ?_ NB660_667.out _; (with_reducible repeat (first | refine blk_drewN ?_ _ | refine blk_drew ?_ | refine blk_alloc ?_ _)); refine blk_far ?_ NB660_667.out _; (with_reducible repeat (first | refine blk_drewN ?_ _ | refine blk_drew ?_ | refine blk_alloc ?_ _)); refine blk_far ?_ NB660_667.out _; (with_reducible repeat (first | refine blk_drewN ?_ _ | refine blk_drew ?_ | refine blk_alloc ?_ _)); exact BK660.out) hb); replace BK667 := Aside0.mk (blk_below (g := gb667) (o := .cells #[.string (rdOf ByteArray.empty t661 0), .string (rdOf ByteArray.empty t661 1), .string (rdOf ByteArray.empty t661 2)] 32 (0, 0)) (bP BK667) hb); replace HB := sB hb; (try clear hb); have hcz20_0 : w19.cell? ⟨gb667, 0, none⟩ = some (.string (rdOf ByteArray.empty t661 0)) := (blk_cell BK667.out 0).trans rfl; have hcz20_1 : w19.cell? ⟨gb667, 1, none⟩ = some (.string (rdOf ByteArray.empty t661 1)) := (blk_cell BK667.out 1).trans rfl; have hcz20_2 : w19.cell? ⟨gb667, 2, none⟩ = some (.string (rdOf ByteArray.empty t661 2)) := (blk_cell BK667.out 2).trans rfl; have hfz20_0 := blk_frozen BK667.out 0; have hfz20_1 := blk_frozen BK667.out 1; have hfz20_2 := blk_frozen BK667.out 2; have hcz21_0 : w19.cell? ⟨gb660, 0, none⟩ = some (.string (⟨#[]⟩ : ByteArray)) := (blk_cell BK660.out 0).trans rfl; have hcz21_1 : w19.cell? ⟨gb660, 1, none⟩ = some (.string (⟨#[]⟩ : ByteArray)) := (blk_cell BK660.out 1).trans rfl; have hcz21_2 : w19.cell? ⟨gb660, 2, none⟩ = some (.string (⟨#[]⟩ : ByteArray)) := (blk_cell BK660.out 2).trans rfl; have hfz21_0 := blk_frozen BK660.out 0; have hfz21_1 := blk_frozen BK660.out 1; have hfz21_2 := blk_frozen BK660.out 2))
  refine bodyPost_ret (results_ct rfl _ _ gb660 32 #[.string (rdOf ByteArray.empty t661 0), .string (rdOf ByteArray.empty t661 1), .string (rdOf ByteArray.empty t661 2)] (0, 0) _ rfl (bP BK660) Tryd.underlying32 rfl (by kernel_rfl)) rfl ?_
  exact ⟨eA, bG⟩
 replace c8 := Bool.eq_false_iff.mpr c8
 subst c8
 replace H : (some ((⟨#[]⟩ : ByteArray), (⟨#[]⟩ : ByteArray), (⟨#[]⟩ : ByteArray), false)) = some (r1, r2, r3, r4) := by rw [if_neg nF] at H; exact H
 simp only [Option.some.injEq, Prod.mk.injEq] at H
 obtain ⟨rfl, rfl, rfl, rfl⟩ := H
 go_enter Tryd.func26, Tryd.ntmps26
 try go_wp2_with (first | (refine be 2 #[.string (⟨#[]⟩ : ByteArray), .string (⟨#[]⟩ : ByteArray), .string (⟨#[]⟩ : ByteArray)] 32 ?_; intro gb660 hg w22 hbox hb; have BK660 := Aside0.mk (hbox); have GW660 := gW hg; have GE660 := gW hg; replace HB := sB hb; clear hb hbox hg) | (refine gl (some 7) Tryd.func65 #[.string a0, .string (⟨#[58]⟩ : ByteArray)] ?_; (with_reducible refine (strings_Split.calls a0 (⟨#[58]⟩ : ByteArray) t661 _ (gS HG) A2.out).mono ?_); rintro e w23 ⟨v662, rfl, ho0, hb⟩; refine ⟨_, rfl, ?_⟩; have HO663 := Aside0.mk (Kd.R_lower ho0 (below_size bG)); replace BK660 := kB BK660 hb; replace HB := sB hb; (try clear hb); (try clear ho0); obtain ⟨Ao24, co24, eo24⟩ := Kd.R_slice HO663.out; subst eo24))
 replace HO663 := Aside0.mk (Kd.R_drew HO663.out)
 replace BK660 := Aside0.mk (blk_drew BK660.out)
 replace HB := Aside0.mk (below_drew1 HB.out)
 have p664 : 0 ≤ (0 : Int) := (by omega)
 have q664 : 0 < (t661.length : Int) := dA
 (try (obtain ⟨Ao_, co_, eo_⟩ := Kd.R_slice HO663.out; subst eo_))
 obtain ⟨ad664, e664, hx664_0⟩ := Kd.at_string (Kd.R_reads' HO663.out).2.2 0 p664 q664
 cases e664
 have qi664 : (0 < t661.length) = True := eq_true (by omega)
 (try rw [show ((0 : Int)).toNat = 0 from rfl] at hx664_0)
 (try rw [Addr.add_zero'] at hx664_0)
 replace p664 := eq_true p664
 replace q664 := eq_true q664
 have p665 : 0 ≤ (1 : Int) := (by omega)
 have q665 : 1 < (t661.length : Int) := dA
 (try (obtain ⟨Ao_, co_, eo_⟩ := Kd.R_slice HO663.out; subst eo_))
 obtain ⟨ad665, e665, hx665_0⟩ := Kd.at_string (Kd.R_reads' HO663.out).2.2 1 p665 q665
 obtain rfl : ad664 = ad665 := (by injection e665)
 (try simp only [show (1 : Int).toNat = 1 from rfl, Nat.reduceMul, Nat.reduceEqDiff, Go.Addr.add, ↓reduceIte] at hx665_0)
 have qi665 : (1 < t661.length) = True := eq_true (by omega)
 (try rw [show ((1 : Int)).toNat = 1 from rfl] at hx665_0)
 replace p665 := eq_true p665
 replace q665 := eq_true q665
 have p666 : 0 ≤ (2 : Int) := (by omega)
 have q666 : 2 < (t661.length : Int) := dA
 (try (obtain ⟨Ao_, co_, eo_⟩ := Kd.R_slice HO663.out; subst eo_))
 obtain ⟨ad666, e666, hx666_0⟩ := Kd.at_string (Kd.R_reads' HO663.out).2.2 2 p666 q666
 obtain rfl : ad664 = ad666 := (by injection e666)
 (try simp only [show (2 : Int).toNat = 2 from rfl, Nat.reduceMul, Nat.reduceEqDiff, Go.Addr.add, ↓reduceIte] at hx666_0)
 have qi666 : (2 < t661.length) = True := eq_true (by omega)
 (try rw [show ((2 : Int)).toNat = 2 from rfl] at hx666_0)
 replace p666 := eq_true p666
 replace q666 := eq_true q666
 refine start_ (n := 12) (S := fun w' => w'.cell? ad664 = some (.string (rdOf ByteArray.empty t661 0)) ∧ w'.cell? ⟨ad664.block, ad664.off + 1, none⟩ = some (.string (rdOf ByteArray.empty t661 1)) ∧ w'.cell? ⟨ad664.block, ad664.off + 2, none⟩ = some (.string (rdOf ByteArray.empty t661 2))) (ds := []) #[false, false, false, false, false, false, false, false, false, false, false, false] (by kernel_rfl) rfl rfl ⟨hx664_0, hx665_0, hx666_0⟩ (fun hHeld => ?_); refine with_tabW coord_Parse.tab4 coord_Parse.bits4 (fun HT_ HW_ => ?_)
 generalize w23.drew = w25 at HO663 BK660 HB hx664_0 hx665_0 hx666_0 hHeld ⊢
 refine pz 0 (some 12) HT_ ?_
 refine pz 1 (some 13) HT_ ?_
 refine pz 3 (some 15) HT_ ?_
 refine pz 4 (some 16) HT_ ?_
 refine pz 6 (some 18) HT_ ?_
 refine pz 7 (some 19) HT_ ?_
 refine tm 2 (some 14) HT_ HW_ hHeld ?_
 refine tm 5 (some 17) HT_ HW_ hHeld ?_
 refine tm 8 (some 20) HT_ HW_ hHeld ?_
 refine pz 9 (some 21) HT_ ?_
 refine on 10 (some 5) HT_ (fun K hK => ?_)
 refine bs 5 #[.string (⟨#[]⟩ : ByteArray), .string (⟨#[]⟩ : ByteArray), .string (⟨#[]⟩ : ByteArray)] 32 ?_
 intro gb667 hg w26 hbox hb
 have HS0_ := (hb.cell (World.block_lt_of_cell? _ _ (hHeld.1))).trans (hHeld.1)
 have HS1_ := (hb.cell (World.block_lt_of_cell? _ _ (hHeld.2.1))).trans (hHeld.2.1)
 have HS2_ := (hb.cell (World.block_lt_of_cell? _ _ (hHeld.2.2))).trans (hHeld.2.2)
 replace HO663 := rB HO663 hb
 have BK667 := Aside0.mk (hbox)
 have GW667 := gW hg
 have GE667 := gW hg
 replace HB := sB hb
 have NB660_667 := nL BK660 hg
 have NB667_660 := nG BK660 hg
 replace BK660 := kB BK660 hb
 clear hb hbox hg
 refine hK.out _ _ ⟨HS0_, HS1_, HS2_⟩ (fun hHeld => ?_)
 clear hK K
 refine nz (some 5) ?_
 refine on 11 (none) HT_ (fun K hK => ?_)
 have hs27 : w26.cell? ⟨gb667, 0, none⟩ = some (.string (⟨#[]⟩ : ByteArray)) := (blk_cell BK667.out 0).trans rfl
 have hfs27 := blk_frozen BK667.out 0
 have hns27_0 := NB660_667.out
 have hms27_0 := NB667_660.out
 have hs28 : w26.cell? ⟨gb667, 1, none⟩ = some (.string (⟨#[]⟩ : ByteArray)) := (blk_cell BK667.out 1).trans rfl
 have hfs28 := blk_frozen BK667.out 1
 have hns28_0 := NB660_667.out
 have hms28_0 := NB667_660.out
 have hs29 : w26.cell? ⟨gb667, 2, none⟩ = some (.string (⟨#[]⟩ : ByteArray)) := (blk_cell BK667.out 2).trans rfl
 have hfs29 := blk_frozen BK667.out 2
 have hns29_0 := NB660_667.out
 have hms29_0 := NB667_660.out
 refine skip_ (w1 := ?_) (by rfl) rfl ?_ ?_
 rotate_left
 ·go_simp
  rfl
 refine hK.out _ _ ⟨((cell_far (p := ⟨gb667, _, none⟩) (by first | exact Kd.own_blk (Kd.R_ne HO663.out BK667.out (by decide)) | (rw [add_block]; exact Kd.own_blk (Kd.R_ne HO663.out BK667.out (by decide))) | (show (Addr.add _ _).block ≠ _; rw [add_block]; exact Kd.own_blk (Kd.R_ne HO663.out BK667.out (by decide))) | (dsimp only; exact Kd.own_blk (Kd.R_ne HO663.out BK667.out (by decide)))) _).trans (((cell_far (p := ⟨gb667, _, none⟩) (by first | exact Kd.own_blk (Kd.R_ne HO663.out BK667.out (by decide)) | (rw [add_block]; exact Kd.own_blk (Kd.R_ne HO663.out BK667.out (by decide))) | (show (Addr.add _ _).block ≠ _; rw [add_block]; exact Kd.own_blk (Kd.R_ne HO663.out BK667.out (by decide))) | (dsimp only; exact Kd.own_blk (Kd.R_ne HO663.out BK667.out (by decide)))) _).trans (((cell_far (p := ⟨gb667, _, none⟩) (by first | exact Kd.own_blk (Kd.R_ne HO663.out BK667.out (by decide)) | (rw [add_block]; exact Kd.own_blk (Kd.R_ne HO663.out BK667.out (by decide))) | (show (Addr.add _ _).block ≠ _; rw [add_block]; exact Kd.own_blk (Kd.R_ne HO663.out BK667.out (by decide))) | (dsimp only; exact Kd.own_blk (Kd.R_ne HO663.out BK667.out (by decide)))) _).trans (hHeld.1)))))), ((cell_far (p := ⟨gb667, _, none⟩) (by first | exact Kd.own_blk (Kd.R_ne HO663.out BK667.out (by decide)) | (rw [add_block]; exact Kd.own_blk (Kd.R_ne HO663.out BK667.out (by decide))) | (show (Addr.add _ _).block ≠ _; rw [add_block]; exact Kd.own_blk (Kd.R_ne HO663.out BK667.out (by decide))) | (dsimp only; exact Kd.own_blk (Kd.R_ne HO663.out BK667.out (by decide)))) _).trans (((cell_far (p := ⟨gb667, _, none⟩) (by first | exact Kd.own_blk (Kd.R_ne HO663.out BK667.out (by decide)) | (rw [add_block]; exact Kd.own_blk (Kd.R_ne HO663.out BK667.out (by decide))) | (show (Addr.add _ _).block ≠ _; rw [add_block]; exact Kd.own_blk (Kd.R_ne HO663.out BK667.out (by decide))) | (dsimp only; exact Kd.own_blk (Kd.R_ne HO663.out BK667.out (by decide)))) _).trans (((cell_far (p := ⟨gb667, _, none⟩) (by first | exact Kd.own_blk (Kd.R_ne HO663.out BK667.out (by decide)) | (rw [add_block]; exact Kd.own_blk (Kd.R_ne HO663.out BK667.out (by decide))) | (show (Addr.add _ _).block ≠ _; rw [add_block]; exact Kd.own_blk (Kd.R_ne HO663.out BK667.out (by decide))) | (dsimp only; exact Kd.own_blk (Kd.R_ne HO663.out BK667.out (by decide)))) _).trans (hHeld.2.1)))))), ((cell_far (p := ⟨gb667, _, none⟩) (by first | exact Kd.own_blk (Kd.R_ne HO663.out BK667.out (by decide)) | (rw [add_block]; exact Kd.own_blk (Kd.R_ne HO663.out BK667.out (by decide))) | (show (Addr.add _ _).block ≠ _; rw [add_block]; exact Kd.own_blk (Kd.R_ne HO663.out BK667.out (by decide))) | (dsimp only; exact Kd.own_blk (Kd.R_ne HO663.out BK667.out (by decide)))) _).trans (((cell_far (p := ⟨gb667, _, none⟩) (by first | exact Kd.own_blk (Kd.R_ne HO663.out BK667.out (by decide)) | (rw [add_block]; exact Kd.own_blk (Kd.R_ne HO663.out BK667.out (by decide))) | (show (Addr.add _ _).block ≠ _; rw [add_block]; exact Kd.own_blk (Kd.R_ne HO663.out BK667.out (by decide))) | (dsimp only; exact Kd.own_blk (Kd.R_ne HO663.out BK667.out (by decide)))) _).trans (((cell_far (p := ⟨gb667, _, none⟩) (by first | exact Kd.own_blk (Kd.R_ne HO663.out BK667.out (by decide)) | (rw [add_block]; exact Kd.own_blk (Kd.R_ne HO663.out BK667.out (by decide))) | (show (Addr.add _ _).block ≠ _; rw [add_block]; exact Kd.own_blk (Kd.R_ne HO663.out BK667.out (by decide))) | (dsimp only; exact Kd.own_blk (Kd.R_ne HO663.out BK667.out (by decide)))) _).trans (hHeld.2.2))))))⟩ (fun hHeld => ?_)
 clear hK K
 refine done_ (done_of HT_.out (by kernel_rfl)) ?_
 have hnb30 := NB667_660.out
 have hnc30 := NB660_667.out
 obtain ⟨hcz31_0, hcz31_1, hcz31_2, hfz31_0, hfz31_1, hfz31_2⟩ := cells3 BK667
 try go_wp2_with (first | (refine gl (some 23) Tryd.func36 #[.agg #[.string (rdOf ByteArray.empty t661 0), .string (rdOf ByteArray.empty t661 1), .string (rdOf ByteArray.empty t661 2)]] ?_; (with_reducible refine (coord_Right.calls k (rdOf ByteArray.empty t661 0) (rdOf ByteArray.empty t661 1) (rdOf ByteArray.empty t661 2) false _ (gS HG) A7.out).mono ?_); rintro e w32 ⟨rfl, hb⟩; refine ⟨_, rfl, ?_⟩; replace HO663 := Aside0.mk (Kd.R_below (by (with_reducible repeat (first | apply Kd.R_alloc | apply Kd.R_drewN | apply Kd.R_drew)); exact (Kd.R_mono (Kd.R_far (p := ⟨gb667, 2, none⟩) (Kd.R_far (p := ⟨gb667, 1, none⟩) (Kd.R_far (p := ⟨gb667, 0, none⟩) (Kd.R_types HO663.out BK667.out (by decide)) (fun _ hk => hk.2) (.string (rdOf ByteArray.empty t661 0))) (fun _ hk => hk.2) (.string (rdOf ByteArray.empty t661 1))) (fun _ hk => hk.2) (.string (rdOf ByteArray.empty t661 2))) (fun _ h_ => h_.1))) hb); replace BK660 := Aside0.mk (blk_below (g := gb660) (o := .cells #[.string (⟨#[]⟩ : ByteArray), .string (⟨#[]⟩ : ByteArray), .string (⟨#[]⟩ : ByteArray)] 32 (0, 0)) (by (with_reducible repeat (first | refine blk_drewN ?_ _ | refine blk_drew ?_ | refine blk_alloc ?_ _)); refine blk_far ?_ NB660_667.out _; (with_reducible repeat (first | refine blk_drewN ?_ _ | refine blk_drew ?_ | refine blk_alloc ?_ _)); refine blk_far ?_ NB660_667.out _; (with_reducible repeat (first | refine blk_drewN ?_ _ | refine blk_drew ?_ | refine blk_alloc ?_ _)); refine blk_far ?_ NB660_667.out _; (with_reducible repeat (first | refine blk_drewN ?_ _ | refine blk_drew ?_ | refine blk_alloc ?_ _)); exact BK660.out) hb); replace BK667 := Aside0.mk (blk_below (g := gb667) (o := .cells #[.string (rdOf ByteArray.empty t661 0), .string (rdOf ByteArray.empty t661 1), .string (rdOf ByteArray.empty t661 2)] 32 (0, 0)) (bP BK667) hb); replace HB := sB hb; (try clear hb); have hcz33_0 : w32.cell? ⟨gb660, 0, none⟩ = some (.string (⟨#[]⟩ : ByteArray)) := (blk_cell BK660.out 0).trans rfl; have hcz33_1 : w32.cell? ⟨gb660, 1, none⟩ = some (.string (⟨#[]⟩ : ByteArray)) := (blk_cell BK660.out 1).trans rfl; have hcz33_2 : w32.cell? ⟨gb660, 2, none⟩ = some (.string (⟨#[]⟩ : ByteArray)) := (blk_cell BK660.out 2).trans rfl; have hfz33_0 := blk_frozen BK660.out 0; have hfz33_1 := blk_frozen BK660.out 1; have hfz33_2 := blk_frozen BK660.out 2))
 refine bodyPost_ret (results_ct rfl _ _ gb660 32 #[.string (⟨#[]⟩ : ByteArray), .string (⟨#[]⟩ : ByteArray), .string (⟨#[]⟩ : ByteArray)] (0, 0) _ rfl (bP BK660) Tryd.underlying32 rfl (by kernel_rfl)) rfl ?_
 exact ⟨eA, bG⟩
def coord_Text.f (a0_0 : ByteArray) (a0_1 : ByteArray) (a0_2 : ByteArray) : Option (ByteArray) := if a0_0.size + 1 ≤ 9223372036854775807 then (if (a0_0 ++ (⟨#[58]⟩ : ByteArray)).size + a0_1.size ≤ 9223372036854775807 then (if ((a0_0 ++ (⟨#[58]⟩ : ByteArray)) ++ a0_1).size + 1 ≤ 9223372036854775807 then (if (((a0_0 ++ (⟨#[58]⟩ : ByteArray)) ++ a0_1) ++ (⟨#[58]⟩ : ByteArray)).size + a0_2.size ≤ 9223372036854775807 then (some ((((a0_0 ++ (⟨#[58]⟩ : ByteArray)) ++ a0_1) ++ (⟨#[58]⟩ : ByteArray)) ++ a0_2)) else (none)) else (none)) else (none)) else (none)
theorem coord_Text.calls (a0_0 : ByteArray) (a0_1 : ByteArray) (a0_2 : ByteArray) (r : ByteArray) (w : World) (hG : Glob w) (h : coord_Text.f a0_0 a0_1 a0_2 = some r) :
 Calls Tryd.prog 38 #[.agg #[.string a0_0, .string a0_1, .string a0_2]] w fun e w' => e = .returned (.string r) ∧ Below w.heap.size w w' := by
 have hu32 := Tryd.underlying32
 have HG := Aside0.mk hG
 clear hG
 have HB := Aside0.mk (Below.refl w.heap.size w)
 have H : (if a0_0.size + 1 ≤ 9223372036854775807 then (if (a0_0 ++ (⟨#[58]⟩ : ByteArray)).size + a0_1.size ≤ 9223372036854775807 then (if ((a0_0 ++ (⟨#[58]⟩ : ByteArray)) ++ a0_1).size + 1 ≤ 9223372036854775807 then (if (((a0_0 ++ (⟨#[58]⟩ : ByteArray)) ++ a0_1) ++ (⟨#[58]⟩ : ByteArray)).size + a0_2.size ≤ 9223372036854775807 then (some ((((a0_0 ++ (⟨#[58]⟩ : ByteArray)) ++ a0_1) ++ (⟨#[58]⟩ : ByteArray)) ++ a0_2)) else (none)) else (none)) else (none)) else (none)) = some r := h
 clear h
 obtain ⟨c2, H⟩ := gp H
 have c2b0 := eq_true c2
 have c2b1 := dT c2
 try have c2b2 : (9223372036854775807 < a0_0.size + 1) = False := eq_false (Nat.not_lt.2 c2)
 obtain ⟨c3, H⟩ := gp H
 have c3b0 := eq_true c3
 have c3b1 := dT c3
 try have c3b2 : (9223372036854775807 < (a0_0 ++ (⟨#[58]⟩ : ByteArray)).size + a0_1.size) = False := eq_false (Nat.not_lt.2 c3)
 have c3n : (a0_0.size + 1) + a0_1.size ≤ 9223372036854775807 := by have z_ := c3; simp only [ByteArray.size_append] at z_; exact z_
 have c3m : (9223372036854775807 < (a0_0.size + 1) + a0_1.size) = False := eq_false (Nat.not_lt.2 c3n)
 clear c3 c3b0 c3b1
 try clear c3b2
 obtain ⟨c4, H⟩ := gp H
 have c4b0 := eq_true c4
 have c4b1 := dT c4
 try have c4b2 : (9223372036854775807 < ((a0_0 ++ (⟨#[58]⟩ : ByteArray)) ++ a0_1).size + 1) = False := eq_false (Nat.not_lt.2 c4)
 have c4n : ((a0_0.size + 1) + a0_1.size) + 1 ≤ 9223372036854775807 := by have z_ := c4; simp only [ByteArray.size_append] at z_; exact z_
 have c4m : (9223372036854775807 < ((a0_0.size + 1) + a0_1.size) + 1) = False := eq_false (Nat.not_lt.2 c4n)
 clear c4 c4b0 c4b1
 try clear c4b2
 obtain ⟨c5, H⟩ := gp H
 have c5b0 := eq_true c5
 have c5b1 := dT c5
 try have c5b2 : (9223372036854775807 < (((a0_0 ++ (⟨#[58]⟩ : ByteArray)) ++ a0_1) ++ (⟨#[58]⟩ : ByteArray)).size + a0_2.size) = False := eq_false (Nat.not_lt.2 c5)
 have c5n : (((a0_0.size + 1) + a0_1.size) + 1) + a0_2.size ≤ 9223372036854775807 := by have z_ := c5; simp only [ByteArray.size_append] at z_; exact z_
 have c5m : (9223372036854775807 < (((a0_0.size + 1) + a0_1.size) + 1) + a0_2.size) = False := eq_false (Nat.not_lt.2 c5n)
 clear c5 c5b0 c5b1
 try clear c5b2
 obtain rfl := Option.some.inj H
 go_enter Tryd.func38, Tryd.ntmps38
 go_wp2_with (first | (refine be 1 #[.string a0_0, .string a0_1, .string a0_2] 32 ?_; intro gb669 hg w6 hbox hb; have BK669 := Aside0.mk (hbox); have GW669 := gW hg; have GE669 := gW hg; replace HB := sB hb; clear hb hbox hg; have hcz7_0 : w6.cell? ⟨gb669, 0, none⟩ = some (.string a0_0) := (blk_cell BK669.out 0).trans rfl; have hcz7_1 : w6.cell? ⟨gb669, 1, none⟩ = some (.string a0_1) := (blk_cell BK669.out 1).trans rfl; have hcz7_2 : w6.cell? ⟨gb669, 2, none⟩ = some (.string a0_2) := (blk_cell BK669.out 2).trans rfl; have hfz7_0 := blk_frozen BK669.out 0; have hfz7_1 := blk_frozen BK669.out 1; have hfz7_2 := blk_frozen BK669.out 2))
 go_ret
 exact ⟨eA, bG⟩
section
attribute [local go_sem high] eqA32
def newellaw09_awake.f (k : Nat)  : Option (Bool) := (coord_Parse.f k (⟨#[103, 58, 97, 58, 49]⟩ : ByteArray)).bind fun bt676 => (if bt676.2.2.2 = true then (if (bt676.1.toList == ([103] : List UInt8) && (bt676.2.1.toList == ([97] : List UInt8) && (bt676.2.2.1.toList == ([49] : List UInt8)))) = true then ((coord_Text.f bt676.1 bt676.2.1 bt676.2.2.1).bind fun t681 => (if t681.toList = ([103, 58, 97, 58, 49] : List UInt8) then ((coord_Key.f k (⟨#[103]⟩ : ByteArray) (⟨#[97]⟩ : ByteArray) (⟨#[]⟩ : ByteArray) (⟨#[]⟩ : ByteArray) (⟨#[]⟩ : ByteArray) (⟨#[]⟩ : ByteArray) false ([] : List (S183))).bind fun t682 => (some (t682.toList == ([103, 58, 97, 58, 106, 97, 114, 58] : List UInt8)))) else (some false))) else (some false)) else (some false))
theorem newellaw09_awake.mono : ∀ k, LeO (newellaw09_awake.f k ) (newellaw09_awake.f (k + 1) ) := by
 intro  k
 unfold newellaw09_awake.f
 have m0 := @coord_Key.mono
 have m1 := @coord_Parse.mono
 exact mo
theorem newellaw09_awake.calls (k : Nat)  (r : Bool) (w : World) (hG : Glob w) (h : newellaw09_awake.f k  = some r) :
 Calls Tryd.prog 24 #[] w fun e w' => e = .returned (.bool r) ∧ Below w.heap.size w w' := by
 have hu32 := Tryd.underlying32
 have hu24 := Tryd.underlying24
 have HG := Aside0.mk hG
 clear hG
 have HB := Aside0.mk (Below.refl w.heap.size w)
 have H : ((coord_Parse.f k (⟨#[103, 58, 97, 58, 49]⟩ : ByteArray)).bind fun bt676 => (if bt676.2.2.2 = true then (if (bt676.1.toList == ([103] : List UInt8) && (bt676.2.1.toList == ([97] : List UInt8) && (bt676.2.2.1.toList == ([49] : List UInt8)))) = true then ((coord_Text.f bt676.1 bt676.2.1 bt676.2.2.1).bind fun t681 => (if t681.toList = ([103, 58, 97, 58, 49] : List UInt8) then ((coord_Key.f k (⟨#[103]⟩ : ByteArray) (⟨#[97]⟩ : ByteArray) (⟨#[]⟩ : ByteArray) (⟨#[]⟩ : ByteArray) (⟨#[]⟩ : ByteArray) (⟨#[]⟩ : ByteArray) false ([] : List (S183))).bind fun t682 => (some (t682.toList == ([103, 58, 97, 58, 106, 97, 114, 58] : List UInt8)))) else (some false))) else (some false)) else (some false))) = some r := h
 clear h
 replace H := bi H
 obtain ⟨⟨t676, t677, t678, t679⟩, A10, H⟩ := H
 try dsimp only at H
 have A1 := Aside0.mk A10
 clear A10
 by_cases c2 : t679 = true
 rotate_left
 ·replace c2 := Bool.eq_false_iff.mpr c2
  subst c2
  replace H : (some false) = some r := by rw [if_neg nF] at H; exact H
  obtain rfl := Option.some.inj H
  go_enter Tryd.func24, Tryd.ntmps24
  go_wp2_with (first | (refine gl (some 4) Tryd.func26 #[.string (⟨#[103, 58, 97, 58, 49]⟩ : ByteArray)] ?_; (with_reducible refine (coord_Parse.calls k (⟨#[103, 58, 97, 58, 49]⟩ : ByteArray) t676 t677 t678 false _ (gS HG) A1.out).mono ?_); rintro e w19 ⟨rfl, hb⟩; refine ⟨_, rfl, ?_⟩; replace HB := sB hb; (try clear hb)) | (refine be 1 #[.string (⟨#[]⟩ : ByteArray), .string (⟨#[]⟩ : ByteArray), .string (⟨#[]⟩ : ByteArray)] 32 ?_; intro gb680 hg w20 hbox hb; have BK680 := Aside0.mk (hbox); have GW680 := gW hg; have GE680 := gW hg; replace HB := sB hb; clear hb hbox hg; have hcz21_0 : w20.cell? ⟨gb680, 0, none⟩ = some (.string (⟨#[]⟩ : ByteArray)) := (blk_cell BK680.out 0).trans rfl; have hcz21_1 : w20.cell? ⟨gb680, 1, none⟩ = some (.string (⟨#[]⟩ : ByteArray)) := (blk_cell BK680.out 1).trans rfl; have hcz21_2 : w20.cell? ⟨gb680, 2, none⟩ = some (.string (⟨#[]⟩ : ByteArray)) := (blk_cell BK680.out 2).trans rfl; have hfz21_0 := blk_frozen BK680.out 0; have hfz21_1 := blk_frozen BK680.out 1; have hfz21_2 := blk_frozen BK680.out 2))
  go_ret
  exact ⟨eA, bG⟩
 subst c2
 replace H : (if (t676.toList == ([103] : List UInt8) && (t677.toList == ([97] : List UInt8) && (t678.toList == ([49] : List UInt8)))) = true then ((coord_Text.f t676 t677 t678).bind fun t681 => (if t681.toList = ([103, 58, 97, 58, 49] : List UInt8) then ((coord_Key.f k (⟨#[103]⟩ : ByteArray) (⟨#[97]⟩ : ByteArray) (⟨#[]⟩ : ByteArray) (⟨#[]⟩ : ByteArray) (⟨#[]⟩ : ByteArray) (⟨#[]⟩ : ByteArray) false ([] : List (S183))).bind fun t682 => (some (t682.toList == ([103, 58, 97, 58, 106, 97, 114, 58] : List UInt8)))) else (some false))) else (some false)) = some r := by rw [if_pos rfl] at H; exact H
 by_cases c3 : (t676.toList == ([103] : List UInt8) && (t677.toList == ([97] : List UInt8) && (t678.toList == ([49] : List UInt8)))) = true
 rotate_left
 ·rw [if_neg c3] at H
  have c3b0 : (t676.toList == ([103] : List UInt8) && (t677.toList == ([97] : List UInt8) && (t678.toList == ([49] : List UInt8)))) = false := by simpa using c3
  (try (have c3b1 : decide (t676.toList = ([103] : List UInt8) && (t677.toList == ([97] : List UInt8) && (t678.toList == ([49] : List UInt8)))) = false := by simpa using c3))
  (try (have c3b2 : (t676.toList == ([103] : List UInt8) && (t677.toList == ([97] : List UInt8) && (t678.toList == ([49] : List UInt8)))) = false := by simpa using c3))
  (try (have c3b3 : ¬ (t676.toList = ([103] : List UInt8) && (t677.toList == ([97] : List UInt8) && (t678.toList == ([49] : List UInt8)))) := by simpa using c3))
  clear c3
  obtain rfl := Option.some.inj H
  go_enter Tryd.func24, Tryd.ntmps24
  go_wp2_with (first | (refine gl (some 4) Tryd.func26 #[.string (⟨#[103, 58, 97, 58, 49]⟩ : ByteArray)] ?_; (with_reducible refine (coord_Parse.calls k (⟨#[103, 58, 97, 58, 49]⟩ : ByteArray) t676 t677 t678 true _ (gS HG) A1.out).mono ?_); rintro e w16 ⟨rfl, hb⟩; refine ⟨_, rfl, ?_⟩; replace HB := sB hb; (try clear hb)) | (refine be 1 #[.string (⟨#[]⟩ : ByteArray), .string (⟨#[]⟩ : ByteArray), .string (⟨#[]⟩ : ByteArray)] 32 ?_; intro gb680 hg w17 hbox hb; have BK680 := Aside0.mk (hbox); have GW680 := gW hg; have GE680 := gW hg; replace HB := sB hb; clear hb hbox hg; have hcz18_0 : w17.cell? ⟨gb680, 0, none⟩ = some (.string (⟨#[]⟩ : ByteArray)) := (blk_cell BK680.out 0).trans rfl; have hcz18_1 : w17.cell? ⟨gb680, 1, none⟩ = some (.string (⟨#[]⟩ : ByteArray)) := (blk_cell BK680.out 1).trans rfl; have hcz18_2 : w17.cell? ⟨gb680, 2, none⟩ = some (.string (⟨#[]⟩ : ByteArray)) := (blk_cell BK680.out 2).trans rfl; have hfz18_0 := blk_frozen BK680.out 0; have hfz18_1 := blk_frozen BK680.out 1; have hfz18_2 := blk_frozen BK680.out 2))
  go_ret
  exact ⟨eA, bG⟩
 rw [if_pos c3] at H
 have c3b0 : (t676.toList == ([103] : List UInt8) && (t677.toList == ([97] : List UInt8) && (t678.toList == ([49] : List UInt8)))) = true := c3
 (try (have c3b1 : decide (t676.toList = ([103] : List UInt8) && (t677.toList == ([97] : List UInt8) && (t678.toList == ([49] : List UInt8)))) = true := by simpa using c3))
 (try (have c3b2 : (t676.toList == ([103] : List UInt8) && (t677.toList == ([97] : List UInt8) && (t678.toList == ([49] : List UInt8)))) = true := by simpa using c3))
 clear c3
 replace H := bi H
 obtain ⟨t681, A40, H⟩ := H
 try dsimp only at H
 have A4 := Aside0.mk A40
 clear A40
 by_cases c5 : t681.toList = ([103, 58, 97, 58, 49] : List UInt8)
 rotate_left
 ·rw [if_neg c5] at H
  obtain ⟨c5b0, c5b1⟩ := eqF c5
  obtain rfl := Option.some.inj H
  go_enter Tryd.func24, Tryd.ntmps24
  go_wp2_with (first | (refine gl (some 4) Tryd.func26 #[.string (⟨#[103, 58, 97, 58, 49]⟩ : ByteArray)] ?_; (with_reducible refine (coord_Parse.calls k (⟨#[103, 58, 97, 58, 49]⟩ : ByteArray) t676 t677 t678 true _ (gS HG) A1.out).mono ?_); rintro e w12 ⟨rfl, hb⟩; refine ⟨_, rfl, ?_⟩; replace HB := sB hb; (try clear hb)) | (refine be 1 #[.string (⟨#[]⟩ : ByteArray), .string (⟨#[]⟩ : ByteArray), .string (⟨#[]⟩ : ByteArray)] 32 ?_; intro gb680 hg w13 hbox hb; have BK680 := Aside0.mk (hbox); have GW680 := gW hg; have GE680 := gW hg; replace HB := sB hb; clear hb hbox hg; have hcz14_0 : w13.cell? ⟨gb680, 0, none⟩ = some (.string (⟨#[]⟩ : ByteArray)) := (blk_cell BK680.out 0).trans rfl; have hcz14_1 : w13.cell? ⟨gb680, 1, none⟩ = some (.string (⟨#[]⟩ : ByteArray)) := (blk_cell BK680.out 1).trans rfl; have hcz14_2 : w13.cell? ⟨gb680, 2, none⟩ = some (.string (⟨#[]⟩ : ByteArray)) := (blk_cell BK680.out 2).trans rfl; have hfz14_0 := blk_frozen BK680.out 0; have hfz14_1 := blk_frozen BK680.out 1; have hfz14_2 := blk_frozen BK680.out 2) | (go_at_call 38; (with_reducible refine (coord_Text.calls t676 t677 t678 t681 _ (gS HG) A4.out).mono ?_); rintro e w15 ⟨rfl, hb⟩; replace BK680 := Aside0.mk (blk_below (g := gb680) (o := .cells #[.string t676, .string t677, .string t678] 32 (0, 0)) (bP BK680) hb); replace HB := sB hb; (try clear hb)))
  go_ret
  exact ⟨eA, bG⟩
 rw [if_pos c5] at H
 obtain ⟨c5b0, c5b1⟩ := eqT c5
 clear c5
 replace H := bi H
 obtain ⟨t682, A60, H⟩ := H
 try dsimp only at H
 have A6 := Aside0.mk A60
 clear A60
 obtain rfl := Option.some.inj H
 go_enter Tryd.func24, Tryd.ntmps24
 go_wp2_with (first | (refine gl (some 4) Tryd.func26 #[.string (⟨#[103, 58, 97, 58, 49]⟩ : ByteArray)] ?_; (with_reducible refine (coord_Parse.calls k (⟨#[103, 58, 97, 58, 49]⟩ : ByteArray) t676 t677 t678 true _ (gS HG) A1.out).mono ?_); rintro e w7 ⟨rfl, hb⟩; refine ⟨_, rfl, ?_⟩; replace HB := sB hb; (try clear hb)) | (refine be 1 #[.string (⟨#[]⟩ : ByteArray), .string (⟨#[]⟩ : ByteArray), .string (⟨#[]⟩ : ByteArray)] 32 ?_; intro gb680 hg w8 hbox hb; have BK680 := Aside0.mk (hbox); have GW680 := gW hg; have GE680 := gW hg; replace HB := sB hb; clear hb hbox hg; have hcz9_0 : w8.cell? ⟨gb680, 0, none⟩ = some (.string (⟨#[]⟩ : ByteArray)) := (blk_cell BK680.out 0).trans rfl; have hcz9_1 : w8.cell? ⟨gb680, 1, none⟩ = some (.string (⟨#[]⟩ : ByteArray)) := (blk_cell BK680.out 1).trans rfl; have hcz9_2 : w8.cell? ⟨gb680, 2, none⟩ = some (.string (⟨#[]⟩ : ByteArray)) := (blk_cell BK680.out 2).trans rfl; have hfz9_0 := blk_frozen BK680.out 0; have hfz9_1 := blk_frozen BK680.out 1; have hfz9_2 := blk_frozen BK680.out 2) | (go_at_call 38; (with_reducible refine (coord_Text.calls t676 t677 t678 t681 _ (gS HG) A4.out).mono ?_); rintro e w10 ⟨rfl, hb⟩; replace BK680 := Aside0.mk (blk_below (g := gb680) (o := .cells #[.string t676, .string t677, .string t678] 32 (0, 0)) (bP BK680) hb); replace HB := sB hb; (try clear hb)) | (go_at_call 25; (refine (coord_Key.calls k (⟨#[103]⟩ : ByteArray) (⟨#[97]⟩ : ByteArray) (⟨#[]⟩ : ByteArray) (⟨#[]⟩ : ByteArray) (⟨#[]⟩ : ByteArray) (⟨#[]⟩ : ByteArray) false _ _ ([] : List (S183)) t682 _ ?side1 ?side2 (gS HG) A6.out).mono ?_); (case side1 => exact Kd.C_nil _ _); (case side2 => exact Nat.le_refl _); rintro e w11 ⟨rfl, hb⟩; replace BK680 := kB BK680 hb; replace HB := sB hb; (try clear hb)))
 go_ret
 exact ⟨eA, bG⟩
end
def newelref01_Digit.f (a0 : Int) : Option (Bool) := if a0 ≥ 48 then (some (decide (a0 ≤ 57))) else (some false)
theorem newelref01_Digit.calls (a0 : Int) (r : Bool) (w : World) (hG : Glob w) (h : newelref01_Digit.f a0 = some r) :
 Calls Tryd.prog 78 #[.int .u8 a0] w fun e w' => e = .returned (.bool r) ∧ Drawn0 w w' := by
 have HG := Aside0.mk hG
 clear hG
 have H : (if a0 ≥ 48 then (some (decide (a0 ≤ 57))) else (some false)) = some r := h
 clear h
 by_cases c2 : a0 ≥ 48
 rotate_left
 ·rw [if_neg c2] at H
  have c2b0 := dF c2
  clear c2
  obtain rfl := Option.some.inj H
  go_enter Tryd.func78, Tryd.ntmps78
  go_wp2
  go_ret
  exact ⟨by first | rfl | (simp; done) | (simp [*]; done), by repeat (first | exact Drawn0.refl _ | apply Drawn0.step)⟩
 rw [if_pos c2] at H
 have c2b0 := dT c2
 clear c2
 obtain rfl := Option.some.inj H
 go_enter Tryd.func78, Tryd.ntmps78
 go_wp2
 go_ret
 exact ⟨by first | rfl | (simp; done) | (simp [*]; done), by repeat (first | exact Drawn0.refl _ | apply Drawn0.step)⟩
def newelref05_Id.l0 : Nat → ByteArray → Int → Option (Bool)
 | 0, _, _ => none
 | k + 1, x0, x3 => if x3 < (x0.size : Int) then (if 0 ≤ x3 then (if (bt x0 x3) ≥ 97 then (if (bt x0 x3) ≤ 122 then (newelref05_Id.l0 k x0 (wrap64 (x3 + 1))) else (if (bt x0 x3) ≥ 65 then (if (bt x0 x3) ≤ 90 then (newelref05_Id.l0 k x0 (wrap64 (x3 + 1))) else ((newelref01_Digit.f (bt x0 x3)).bind fun t683 => (if t683 = true then (newelref05_Id.l0 k x0 (wrap64 (x3 + 1))) else (if (bt x0 x3) = 95 then (newelref05_Id.l0 k x0 (wrap64 (x3 + 1))) else (if (bt x0 x3) = 45 then (newelref05_Id.l0 k x0 (wrap64 (x3 + 1))) else (if ((bt x0 x3) = 46) then (newelref05_Id.l0 k x0 (wrap64 (x3 + 1))) else (some false))))))) else ((newelref01_Digit.f (bt x0 x3)).bind fun t684 => (if t684 = true then (newelref05_Id.l0 k x0 (wrap64 (x3 + 1))) else (if (bt x0 x3) = 95 then (newelref05_Id.l0 k x0 (wrap64 (x3 + 1))) else (if (bt x0 x3) = 45 then (newelref05_Id.l0 k x0 (wrap64 (x3 + 1))) else (if ((bt x0 x3) = 46) then (newelref05_Id.l0 k x0 (wrap64 (x3 + 1))) else (some false)))))))) else (if (bt x0 x3) ≥ 65 then (if (bt x0 x3) ≤ 90 then (newelref05_Id.l0 k x0 (wrap64 (x3 + 1))) else ((newelref01_Digit.f (bt x0 x3)).bind fun t685 => (if t685 = true then (newelref05_Id.l0 k x0 (wrap64 (x3 + 1))) else (if (bt x0 x3) = 95 then (newelref05_Id.l0 k x0 (wrap64 (x3 + 1))) else (if (bt x0 x3) = 45 then (newelref05_Id.l0 k x0 (wrap64 (x3 + 1))) else (if ((bt x0 x3) = 46) then (newelref05_Id.l0 k x0 (wrap64 (x3 + 1))) else (some false))))))) else ((newelref01_Digit.f (bt x0 x3)).bind fun t686 => (if t686 = true then (newelref05_Id.l0 k x0 (wrap64 (x3 + 1))) else (if (bt x0 x3) = 95 then (newelref05_Id.l0 k x0 (wrap64 (x3 + 1))) else (if (bt x0 x3) = 45 then (newelref05_Id.l0 k x0 (wrap64 (x3 + 1))) else (if ((bt x0 x3) = 46) then (newelref05_Id.l0 k x0 (wrap64 (x3 + 1))) else (some false)))))))) else (none)) else (if (x0.size : Int) ≥ 1 then (some (decide ((x0.size : Int) ≤ 500))) else (some false))
def newelref05_Id.f (k : Nat) (a0 : ByteArray) : Option (Bool) := newelref05_Id.l0 k a0 0
theorem newelref05_Id.calls (k : Nat) (a0 : ByteArray) (r : Bool) (w : World) (hG : Glob w) (h : newelref05_Id.f k a0 = some r) :
 Calls Tryd.prog 35 #[.string a0] w fun e w' => e = .returned (.bool r) ∧ Drawn0 w w' := by
 have HG := Aside0.mk hG
 clear hG
 have H : (newelref05_Id.l0 k a0 0) = some r := h
 clear h
 have H' := Aside0.mk H
 clear H
 go_enter Tryd.func35, Tryd.ntmps35
 go_wp2
 go_loopg [3] k (fun kq v3 w' => ∃ (x3_1 : Int), v3 = .int .i64 x3_1 ∧ Aside0 (newelref05_Id.l0 kq a0 x3_1 = some r) ∧ Aside0 (kq ≤ k) ∧ Drawn0 w w')
 case atStart => exact ⟨(0), cA, H', ⟨Nat.le_refl _⟩, by repeat (first | exact Drawn0.refl _ | apply Drawn0.step)⟩
 clear H'
 obtain ⟨x3_1, rfl, HA, HK1, ⟨m1, rfl⟩⟩ := hrel
 cases gk with
 | zero => exact absurd HA.out (by simp [newelref05_Id.l0])
 | succ k1 =>
  have H := HA.out
  clear HA
  simp only [newelref05_Id.l0] at H
  by_cases c2 : x3_1 < (a0.size : Int)
  rotate_left
  ·rw [if_neg c2] at H
   have c2b0 := dF c2
   clear c2
   by_cases c31 : (a0.size : Int) ≥ 1
   rotate_left
   ·rw [if_neg c31] at H
    have c31b0 := dF c31
    have c31b1 : decide (1 ≤ a0.size) = false := decide_eq_false (by omega)
    clear c31
    obtain rfl := Option.some.inj H
    go_wp2
    go_ret
    exact ⟨by first | rfl | (simp; done) | (simp [*]; done), by repeat (first | exact Drawn0.refl _ | apply Drawn0.step)⟩
   rw [if_pos c31] at H
   have c31b0 := dT c31
   have c31b1 : decide (1 ≤ a0.size) = true := decide_eq_true (by omega)
   clear c31
   obtain rfl := Option.some.inj H
   go_wp2
   go_ret
   exact ⟨by first | rfl | (simp; done) | (simp [*]; done), by repeat (first | exact Drawn0.refl _ | apply Drawn0.step)⟩
  rw [if_pos c2] at H
  have c2b0 := dT c2
  clear c2
  obtain ⟨c3, H⟩ := gp H
  have c3b0 := dT c3
  clear c3
  by_cases c5 : (bt a0 x3_1) ≥ 97
  rotate_left
  ·rw [if_neg c5] at H
   have c5b0 := dF c5
   clear c5
   by_cases c19 : (bt a0 x3_1) ≥ 65
   rotate_left
   ·rw [if_neg c19] at H
    have c19b0 := dF c19
    clear c19
    replace H := bi H
    obtain ⟨t686, A260, H⟩ := H
    try dsimp only at H
    have A26 := Aside0.mk A260
    clear A260
    by_cases c27 : t686 = true
    ·subst c27
     replace H : (newelref05_Id.l0 k1 a0 (wrap64 (x3_1 + 1))) = some r := by rw [if_pos rfl] at H; exact H
     have H' := Aside0.mk H
     clear H
     have p4 : 0 ≤ (x3_1 : Int) := dA
     have q4 : x3_1 < (a0.size : Int) := dA
     have hx4 := bt_at a0 x3_1
     replace p4 := eq_true p4
     replace q4 := eq_true q4
     go_wp2_with (first | (go_at_call 78; (with_reducible refine (newelref01_Digit.calls (bt a0 x3_1) true _ ?side1 A26.out).mono ?_); (case side1 => exact Glob.drawn HG.out (by repeat (first | exact Drawn0.refl _ | apply Drawn0.step))); rintro e w' ⟨rfl, ⟨nd, rfl⟩⟩))
     go_roundg k1
     case measure => have := HK1.out; omega
     case rel => exact ⟨(wrap64 (x3_1 + 1)), cA, H', ⟨by have := HK1.out; omega⟩, by repeat (first | exact Drawn0.refl _ | apply Drawn0.step)⟩
    replace c27 := Bool.eq_false_iff.mpr c27
    subst c27
    replace H : (if (bt a0 x3_1) = 95 then (newelref05_Id.l0 k1 a0 (wrap64 (x3_1 + 1))) else (if (bt a0 x3_1) = 45 then (newelref05_Id.l0 k1 a0 (wrap64 (x3_1 + 1))) else (if ((bt a0 x3_1) = 46) then (newelref05_Id.l0 k1 a0 (wrap64 (x3_1 + 1))) else (some false)))) = some r := by rw [if_neg nF] at H; exact H
    by_cases c28 : (bt a0 x3_1) = 95
    ·rw [if_pos c28] at H
     obtain ⟨c28b0, c28b1⟩ := eqT c28
     clear c28
     have H' := Aside0.mk H
     clear H
     have p4 : 0 ≤ (x3_1 : Int) := dA
     have q4 : x3_1 < (a0.size : Int) := dA
     have hx4 := bt_at a0 x3_1
     replace p4 := eq_true p4
     replace q4 := eq_true q4
     go_wp2_with (first | (go_at_call 78; (with_reducible refine (newelref01_Digit.calls (bt a0 x3_1) false _ ?side1 A26.out).mono ?_); (case side1 => exact Glob.drawn HG.out (by repeat (first | exact Drawn0.refl _ | apply Drawn0.step))); rintro e w' ⟨rfl, ⟨nd, rfl⟩⟩))
     go_roundg k1
     case measure => have := HK1.out; omega
     case rel => exact ⟨(wrap64 (x3_1 + 1)), cA, H', ⟨by have := HK1.out; omega⟩, by repeat (first | exact Drawn0.refl _ | apply Drawn0.step)⟩
    rw [if_neg c28] at H
    obtain ⟨c28b0, c28b1⟩ := eqF c28
    by_cases c29 : (bt a0 x3_1) = 45
    ·rw [if_pos c29] at H
     obtain ⟨c29b0, c29b1⟩ := eqT c29
     clear c29
     have H' := Aside0.mk H
     clear H
     have p4 : 0 ≤ (x3_1 : Int) := dA
     have q4 : x3_1 < (a0.size : Int) := dA
     have hx4 := bt_at a0 x3_1
     replace p4 := eq_true p4
     replace q4 := eq_true q4
     go_wp2_with (first | (go_at_call 78; (with_reducible refine (newelref01_Digit.calls (bt a0 x3_1) false _ ?side1 A26.out).mono ?_); (case side1 => exact Glob.drawn HG.out (by repeat (first | exact Drawn0.refl _ | apply Drawn0.step))); rintro e w' ⟨rfl, ⟨nd, rfl⟩⟩))
     go_roundg k1
     case measure => have := HK1.out; omega
     case rel => exact ⟨(wrap64 (x3_1 + 1)), cA, H', ⟨by have := HK1.out; omega⟩, by repeat (first | exact Drawn0.refl _ | apply Drawn0.step)⟩
    rw [if_neg c29] at H
    obtain ⟨c29b0, c29b1⟩ := eqF c29
    by_cases c30 : ((bt a0 x3_1) = 46)
    rotate_left
    ·rw [if_neg c30] at H
     obtain ⟨c30b0, c30b1⟩ := eqF c30
     obtain rfl := Option.some.inj H
     have p4 : 0 ≤ (x3_1 : Int) := dA
     have q4 : x3_1 < (a0.size : Int) := dA
     have hx4 := bt_at a0 x3_1
     replace p4 := eq_true p4
     replace q4 := eq_true q4
     go_wp2_with (first | (go_at_call 78; (with_reducible refine (newelref01_Digit.calls (bt a0 x3_1) false _ ?side1 A26.out).mono ?_); (case side1 => exact Glob.drawn HG.out (by repeat (first | exact Drawn0.refl _ | apply Drawn0.step))); rintro e w' ⟨rfl, ⟨nd, rfl⟩⟩))
     go_ret
     exact ⟨by first | rfl | (simp; done) | (simp [*]; done), by repeat (first | exact Drawn0.refl _ | apply Drawn0.step)⟩
    rw [if_pos c30] at H
    obtain ⟨c30b0, c30b1⟩ := eqT c30
    clear c30
    have H' := Aside0.mk H
    clear H
    have p4 : 0 ≤ (x3_1 : Int) := dA
    have q4 : x3_1 < (a0.size : Int) := dA
    have hx4 := bt_at a0 x3_1
    replace p4 := eq_true p4
    replace q4 := eq_true q4
    go_wp2_with (first | (go_at_call 78; (with_reducible refine (newelref01_Digit.calls (bt a0 x3_1) false _ ?side1 A26.out).mono ?_); (case side1 => exact Glob.drawn HG.out (by repeat (first | exact Drawn0.refl _ | apply Drawn0.step))); rintro e w' ⟨rfl, ⟨nd, rfl⟩⟩))
    go_roundg k1
    case measure => have := HK1.out; omega
    case rel => exact ⟨(wrap64 (x3_1 + 1)), cA, H', ⟨by have := HK1.out; omega⟩, by repeat (first | exact Drawn0.refl _ | apply Drawn0.step)⟩
   rw [if_pos c19] at H
   have c19b0 := dT c19
   clear c19
   by_cases c20 : (bt a0 x3_1) ≤ 90
   ·rw [if_pos c20] at H
    have c20b0 := dT c20
    clear c20
    have H' := Aside0.mk H
    clear H
    have p4 : 0 ≤ (x3_1 : Int) := dA
    have q4 : x3_1 < (a0.size : Int) := dA
    have hx4 := bt_at a0 x3_1
    replace p4 := eq_true p4
    replace q4 := eq_true q4
    go_wp2
    go_roundg k1
    case measure => have := HK1.out; omega
    case rel => exact ⟨(wrap64 (x3_1 + 1)), cA, H', ⟨by have := HK1.out; omega⟩, by repeat (first | exact Drawn0.refl _ | apply Drawn0.step)⟩
   rw [if_neg c20] at H
   have c20b0 := dF c20
   clear c20
   replace H := bi H
   obtain ⟨t685, A210, H⟩ := H
   try dsimp only at H
   have A21 := Aside0.mk A210
   clear A210
   by_cases c22 : t685 = true
   ·subst c22
    replace H : (newelref05_Id.l0 k1 a0 (wrap64 (x3_1 + 1))) = some r := by rw [if_pos rfl] at H; exact H
    have H' := Aside0.mk H
    clear H
    have p4 : 0 ≤ (x3_1 : Int) := dA
    have q4 : x3_1 < (a0.size : Int) := dA
    have hx4 := bt_at a0 x3_1
    replace p4 := eq_true p4
    replace q4 := eq_true q4
    go_wp2_with (first | (go_at_call 78; (with_reducible refine (newelref01_Digit.calls (bt a0 x3_1) true _ ?side1 A21.out).mono ?_); (case side1 => exact Glob.drawn HG.out (by repeat (first | exact Drawn0.refl _ | apply Drawn0.step))); rintro e w' ⟨rfl, ⟨nd, rfl⟩⟩))
    go_roundg k1
    case measure => have := HK1.out; omega
    case rel => exact ⟨(wrap64 (x3_1 + 1)), cA, H', ⟨by have := HK1.out; omega⟩, by repeat (first | exact Drawn0.refl _ | apply Drawn0.step)⟩
   replace c22 := Bool.eq_false_iff.mpr c22
   subst c22
   replace H : (if (bt a0 x3_1) = 95 then (newelref05_Id.l0 k1 a0 (wrap64 (x3_1 + 1))) else (if (bt a0 x3_1) = 45 then (newelref05_Id.l0 k1 a0 (wrap64 (x3_1 + 1))) else (if ((bt a0 x3_1) = 46) then (newelref05_Id.l0 k1 a0 (wrap64 (x3_1 + 1))) else (some false)))) = some r := by rw [if_neg nF] at H; exact H
   by_cases c23 : (bt a0 x3_1) = 95
   ·rw [if_pos c23] at H
    obtain ⟨c23b0, c23b1⟩ := eqT c23
    clear c23
    have H' := Aside0.mk H
    clear H
    have p4 : 0 ≤ (x3_1 : Int) := dA
    have q4 : x3_1 < (a0.size : Int) := dA
    have hx4 := bt_at a0 x3_1
    replace p4 := eq_true p4
    replace q4 := eq_true q4
    go_wp2_with (first | (go_at_call 78; (with_reducible refine (newelref01_Digit.calls (bt a0 x3_1) false _ ?side1 A21.out).mono ?_); (case side1 => exact Glob.drawn HG.out (by repeat (first | exact Drawn0.refl _ | apply Drawn0.step))); rintro e w' ⟨rfl, ⟨nd, rfl⟩⟩))
    go_roundg k1
    case measure => have := HK1.out; omega
    case rel => exact ⟨(wrap64 (x3_1 + 1)), cA, H', ⟨by have := HK1.out; omega⟩, by repeat (first | exact Drawn0.refl _ | apply Drawn0.step)⟩
   rw [if_neg c23] at H
   obtain ⟨c23b0, c23b1⟩ := eqF c23
   by_cases c24 : (bt a0 x3_1) = 45
   ·rw [if_pos c24] at H
    obtain ⟨c24b0, c24b1⟩ := eqT c24
    clear c24
    have H' := Aside0.mk H
    clear H
    have p4 : 0 ≤ (x3_1 : Int) := dA
    have q4 : x3_1 < (a0.size : Int) := dA
    have hx4 := bt_at a0 x3_1
    replace p4 := eq_true p4
    replace q4 := eq_true q4
    go_wp2_with (first | (go_at_call 78; (with_reducible refine (newelref01_Digit.calls (bt a0 x3_1) false _ ?side1 A21.out).mono ?_); (case side1 => exact Glob.drawn HG.out (by repeat (first | exact Drawn0.refl _ | apply Drawn0.step))); rintro e w' ⟨rfl, ⟨nd, rfl⟩⟩))
    go_roundg k1
    case measure => have := HK1.out; omega
    case rel => exact ⟨(wrap64 (x3_1 + 1)), cA, H', ⟨by have := HK1.out; omega⟩, by repeat (first | exact Drawn0.refl _ | apply Drawn0.step)⟩
   rw [if_neg c24] at H
   obtain ⟨c24b0, c24b1⟩ := eqF c24
   by_cases c25 : ((bt a0 x3_1) = 46)
   rotate_left
   ·rw [if_neg c25] at H
    obtain ⟨c25b0, c25b1⟩ := eqF c25
    obtain rfl := Option.some.inj H
    have p4 : 0 ≤ (x3_1 : Int) := dA
    have q4 : x3_1 < (a0.size : Int) := dA
    have hx4 := bt_at a0 x3_1
    replace p4 := eq_true p4
    replace q4 := eq_true q4
    go_wp2_with (first | (go_at_call 78; (with_reducible refine (newelref01_Digit.calls (bt a0 x3_1) false _ ?side1 A21.out).mono ?_); (case side1 => exact Glob.drawn HG.out (by repeat (first | exact Drawn0.refl _ | apply Drawn0.step))); rintro e w' ⟨rfl, ⟨nd, rfl⟩⟩))
    go_ret
    exact ⟨by first | rfl | (simp; done) | (simp [*]; done), by repeat (first | exact Drawn0.refl _ | apply Drawn0.step)⟩
   rw [if_pos c25] at H
   obtain ⟨c25b0, c25b1⟩ := eqT c25
   clear c25
   have H' := Aside0.mk H
   clear H
   have p4 : 0 ≤ (x3_1 : Int) := dA
   have q4 : x3_1 < (a0.size : Int) := dA
   have hx4 := bt_at a0 x3_1
   replace p4 := eq_true p4
   replace q4 := eq_true q4
   go_wp2_with (first | (go_at_call 78; (with_reducible refine (newelref01_Digit.calls (bt a0 x3_1) false _ ?side1 A21.out).mono ?_); (case side1 => exact Glob.drawn HG.out (by repeat (first | exact Drawn0.refl _ | apply Drawn0.step))); rintro e w' ⟨rfl, ⟨nd, rfl⟩⟩))
   go_roundg k1
   case measure => have := HK1.out; omega
   case rel => exact ⟨(wrap64 (x3_1 + 1)), cA, H', ⟨by have := HK1.out; omega⟩, by repeat (first | exact Drawn0.refl _ | apply Drawn0.step)⟩
  rw [if_pos c5] at H
  have c5b0 := dT c5
  clear c5
  by_cases c6 : (bt a0 x3_1) ≤ 122
  ·rw [if_pos c6] at H
   have c6b0 := dT c6
   clear c6
   have H' := Aside0.mk H
   clear H
   have p4 : 0 ≤ (x3_1 : Int) := dA
   have q4 : x3_1 < (a0.size : Int) := dA
   have hx4 := bt_at a0 x3_1
   replace p4 := eq_true p4
   replace q4 := eq_true q4
   go_wp2
   go_roundg k1
   case measure => have := HK1.out; omega
   case rel => exact ⟨(wrap64 (x3_1 + 1)), cA, H', ⟨by have := HK1.out; omega⟩, by repeat (first | exact Drawn0.refl _ | apply Drawn0.step)⟩
  rw [if_neg c6] at H
  have c6b0 := dF c6
  clear c6
  by_cases c7 : (bt a0 x3_1) ≥ 65
  rotate_left
  ·rw [if_neg c7] at H
   have c7b0 := dF c7
   clear c7
   replace H := bi H
   obtain ⟨t684, A140, H⟩ := H
   try dsimp only at H
   have A14 := Aside0.mk A140
   clear A140
   by_cases c15 : t684 = true
   ·subst c15
    replace H : (newelref05_Id.l0 k1 a0 (wrap64 (x3_1 + 1))) = some r := by rw [if_pos rfl] at H; exact H
    have H' := Aside0.mk H
    clear H
    have p4 : 0 ≤ (x3_1 : Int) := dA
    have q4 : x3_1 < (a0.size : Int) := dA
    have hx4 := bt_at a0 x3_1
    replace p4 := eq_true p4
    replace q4 := eq_true q4
    go_wp2_with (first | (go_at_call 78; (with_reducible refine (newelref01_Digit.calls (bt a0 x3_1) true _ ?side1 A14.out).mono ?_); (case side1 => exact Glob.drawn HG.out (by repeat (first | exact Drawn0.refl _ | apply Drawn0.step))); rintro e w' ⟨rfl, ⟨nd, rfl⟩⟩))
    go_roundg k1
    case measure => have := HK1.out; omega
    case rel => exact ⟨(wrap64 (x3_1 + 1)), cA, H', ⟨by have := HK1.out; omega⟩, by repeat (first | exact Drawn0.refl _ | apply Drawn0.step)⟩
   replace c15 := Bool.eq_false_iff.mpr c15
   subst c15
   replace H : (if (bt a0 x3_1) = 95 then (newelref05_Id.l0 k1 a0 (wrap64 (x3_1 + 1))) else (if (bt a0 x3_1) = 45 then (newelref05_Id.l0 k1 a0 (wrap64 (x3_1 + 1))) else (if ((bt a0 x3_1) = 46) then (newelref05_Id.l0 k1 a0 (wrap64 (x3_1 + 1))) else (some false)))) = some r := by rw [if_neg nF] at H; exact H
   by_cases c16 : (bt a0 x3_1) = 95
   ·rw [if_pos c16] at H
    obtain ⟨c16b0, c16b1⟩ := eqT c16
    clear c16
    have H' := Aside0.mk H
    clear H
    have p4 : 0 ≤ (x3_1 : Int) := dA
    have q4 : x3_1 < (a0.size : Int) := dA
    have hx4 := bt_at a0 x3_1
    replace p4 := eq_true p4
    replace q4 := eq_true q4
    go_wp2_with (first | (go_at_call 78; (with_reducible refine (newelref01_Digit.calls (bt a0 x3_1) false _ ?side1 A14.out).mono ?_); (case side1 => exact Glob.drawn HG.out (by repeat (first | exact Drawn0.refl _ | apply Drawn0.step))); rintro e w' ⟨rfl, ⟨nd, rfl⟩⟩))
    go_roundg k1
    case measure => have := HK1.out; omega
    case rel => exact ⟨(wrap64 (x3_1 + 1)), cA, H', ⟨by have := HK1.out; omega⟩, by repeat (first | exact Drawn0.refl _ | apply Drawn0.step)⟩
   rw [if_neg c16] at H
   obtain ⟨c16b0, c16b1⟩ := eqF c16
   by_cases c17 : (bt a0 x3_1) = 45
   ·rw [if_pos c17] at H
    obtain ⟨c17b0, c17b1⟩ := eqT c17
    clear c17
    have H' := Aside0.mk H
    clear H
    have p4 : 0 ≤ (x3_1 : Int) := dA
    have q4 : x3_1 < (a0.size : Int) := dA
    have hx4 := bt_at a0 x3_1
    replace p4 := eq_true p4
    replace q4 := eq_true q4
    go_wp2_with (first | (go_at_call 78; (with_reducible refine (newelref01_Digit.calls (bt a0 x3_1) false _ ?side1 A14.out).mono ?_); (case side1 => exact Glob.drawn HG.out (by repeat (first | exact Drawn0.refl _ | apply Drawn0.step))); rintro e w' ⟨rfl, ⟨nd, rfl⟩⟩))
    go_roundg k1
    case measure => have := HK1.out; omega
    case rel => exact ⟨(wrap64 (x3_1 + 1)), cA, H', ⟨by have := HK1.out; omega⟩, by repeat (first | exact Drawn0.refl _ | apply Drawn0.step)⟩
   rw [if_neg c17] at H
   obtain ⟨c17b0, c17b1⟩ := eqF c17
   by_cases c18 : ((bt a0 x3_1) = 46)
   rotate_left
   ·rw [if_neg c18] at H
    obtain ⟨c18b0, c18b1⟩ := eqF c18
    obtain rfl := Option.some.inj H
    have p4 : 0 ≤ (x3_1 : Int) := dA
    have q4 : x3_1 < (a0.size : Int) := dA
    have hx4 := bt_at a0 x3_1
    replace p4 := eq_true p4
    replace q4 := eq_true q4
    go_wp2_with (first | (go_at_call 78; (with_reducible refine (newelref01_Digit.calls (bt a0 x3_1) false _ ?side1 A14.out).mono ?_); (case side1 => exact Glob.drawn HG.out (by repeat (first | exact Drawn0.refl _ | apply Drawn0.step))); rintro e w' ⟨rfl, ⟨nd, rfl⟩⟩))
    go_ret
    exact ⟨by first | rfl | (simp; done) | (simp [*]; done), by repeat (first | exact Drawn0.refl _ | apply Drawn0.step)⟩
   rw [if_pos c18] at H
   obtain ⟨c18b0, c18b1⟩ := eqT c18
   clear c18
   have H' := Aside0.mk H
   clear H
   have p4 : 0 ≤ (x3_1 : Int) := dA
   have q4 : x3_1 < (a0.size : Int) := dA
   have hx4 := bt_at a0 x3_1
   replace p4 := eq_true p4
   replace q4 := eq_true q4
   go_wp2_with (first | (go_at_call 78; (with_reducible refine (newelref01_Digit.calls (bt a0 x3_1) false _ ?side1 A14.out).mono ?_); (case side1 => exact Glob.drawn HG.out (by repeat (first | exact Drawn0.refl _ | apply Drawn0.step))); rintro e w' ⟨rfl, ⟨nd, rfl⟩⟩))
   go_roundg k1
   case measure => have := HK1.out; omega
   case rel => exact ⟨(wrap64 (x3_1 + 1)), cA, H', ⟨by have := HK1.out; omega⟩, by repeat (first | exact Drawn0.refl _ | apply Drawn0.step)⟩
  rw [if_pos c7] at H
  have c7b0 := dT c7
  clear c7
  by_cases c8 : (bt a0 x3_1) ≤ 90
  ·rw [if_pos c8] at H
   have c8b0 := dT c8
   clear c8
   have H' := Aside0.mk H
   clear H
   have p4 : 0 ≤ (x3_1 : Int) := dA
   have q4 : x3_1 < (a0.size : Int) := dA
   have hx4 := bt_at a0 x3_1
   replace p4 := eq_true p4
   replace q4 := eq_true q4
   go_wp2
   go_roundg k1
   case measure => have := HK1.out; omega
   case rel => exact ⟨(wrap64 (x3_1 + 1)), cA, H', ⟨by have := HK1.out; omega⟩, by repeat (first | exact Drawn0.refl _ | apply Drawn0.step)⟩
  rw [if_neg c8] at H
  have c8b0 := dF c8
  clear c8
  replace H := bi H
  obtain ⟨t683, A90, H⟩ := H
  try dsimp only at H
  have A9 := Aside0.mk A90
  clear A90
  by_cases c10 : t683 = true
  ·subst c10
   replace H : (newelref05_Id.l0 k1 a0 (wrap64 (x3_1 + 1))) = some r := by rw [if_pos rfl] at H; exact H
   have H' := Aside0.mk H
   clear H
   have p4 : 0 ≤ (x3_1 : Int) := dA
   have q4 : x3_1 < (a0.size : Int) := dA
   have hx4 := bt_at a0 x3_1
   replace p4 := eq_true p4
   replace q4 := eq_true q4
   go_wp2_with (first | (go_at_call 78; (with_reducible refine (newelref01_Digit.calls (bt a0 x3_1) true _ ?side1 A9.out).mono ?_); (case side1 => exact Glob.drawn HG.out (by repeat (first | exact Drawn0.refl _ | apply Drawn0.step))); rintro e w' ⟨rfl, ⟨nd, rfl⟩⟩))
   go_roundg k1
   case measure => have := HK1.out; omega
   case rel => exact ⟨(wrap64 (x3_1 + 1)), cA, H', ⟨by have := HK1.out; omega⟩, by repeat (first | exact Drawn0.refl _ | apply Drawn0.step)⟩
  replace c10 := Bool.eq_false_iff.mpr c10
  subst c10
  replace H : (if (bt a0 x3_1) = 95 then (newelref05_Id.l0 k1 a0 (wrap64 (x3_1 + 1))) else (if (bt a0 x3_1) = 45 then (newelref05_Id.l0 k1 a0 (wrap64 (x3_1 + 1))) else (if ((bt a0 x3_1) = 46) then (newelref05_Id.l0 k1 a0 (wrap64 (x3_1 + 1))) else (some false)))) = some r := by rw [if_neg nF] at H; exact H
  by_cases c11 : (bt a0 x3_1) = 95
  ·rw [if_pos c11] at H
   obtain ⟨c11b0, c11b1⟩ := eqT c11
   clear c11
   have H' := Aside0.mk H
   clear H
   have p4 : 0 ≤ (x3_1 : Int) := dA
   have q4 : x3_1 < (a0.size : Int) := dA
   have hx4 := bt_at a0 x3_1
   replace p4 := eq_true p4
   replace q4 := eq_true q4
   go_wp2_with (first | (go_at_call 78; (with_reducible refine (newelref01_Digit.calls (bt a0 x3_1) false _ ?side1 A9.out).mono ?_); (case side1 => exact Glob.drawn HG.out (by repeat (first | exact Drawn0.refl _ | apply Drawn0.step))); rintro e w' ⟨rfl, ⟨nd, rfl⟩⟩))
   go_roundg k1
   case measure => have := HK1.out; omega
   case rel => exact ⟨(wrap64 (x3_1 + 1)), cA, H', ⟨by have := HK1.out; omega⟩, by repeat (first | exact Drawn0.refl _ | apply Drawn0.step)⟩
  rw [if_neg c11] at H
  obtain ⟨c11b0, c11b1⟩ := eqF c11
  by_cases c12 : (bt a0 x3_1) = 45
  ·rw [if_pos c12] at H
   obtain ⟨c12b0, c12b1⟩ := eqT c12
   clear c12
   have H' := Aside0.mk H
   clear H
   have p4 : 0 ≤ (x3_1 : Int) := dA
   have q4 : x3_1 < (a0.size : Int) := dA
   have hx4 := bt_at a0 x3_1
   replace p4 := eq_true p4
   replace q4 := eq_true q4
   go_wp2_with (first | (go_at_call 78; (with_reducible refine (newelref01_Digit.calls (bt a0 x3_1) false _ ?side1 A9.out).mono ?_); (case side1 => exact Glob.drawn HG.out (by repeat (first | exact Drawn0.refl _ | apply Drawn0.step))); rintro e w' ⟨rfl, ⟨nd, rfl⟩⟩))
   go_roundg k1
   case measure => have := HK1.out; omega
   case rel => exact ⟨(wrap64 (x3_1 + 1)), cA, H', ⟨by have := HK1.out; omega⟩, by repeat (first | exact Drawn0.refl _ | apply Drawn0.step)⟩
  rw [if_neg c12] at H
  obtain ⟨c12b0, c12b1⟩ := eqF c12
  by_cases c13 : ((bt a0 x3_1) = 46)
  rotate_left
  ·rw [if_neg c13] at H
   obtain ⟨c13b0, c13b1⟩ := eqF c13
   obtain rfl := Option.some.inj H
   have p4 : 0 ≤ (x3_1 : Int) := dA
   have q4 : x3_1 < (a0.size : Int) := dA
   have hx4 := bt_at a0 x3_1
   replace p4 := eq_true p4
   replace q4 := eq_true q4
   go_wp2_with (first | (go_at_call 78; (with_reducible refine (newelref01_Digit.calls (bt a0 x3_1) false _ ?side1 A9.out).mono ?_); (case side1 => exact Glob.drawn HG.out (by repeat (first | exact Drawn0.refl _ | apply Drawn0.step))); rintro e w' ⟨rfl, ⟨nd, rfl⟩⟩))
   go_ret
   exact ⟨by first | rfl | (simp; done) | (simp [*]; done), by repeat (first | exact Drawn0.refl _ | apply Drawn0.step)⟩
  rw [if_pos c13] at H
  obtain ⟨c13b0, c13b1⟩ := eqT c13
  clear c13
  have H' := Aside0.mk H
  clear H
  have p4 : 0 ≤ (x3_1 : Int) := dA
  have q4 : x3_1 < (a0.size : Int) := dA
  have hx4 := bt_at a0 x3_1
  replace p4 := eq_true p4
  replace q4 := eq_true q4
  go_wp2_with (first | (go_at_call 78; (with_reducible refine (newelref01_Digit.calls (bt a0 x3_1) false _ ?side1 A9.out).mono ?_); (case side1 => exact Glob.drawn HG.out (by repeat (first | exact Drawn0.refl _ | apply Drawn0.step))); rintro e w' ⟨rfl, ⟨nd, rfl⟩⟩))
  go_roundg k1
  case measure => have := HK1.out; omega
  case rel => exact ⟨(wrap64 (x3_1 + 1)), cA, H', ⟨by have := HK1.out; omega⟩, by repeat (first | exact Drawn0.refl _ | apply Drawn0.step)⟩
def newelref05_colon.l0 : Nat → ByteArray → Int → Option (Bool)
 | 0, _, _ => none
 | k + 1, x0, x3 => if x3 < (x0.size : Int) then (if 0 ≤ x3 then (if (bt x0 x3) = 58 then (some true) else (newelref05_colon.l0 k x0 (wrap64 (x3 + 1)))) else (none)) else (some false)
def newelref05_colon.f (k : Nat) (a0 : ByteArray) : Option (Bool) := newelref05_colon.l0 k a0 0
theorem newelref05_colon.calls (k : Nat) (a0 : ByteArray) (r : Bool) (w : World) (hG : Glob w) (h : newelref05_colon.f k a0 = some r) :
 Calls Tryd.prog 111 #[.string a0] w fun e w' => e = .returned (.bool r) ∧ Drawn0 w w' := by
 have HG := Aside0.mk hG
 clear hG
 have H : (newelref05_colon.l0 k a0 0) = some r := h
 clear h
 have H' := Aside0.mk H
 clear H
 go_enter Tryd.func111, Tryd.ntmps111
 go_wp2
 go_loopg [3] k (fun kq v3 w' => ∃ (x3_1 : Int), v3 = .int .i64 x3_1 ∧ Aside0 (newelref05_colon.l0 kq a0 x3_1 = some r) ∧ Aside0 (kq ≤ k) ∧ Drawn0 w w')
 case atStart => exact ⟨(0), cA, H', ⟨Nat.le_refl _⟩, by repeat (first | exact Drawn0.refl _ | apply Drawn0.step)⟩
 clear H'
 try clear c1
 obtain ⟨x3_1, rfl, HA, HK1, ⟨m1, rfl⟩⟩ := hrel
 cases gk with
 | zero => exact absurd HA.out (by simp [newelref05_colon.l0])
 | succ k1 =>
  have H := HA.out
  clear HA
  simp only [newelref05_colon.l0] at H
  by_cases c2 : x3_1 < (a0.size : Int)
  rotate_left
  ·rw [if_neg c2] at H
   have c2b0 := dF c2
   clear c2
   obtain rfl := Option.some.inj H
   go_wp2
   go_ret
   exact ⟨by first | rfl | (simp; done) | (simp [*]; done), by repeat (first | exact Drawn0.refl _ | apply Drawn0.step)⟩
  rw [if_pos c2] at H
  have c2b0 := dT c2
  clear c2
  obtain ⟨c3, H⟩ := gp H
  have c3b0 := dT c3
  clear c3
  by_cases c5 : (bt a0 x3_1) = 58
  ·rw [if_pos c5] at H
   obtain ⟨c5b0, c5b1⟩ := eqT c5
   clear c5
   obtain rfl := Option.some.inj H
   have p4 : 0 ≤ (x3_1 : Int) := dA
   have q4 : x3_1 < (a0.size : Int) := dA
   have hx4 := bt_at a0 x3_1
   replace p4 := eq_true p4
   replace q4 := eq_true q4
   go_wp2
   go_ret
   exact ⟨by first | rfl | (simp; done) | (simp [*]; done), by repeat (first | exact Drawn0.refl _ | apply Drawn0.step)⟩
  rw [if_neg c5] at H
  obtain ⟨c5b0, c5b1⟩ := eqF c5
  have H' := Aside0.mk H
  clear H
  have p4 : 0 ≤ (x3_1 : Int) := dA
  have q4 : x3_1 < (a0.size : Int) := dA
  have hx4 := bt_at a0 x3_1
  replace p4 := eq_true p4
  replace q4 := eq_true q4
  go_wp2
  go_roundg k1
  case measure => have := HK1.out; omega
  case rel => exact ⟨(wrap64 (x3_1 + 1)), cA, H', ⟨by have := HK1.out; omega⟩, by repeat (first | exact Drawn0.refl _ | apply Drawn0.step)⟩
def newelref05_Right.l0 : Nat → ByteArray → Int → Option (Bool)
 | 0, _, _ => none
 | k + 1, x0, x3 => if x3 < (x0.size : Int) then (if 0 ≤ x3 then (if (bt x0 x3) < 33 then (some false) else (if (bt x0 x3) > 126 then (some false) else (if (bt x0 x3) = 91 then (some false) else (if (bt x0 x3) = 93 then (some false) else (if (bt x0 x3) = 40 then (some false) else (if (bt x0 x3) = 41 then (some false) else (if (bt x0 x3) = 44 then (some false) else (newelref05_Right.l0 k x0 (wrap64 (x3 + 1)))))))))) else (none)) else (if (x0.size : Int) ≥ 1 then (some (decide ((x0.size : Int) ≤ 100))) else (some false))
def newelref05_Right.f (k : Nat) (a0 : ByteArray) : Option (Bool) := newelref05_Right.l0 k a0 0
theorem newelref05_Right.calls (k : Nat) (a0 : ByteArray) (r : Bool) (w : World) (hG : Glob w) (h : newelref05_Right.f k a0 = some r) :
 Calls Tryd.prog 29 #[.string a0] w fun e w' => e = .returned (.bool r) ∧ Drawn0 w w' := by
 have HG := Aside0.mk hG
 clear hG
 have H : (newelref05_Right.l0 k a0 0) = some r := h
 clear h
 have H' := Aside0.mk H
 clear H
 go_enter Tryd.func29, Tryd.ntmps29
 go_wp2
 go_loopg [3] k (fun kq v3 w' => ∃ (x3_1 : Int), v3 = .int .i64 x3_1 ∧ Aside0 (newelref05_Right.l0 kq a0 x3_1 = some r) ∧ Aside0 (kq ≤ k) ∧ Drawn0 w w')
 case atStart => exact ⟨(0), cA, H', ⟨Nat.le_refl _⟩, by repeat (first | exact Drawn0.refl _ | apply Drawn0.step)⟩
 clear H'
 obtain ⟨x3_1, rfl, HA, HK1, ⟨m1, rfl⟩⟩ := hrel
 cases gk with
 | zero => exact absurd HA.out (by simp [newelref05_Right.l0])
 | succ k1 =>
  have H := HA.out
  clear HA
  simp only [newelref05_Right.l0] at H
  by_cases c2 : x3_1 < (a0.size : Int)
  rotate_left
  ·rw [if_neg c2] at H
   have c2b0 := dF c2
   clear c2
   by_cases c12 : (a0.size : Int) ≥ 1
   rotate_left
   ·rw [if_neg c12] at H
    have c12b0 := dF c12
    have c12b1 : decide (1 ≤ a0.size) = false := decide_eq_false (by omega)
    clear c12
    obtain rfl := Option.some.inj H
    go_wp2
    go_ret
    exact ⟨by first | rfl | (simp; done) | (simp [*]; done), by repeat (first | exact Drawn0.refl _ | apply Drawn0.step)⟩
   rw [if_pos c12] at H
   have c12b0 := dT c12
   have c12b1 : decide (1 ≤ a0.size) = true := decide_eq_true (by omega)
   clear c12
   obtain rfl := Option.some.inj H
   go_wp2
   go_ret
   exact ⟨by first | rfl | (simp; done) | (simp [*]; done), by repeat (first | exact Drawn0.refl _ | apply Drawn0.step)⟩
  rw [if_pos c2] at H
  have c2b0 := dT c2
  clear c2
  obtain ⟨c3, H⟩ := gp H
  have c3b0 := dT c3
  clear c3
  by_cases c5 : (bt a0 x3_1) < 33
  ·rw [if_pos c5] at H
   have c5b0 := dT c5
   clear c5
   obtain rfl := Option.some.inj H
   have p4 : 0 ≤ (x3_1 : Int) := dA
   have q4 : x3_1 < (a0.size : Int) := dA
   have hx4 := bt_at a0 x3_1
   replace p4 := eq_true p4
   replace q4 := eq_true q4
   go_wp2
   go_ret
   exact ⟨by first | rfl | (simp; done) | (simp [*]; done), by repeat (first | exact Drawn0.refl _ | apply Drawn0.step)⟩
  rw [if_neg c5] at H
  have c5b0 := dF c5
  clear c5
  by_cases c6 : (bt a0 x3_1) > 126
  ·rw [if_pos c6] at H
   have c6b0 := dT c6
   clear c6
   obtain rfl := Option.some.inj H
   have p4 : 0 ≤ (x3_1 : Int) := dA
   have q4 : x3_1 < (a0.size : Int) := dA
   have hx4 := bt_at a0 x3_1
   replace p4 := eq_true p4
   replace q4 := eq_true q4
   go_wp2
   go_ret
   exact ⟨by first | rfl | (simp; done) | (simp [*]; done), by repeat (first | exact Drawn0.refl _ | apply Drawn0.step)⟩
  rw [if_neg c6] at H
  have c6b0 := dF c6
  clear c6
  by_cases c7 : (bt a0 x3_1) = 91
  ·rw [if_pos c7] at H
   obtain ⟨c7b0, c7b1⟩ := eqT c7
   clear c7
   obtain rfl := Option.some.inj H
   have p4 : 0 ≤ (x3_1 : Int) := dA
   have q4 : x3_1 < (a0.size : Int) := dA
   have hx4 := bt_at a0 x3_1
   replace p4 := eq_true p4
   replace q4 := eq_true q4
   go_wp2
   go_ret
   exact ⟨by first | rfl | (simp; done) | (simp [*]; done), by repeat (first | exact Drawn0.refl _ | apply Drawn0.step)⟩
  rw [if_neg c7] at H
  obtain ⟨c7b0, c7b1⟩ := eqF c7
  by_cases c8 : (bt a0 x3_1) = 93
  ·rw [if_pos c8] at H
   obtain ⟨c8b0, c8b1⟩ := eqT c8
   clear c8
   obtain rfl := Option.some.inj H
   have p4 : 0 ≤ (x3_1 : Int) := dA
   have q4 : x3_1 < (a0.size : Int) := dA
   have hx4 := bt_at a0 x3_1
   replace p4 := eq_true p4
   replace q4 := eq_true q4
   go_wp2
   go_ret
   exact ⟨by first | rfl | (simp; done) | (simp [*]; done), by repeat (first | exact Drawn0.refl _ | apply Drawn0.step)⟩
  rw [if_neg c8] at H
  obtain ⟨c8b0, c8b1⟩ := eqF c8
  by_cases c9 : (bt a0 x3_1) = 40
  ·rw [if_pos c9] at H
   obtain ⟨c9b0, c9b1⟩ := eqT c9
   clear c9
   obtain rfl := Option.some.inj H
   have p4 : 0 ≤ (x3_1 : Int) := dA
   have q4 : x3_1 < (a0.size : Int) := dA
   have hx4 := bt_at a0 x3_1
   replace p4 := eq_true p4
   replace q4 := eq_true q4
   go_wp2
   go_ret
   exact ⟨by first | rfl | (simp; done) | (simp [*]; done), by repeat (first | exact Drawn0.refl _ | apply Drawn0.step)⟩
  rw [if_neg c9] at H
  obtain ⟨c9b0, c9b1⟩ := eqF c9
  by_cases c10 : (bt a0 x3_1) = 41
  ·rw [if_pos c10] at H
   obtain ⟨c10b0, c10b1⟩ := eqT c10
   clear c10
   obtain rfl := Option.some.inj H
   have p4 : 0 ≤ (x3_1 : Int) := dA
   have q4 : x3_1 < (a0.size : Int) := dA
   have hx4 := bt_at a0 x3_1
   replace p4 := eq_true p4
   replace q4 := eq_true q4
   go_wp2
   go_ret
   exact ⟨by first | rfl | (simp; done) | (simp [*]; done), by repeat (first | exact Drawn0.refl _ | apply Drawn0.step)⟩
  rw [if_neg c10] at H
  obtain ⟨c10b0, c10b1⟩ := eqF c10
  by_cases c11 : (bt a0 x3_1) = 44
  ·rw [if_pos c11] at H
   obtain ⟨c11b0, c11b1⟩ := eqT c11
   clear c11
   obtain rfl := Option.some.inj H
   have p4 : 0 ≤ (x3_1 : Int) := dA
   have q4 : x3_1 < (a0.size : Int) := dA
   have hx4 := bt_at a0 x3_1
   replace p4 := eq_true p4
   replace q4 := eq_true q4
   go_wp2
   go_ret
   exact ⟨by first | rfl | (simp; done) | (simp [*]; done), by repeat (first | exact Drawn0.refl _ | apply Drawn0.step)⟩
  rw [if_neg c11] at H
  obtain ⟨c11b0, c11b1⟩ := eqF c11
  have H' := Aside0.mk H
  clear H
  have p4 : 0 ≤ (x3_1 : Int) := dA
  have q4 : x3_1 < (a0.size : Int) := dA
  have hx4 := bt_at a0 x3_1
  replace p4 := eq_true p4
  replace q4 := eq_true q4
  go_wp2
  go_roundg k1
  case measure => have := HK1.out; omega
  case rel => exact ⟨(wrap64 (x3_1 + 1)), cA, H', ⟨by have := HK1.out; omega⟩, by repeat (first | exact Drawn0.refl _ | apply Drawn0.step)⟩
def newelref05_Plain.f (k : Nat) (a0 : ByteArray) : Option (Bool) := (newelref05_Right.f k a0).bind fun t687 => (if t687 = true then ((newelref05_colon.f k a0).bind fun t688 => (some (!t688))) else (some false))
theorem newelref05_Plain.calls (k : Nat) (a0 : ByteArray) (r : Bool) (w : World) (hG : Glob w) (h : newelref05_Plain.f k a0 = some r) :
 Calls Tryd.prog 80 #[.string a0] w fun e w' => e = .returned (.bool r) ∧ Drawn0 w w' := by
 have HG := Aside0.mk hG
 clear hG
 have H : ((newelref05_Right.f k a0).bind fun t687 => (if t687 = true then ((newelref05_colon.f k a0).bind fun t688 => (some (!t688))) else (some false))) = some r := h
 clear h
 replace H := bi H
 obtain ⟨t687, A20, H⟩ := H
 try dsimp only at H
 have A2 := Aside0.mk A20
 clear A20
 by_cases c3 : t687 = true
 rotate_left
 ·replace c3 := Bool.eq_false_iff.mpr c3
  subst c3
  replace H : (some false) = some r := by rw [if_neg nF] at H; exact H
  obtain rfl := Option.some.inj H
  go_enter Tryd.func80, Tryd.ntmps80
  go_wp2_with (first | (refine gl (some 4) Tryd.func29 #[.string a0] ?_; (with_reducible refine (newelref05_Right.calls k a0 false _ ?side1 A2.out).mono ?_); (case side1 => exact Glob.drawn HG.out (by repeat (first | exact Drawn0.refl _ | apply Drawn0.step))); rintro e w' ⟨rfl, ⟨nd, rfl⟩⟩; refine ⟨_, rfl, ?_⟩))
  go_ret
  exact ⟨by first | rfl | (simp; done) | (simp [*]; done), by repeat (first | exact Drawn0.refl _ | apply Drawn0.step)⟩
 subst c3
 replace H : ((newelref05_colon.f k a0).bind fun t688 => (some (!t688))) = some r := by rw [if_pos rfl] at H; exact H
 replace H := bi H
 obtain ⟨t688, A40, H⟩ := H
 try dsimp only at H
 have A4 := Aside0.mk A40
 clear A40
 obtain rfl := Option.some.inj H
 go_enter Tryd.func80, Tryd.ntmps80
 go_wp2_with (first | (refine gl (some 4) Tryd.func29 #[.string a0] ?_; (with_reducible refine (newelref05_Right.calls k a0 true _ ?side1 A2.out).mono ?_); (case side1 => exact Glob.drawn HG.out (by repeat (first | exact Drawn0.refl _ | apply Drawn0.step))); rintro e w' ⟨rfl, ⟨nd, rfl⟩⟩; refine ⟨_, rfl, ?_⟩) | (go_at_call 111; (with_reducible refine (newelref05_colon.calls k a0 t688 _ ?side1 A4.out).mono ?_); (case side1 => exact Glob.drawn HG.out (by repeat (first | exact Drawn0.refl _ | apply Drawn0.step))); rintro e w' ⟨rfl, ⟨nd, rfl⟩⟩))
 go_ret
 exact ⟨by first | rfl | (simp; done) | (simp [*]; done), by repeat (first | exact Drawn0.refl _ | apply Drawn0.step)⟩
def newelref05_Coord.f (k : Nat) (a0_0 : ByteArray) (a0_1 : ByteArray) (a0_2 : ByteArray) : Option (Bool) := (newelref05_Id.f k a0_0).bind fun t690 => (if t690 = true then ((newelref05_Id.f k a0_1).bind fun t691 => (if t691 = true then ((newelref05_Plain.f k a0_2).bind fun t692 => (some t692)) else (some false))) else (some false))
theorem newelref05_Coord.calls (k : Nat) (a0_0 : ByteArray) (a0_1 : ByteArray) (a0_2 : ByteArray) (r : Bool) (w : World) (hG : Glob w) (h : newelref05_Coord.f k a0_0 a0_1 a0_2 = some r) :
 Calls Tryd.prog 37 #[.agg #[.string a0_0, .string a0_1, .string a0_2]] w fun e w' => e = .returned (.bool r) ∧ Below w.heap.size w w' := by
 have hu32 := Tryd.underlying32
 have HG := Aside0.mk hG
 clear hG
 have HB := Aside0.mk (Below.refl w.heap.size w)
 have H : ((newelref05_Id.f k a0_0).bind fun t690 => (if t690 = true then ((newelref05_Id.f k a0_1).bind fun t691 => (if t691 = true then ((newelref05_Plain.f k a0_2).bind fun t692 => (some t692)) else (some false))) else (some false))) = some r := h
 clear h
 replace H := bi H
 obtain ⟨t690, A20, H⟩ := H
 try dsimp only at H
 have A2 := Aside0.mk A20
 clear A20
 by_cases c3 : t690 = true
 rotate_left
 ·replace c3 := Bool.eq_false_iff.mpr c3
  subst c3
  replace H : (some false) = some r := by rw [if_neg nF] at H; exact H
  obtain rfl := Option.some.inj H
  go_enter Tryd.func37, Tryd.ntmps37
  go_wp2_with (first | (refine be 1 #[.string a0_0, .string a0_1, .string a0_2] 32 ?_; intro gb689 hg w11 hbox hb; have BK689 := Aside0.mk (hbox); have GW689 := gW hg; have GE689 := gW hg; replace HB := sB hb; clear hb hbox hg; have hcz12_0 : w11.cell? ⟨gb689, 0, none⟩ = some (.string a0_0) := (blk_cell BK689.out 0).trans rfl; have hcz12_1 : w11.cell? ⟨gb689, 1, none⟩ = some (.string a0_1) := (blk_cell BK689.out 1).trans rfl; have hcz12_2 : w11.cell? ⟨gb689, 2, none⟩ = some (.string a0_2) := (blk_cell BK689.out 2).trans rfl; have hfz12_0 := blk_frozen BK689.out 0; have hfz12_1 := blk_frozen BK689.out 1; have hfz12_2 := blk_frozen BK689.out 2) | (refine gl (some 5) Tryd.func35 #[.string a0_0] ?_; (with_reducible refine (newelref05_Id.calls k a0_0 false _ (gS HG) A2.out).mono ?_); rintro e w' ⟨rfl, ⟨nd, rfl⟩⟩; refine ⟨_, rfl, ?_⟩))
  go_ret
  exact ⟨eA, bG⟩
 subst c3
 replace H : ((newelref05_Id.f k a0_1).bind fun t691 => (if t691 = true then ((newelref05_Plain.f k a0_2).bind fun t692 => (some t692)) else (some false))) = some r := by rw [if_pos rfl] at H; exact H
 replace H := bi H
 obtain ⟨t691, A40, H⟩ := H
 try dsimp only at H
 have A4 := Aside0.mk A40
 clear A40
 by_cases c5 : t691 = true
 rotate_left
 ·replace c5 := Bool.eq_false_iff.mpr c5
  subst c5
  replace H : (some false) = some r := by rw [if_neg nF] at H; exact H
  obtain rfl := Option.some.inj H
  go_enter Tryd.func37, Tryd.ntmps37
  go_wp2_with (first | (refine be 1 #[.string a0_0, .string a0_1, .string a0_2] 32 ?_; intro gb689 hg w9 hbox hb; have BK689 := Aside0.mk (hbox); have GW689 := gW hg; have GE689 := gW hg; replace HB := sB hb; clear hb hbox hg; have hcz10_0 : w9.cell? ⟨gb689, 0, none⟩ = some (.string a0_0) := (blk_cell BK689.out 0).trans rfl; have hcz10_1 : w9.cell? ⟨gb689, 1, none⟩ = some (.string a0_1) := (blk_cell BK689.out 1).trans rfl; have hcz10_2 : w9.cell? ⟨gb689, 2, none⟩ = some (.string a0_2) := (blk_cell BK689.out 2).trans rfl; have hfz10_0 := blk_frozen BK689.out 0; have hfz10_1 := blk_frozen BK689.out 1; have hfz10_2 := blk_frozen BK689.out 2) | (refine gl (some 5) Tryd.func35 #[.string a0_0] ?_; (with_reducible refine (newelref05_Id.calls k a0_0 true _ (gS HG) A2.out).mono ?_); rintro e w' ⟨rfl, ⟨nd, rfl⟩⟩; refine ⟨_, rfl, ?_⟩) | (go_at_call 35; (with_reducible refine (newelref05_Id.calls k a0_1 false _ (gS HG) A4.out).mono ?_); rintro e w' ⟨rfl, ⟨nd, rfl⟩⟩))
  go_ret
  exact ⟨eA, bG⟩
 subst c5
 replace H : ((newelref05_Plain.f k a0_2).bind fun t692 => (some t692)) = some r := by rw [if_pos rfl] at H; exact H
 replace H := bi H
 obtain ⟨t692, A60, H⟩ := H
 try dsimp only at H
 have A6 := Aside0.mk A60
 clear A60
 obtain rfl := Option.some.inj H
 go_enter Tryd.func37, Tryd.ntmps37
 go_wp2_with (first | (refine be 1 #[.string a0_0, .string a0_1, .string a0_2] 32 ?_; intro gb689 hg w7 hbox hb; have BK689 := Aside0.mk (hbox); have GW689 := gW hg; have GE689 := gW hg; replace HB := sB hb; clear hb hbox hg; have hcz8_0 : w7.cell? ⟨gb689, 0, none⟩ = some (.string a0_0) := (blk_cell BK689.out 0).trans rfl; have hcz8_1 : w7.cell? ⟨gb689, 1, none⟩ = some (.string a0_1) := (blk_cell BK689.out 1).trans rfl; have hcz8_2 : w7.cell? ⟨gb689, 2, none⟩ = some (.string a0_2) := (blk_cell BK689.out 2).trans rfl; have hfz8_0 := blk_frozen BK689.out 0; have hfz8_1 := blk_frozen BK689.out 1; have hfz8_2 := blk_frozen BK689.out 2) | (refine gl (some 5) Tryd.func35 #[.string a0_0] ?_; (with_reducible refine (newelref05_Id.calls k a0_0 true _ (gS HG) A2.out).mono ?_); rintro e w' ⟨rfl, ⟨nd, rfl⟩⟩; refine ⟨_, rfl, ?_⟩) | (go_at_call 35; (with_reducible refine (newelref05_Id.calls k a0_1 true _ (gS HG) A4.out).mono ?_); rintro e w' ⟨rfl, ⟨nd, rfl⟩⟩) | (go_at_call 80; (with_reducible refine (newelref05_Plain.calls k a0_2 t692 _ (gS HG) A6.out).mono ?_); rintro e w' ⟨rfl, ⟨nd, rfl⟩⟩))
 go_ret
 exact ⟨eA, bG⟩
def newelref05_CoordParse.l0 : Nat → ByteArray → Int → Int → ByteArray → ByteArray → ByteArray → Option (ByteArray × ByteArray × ByteArray × Bool)
 | 0, _, _, _, _, _, _ => none
 | n + 1, s, x, y, a, b, c =>
  if x < (s.size : Int) then
   if bt s x = 58 ∧ y < 2 then newelref05_CoordParse.l0 n s (wrap64 (x + 1)) (wrap64 (y + 1)) a b c
   else if y = 0 then newelref05_CoordParse.l0 n s (wrap64 (x + 1)) y (a ++ s.extract x.toNat (wrap64 (x + 1)).toNat) b c
   else if y = 1 then newelref05_CoordParse.l0 n s (wrap64 (x + 1)) y a (b ++ s.extract x.toNat (wrap64 (x + 1)).toNat) c
   else newelref05_CoordParse.l0 n s (wrap64 (x + 1)) y a b (c ++ s.extract x.toNat (wrap64 (x + 1)).toNat)
  else if y = 2 then (newelref05_Coord.f n a b c).bind fun t => if t = true then some (a, b, c, true) else some (⟨#[]⟩, ⟨#[]⟩, ⟨#[]⟩, false)
  else some (⟨#[]⟩, ⟨#[]⟩, ⟨#[]⟩, false)
def newelref05_CoordParse.f (k : Nat) (a0 : ByteArray) : Option (ByteArray × ByteArray × ByteArray × Bool) := if a0.size ≤ 140737488351232 then newelref05_CoordParse.l0 k a0 0 0 ⟨#[]⟩ ⟨#[]⟩ ⟨#[]⟩ else none
theorem cut1_size (s : ByteArray) (x : Int) (h0 : 0 ≤ x) (h : x < (s.size : Int)) (hs : s.size ≤ 140737488351232) : (s.extract x.toNat (wrap64 (x + 1)).toNat).size = 1 := by
 have hw : wrap64 (x + 1) = x + 1 := by unfold wrap64; omega
 rw [hw, ByteArray.size_extract]
 omega
theorem newelref05_CoordParse.calls (k : Nat) (s : ByteArray) (r1 r2 r3 : ByteArray) (r4 : Bool) (w : World) (hG : Glob w) (h : newelref05_CoordParse.f k s = some (r1, r2, r3, r4)) :
 Calls Tryd.prog 34 #[.string s] w fun e w' => e = .returned (.tuple #[.agg #[.string r1, .string r2, .string r3], .bool r4]) ∧ Below w.heap.size w w' := by
 have hu := Tryd.underlying32
 unfold newelref05_CoordParse.f at h
 by_cases hs : s.size ≤ 140737488351232
 rotate_left
 ·rw [if_neg hs] at h; cases h
 rw [if_pos hs] at h
 have H0 := Aside0.mk h
 have HG := Aside0.mk hG
 clear h hG
 go_enter Tryd.func34, Tryd.ntmps34
 go_wp2
 have hb0 : Below w.heap.size w ((w.alloc (.cells #[.string (⟨#[]⟩ : ByteArray), .string (⟨#[]⟩ : ByteArray), .string (⟨#[]⟩ : ByteArray)] 32)).alloc (.cells #[.string (⟨#[]⟩ : ByteArray), .string (⟨#[]⟩ : ByteArray), .string (⟨#[]⟩ : ByteArray)] 99)) := below_alloc (below_alloc (Below.refl _ _) _) _
 obtain ⟨w1, hw1⟩ : ∃ w1, w1 = w.alloc (.cells #[.string (⟨#[]⟩ : ByteArray), .string (⟨#[]⟩ : ByteArray), .string (⟨#[]⟩ : ByteArray)] 32) := ⟨_, rfl⟩
 have X1 : w1.heap[w.heap.size]? = some (.cells #[.string (⟨#[]⟩ : ByteArray), .string (⟨#[]⟩ : ByteArray), .string (⟨#[]⟩ : ByteArray)] 32 (0, 0)) := by rw [hw1]; exact heap_alloc_new w _
 have hs1 : w1.heap.size = w.heap.size + 1 := by rw [hw1]; exact Array.size_push _
 rw [← hw1] at hb0 ⊢
 clear hw1
 obtain ⟨w2, hw2⟩ : ∃ w2, w2 = w1.alloc (.cells #[.string (⟨#[]⟩ : ByteArray), .string (⟨#[]⟩ : ByteArray), .string (⟨#[]⟩ : ByteArray)] 99) := ⟨_, rfl⟩
 have X4 : w2.heap[w1.heap.size]? = some (.cells #[.string (⟨#[]⟩ : ByteArray), .string (⟨#[]⟩ : ByteArray), .string (⟨#[]⟩ : ByteArray)] 99 (0, 0)) := by rw [hw2]; exact heap_alloc_new w1 _
 have X2 : w2.heap[w.heap.size]? = some (.cells #[.string (⟨#[]⟩ : ByteArray), .string (⟨#[]⟩ : ByteArray), .string (⟨#[]⟩ : ByteArray)] 32 (0, 0)) := by rw [hw2]; exact blk_alloc X1 _
 rw [← hw2] at hb0 ⊢
 clear hw2 X1
 rw [hs1] at X4
 obtain ⟨g2, hg2⟩ : ∃ g2, g2 = w.heap.size := ⟨_, rfl⟩
 rw [← hg2] at X2 X4 ⊢
 obtain ⟨g4, hg4⟩ : ∃ g4, g4 = g2 + 1 := ⟨_, rfl⟩
 rw [← hg4] at X4 ⊢
 have HGE := Aside0.mk (show w.heap.size ≤ g2 ∧ w.heap.size ≤ g4 ∧ g4 ≠ g2 from by omega)
 have BK2 := Aside0.mk X2
 have BK4 := Aside0.mk X4
 have HB0 := Aside0.mk hb0
 have HS := Aside0.mk hs
 clear X2 X4 hb0 hg2 hg4 hs1 hs
 clear w1
 go_loopg [5, 6] k (fun kq v5 v6 w' => ∃ (x y : Int) (a b c : ByteArray), v5 = .int .i64 y ∧ v6 = .int .i64 x ∧ Aside0 (newelref05_CoordParse.l0 kq s x y a b c = some (r1, r2, r3, r4)) ∧ Aside0 (0 ≤ x ∧ (a.size : Int) + b.size + c.size ≤ x ∧ x ≤ (s.size : Int)) ∧ (y = 0 ∨ y = 1 ∨ y = 2) ∧ Aside0 (w'.heap[g4]? = some (.cells #[.string a, .string b, .string c] 99 (0, 0))) ∧ Aside0 (w'.heap[g2]? = some (.cells #[.string (⟨#[]⟩ : ByteArray), .string (⟨#[]⟩ : ByteArray), .string (⟨#[]⟩ : ByteArray)] 32 (0, 0))) ∧ Aside0 (Below w.heap.size w w'))
 case atStart => exact ⟨0, 0, ⟨#[]⟩, ⟨#[]⟩, ⟨#[]⟩, by first | rfl | (simp; done), by first | rfl | (simp; done), H0, ⟨by decide, by show (0 : Int) + 0 + 0 ≤ 0; decide, by omega⟩, .inl rfl, BK4, BK2, HB0⟩
 clear H0 BK2 BK4 HB0
 obtain ⟨x, y, a, b, c, rfl, rfl, HA, HX, hy, BK4, BK2, HB⟩ := hrel
 cases gk with
 | zero => exact absurd HA.out (by simp [newelref05_CoordParse.l0])
 | succ k1 =>
  have H := HA.out
  clear HA
  simp only [newelref05_CoordParse.l0] at H
  have hsz := HS.out
  obtain ⟨hx0, hxa, hxs⟩ := HX.out
  have c0 := (blk_cell BK4.out 0).trans rfl
  have c1 := (blk_cell BK4.out 1).trans rfl
  have c2 := (blk_cell BK4.out 2).trans rfl
  have f0 := blk_frozen BK4.out 0
  have f1 := blk_frozen BK4.out 1
  have f2 := blk_frozen BK4.out 2
  by_cases hlt : x < (s.size : Int)
  rotate_left
  ·rw [if_neg hlt] at H
   have d1 : decide (x < (s.size : Int)) = false := decide_eq_false hlt
   have hG1 : Glob w := HG.out
   by_cases hy2 : y = 2
   ·subst hy2
    rw [if_pos rfl] at H
    obtain ⟨t, ht, H⟩ := Option.bind_eq_some_iff.1 H
    have HT := Aside0.mk ht
    clear ht hlt hx0 hxa hxs hsz hG1 hy
    cases t with
    | true =>
     rw [if_pos rfl] at H
     simp only [Option.some.injEq, Prod.mk.injEq] at H
     obtain ⟨rfl, rfl, rfl, rfl⟩ := H
     go_wp2_with (first | (go_at_call 37; (with_reducible refine (newelref05_Coord.calls k1 a b c true _ (Glob.step HG.out (below_alloc HB.out _)) HT.out).mono ?_); rintro e w3 ⟨rfl, hd⟩; have ht7 : w3.heap[wr.heap.size]? = some (.cells #[.string a, .string b, .string c] 32 (0, 0)) := blk_below (heap_alloc_new wr _) hd; have z0 := (blk_cell ht7 0).trans rfl; have z1 := (blk_cell ht7 1).trans rfl; have z2 := (blk_cell ht7 2).trans rfl; have ht2 : w3.heap[g2]? = some (.cells #[.string (⟨#[]⟩ : ByteArray), .string (⟨#[]⟩ : ByteArray), .string (⟨#[]⟩ : ByteArray)] 32 (0, 0)) := blk_below (blk_alloc BK2.out _) hd; have y0 := (blk_cell ht2 0).trans rfl; have y1 := (blk_cell ht2 1).trans rfl; have y2 := (blk_cell ht2 2).trans rfl; have u0 := blk_frozen ht2 0; have u1 := blk_frozen ht2 1; have u2 := blk_frozen ht2 2; have HT2 := Aside0.mk ht2; have HB3 := Aside0.mk (below_step (below_alloc HB.out _) hd : Below w.heap.size w w3); clear hd ht7 ht2))
     refine bodyPost_ret (results_ct rfl _ _ g2 32 #[.string a, .string b, .string c] (0, 0) _ rfl (by refine blk_put (cs := #[.string a, .string b, .string (⟨#[]⟩ : ByteArray)]) ?_ 2 _ rfl; refine blk_put (cs := #[.string a, .string (⟨#[]⟩ : ByteArray), .string (⟨#[]⟩ : ByteArray)]) ?_ 1 _ rfl; refine blk_put (cs := #[.string (⟨#[]⟩ : ByteArray), .string (⟨#[]⟩ : ByteArray), .string (⟨#[]⟩ : ByteArray)]) ?_ 0 _ rfl; exact HT2.out) Tryd.underlying32 rfl (by kernel_rfl)) rfl ?_
     exact ⟨rfl, below_set (below_set (below_set HB3.out HGE.out.1) HGE.out.1) HGE.out.1⟩
    | false =>
     rw [if_neg (by decide)] at H
     simp only [Option.some.injEq, Prod.mk.injEq] at H
     obtain ⟨rfl, rfl, rfl, rfl⟩ := H
     go_wp2_with (first | (go_at_call 37; (with_reducible refine (newelref05_Coord.calls k1 a b c false _ (Glob.step HG.out (below_alloc HB.out _)) HT.out).mono ?_); rintro e w3 ⟨rfl, hd⟩; have ht7 : w3.heap[wr.heap.size]? = some (.cells #[.string a, .string b, .string c] 32 (0, 0)) := blk_below (heap_alloc_new wr _) hd; have z0 := (blk_cell ht7 0).trans rfl; have z1 := (blk_cell ht7 1).trans rfl; have z2 := (blk_cell ht7 2).trans rfl; have ht2 : w3.heap[g2]? = some (.cells #[.string (⟨#[]⟩ : ByteArray), .string (⟨#[]⟩ : ByteArray), .string (⟨#[]⟩ : ByteArray)] 32 (0, 0)) := blk_below (blk_alloc BK2.out _) hd; have y0 := (blk_cell ht2 0).trans rfl; have y1 := (blk_cell ht2 1).trans rfl; have y2 := (blk_cell ht2 2).trans rfl; have u0 := blk_frozen ht2 0; have u1 := blk_frozen ht2 1; have u2 := blk_frozen ht2 2; have HT2 := Aside0.mk ht2; have HB3 := Aside0.mk (below_step (below_alloc HB.out _) hd : Below w.heap.size w w3); clear hd ht7 ht2))
     refine bodyPost_ret (results_ct rfl _ _ g2 32 #[.string (⟨#[]⟩ : ByteArray), .string (⟨#[]⟩ : ByteArray), .string (⟨#[]⟩ : ByteArray)] (0, 0) _ rfl (by refine blk_put (cs := #[.string (⟨#[]⟩ : ByteArray), .string (⟨#[]⟩ : ByteArray), .string (⟨#[]⟩ : ByteArray)]) ?_ 2 _ rfl; refine blk_put (cs := #[.string (⟨#[]⟩ : ByteArray), .string (⟨#[]⟩ : ByteArray), .string (⟨#[]⟩ : ByteArray)]) ?_ 1 _ rfl; refine blk_put (cs := #[.string (⟨#[]⟩ : ByteArray), .string (⟨#[]⟩ : ByteArray), .string (⟨#[]⟩ : ByteArray)]) ?_ 0 _ rfl; exact HT2.out) Tryd.underlying32 rfl (by kernel_rfl)) rfl ?_
     exact ⟨rfl, below_set (below_set (below_set HB3.out HGE.out.1) HGE.out.1) HGE.out.1⟩
   rw [if_neg hy2] at H
   simp only [Option.some.injEq, Prod.mk.injEq] at H
   obtain ⟨rfl, rfl, rfl, rfl⟩ := H
   have y0 := (blk_cell BK2.out 0).trans rfl
   have y1 := (blk_cell BK2.out 1).trans rfl
   have y2 := (blk_cell BK2.out 2).trans rfl
   have u0 := blk_frozen BK2.out 0
   have u1 := blk_frozen BK2.out 1
   have u2 := blk_frozen BK2.out 2
   have yn : y = 0 ∨ y = 1 := by omega
   clear hlt hx0 hxa hxs hsz hG1 hy hy2
   have BK2A := Aside0.mk (show (wr.alloc (.cells #[.string a, .string b, .string c] 32)).heap[g2]? = some (.cells #[.string (⟨#[]⟩ : ByteArray), .string (⟨#[]⟩ : ByteArray), .string (⟨#[]⟩ : ByteArray)] 32 (0, 0)) from blk_alloc BK2.out _)
   have v0 := (blk_cell BK2A.out 0).trans rfl
   have v1 := (blk_cell BK2A.out 1).trans rfl
   have v2 := (blk_cell BK2A.out 2).trans rfl
   have t0 := blk_frozen BK2A.out 0
   have t1 := blk_frozen BK2A.out 1
   have t2 := blk_frozen BK2A.out 2
   rcases yn with rfl | rfl
   all_goals
    go_wp2
    refine bodyPost_ret (results_ct rfl _ _ g2 32 #[.string (⟨#[]⟩ : ByteArray), .string (⟨#[]⟩ : ByteArray), .string (⟨#[]⟩ : ByteArray)] (0, 0) _ rfl (by refine blk_put (cs := #[.string (⟨#[]⟩ : ByteArray), .string (⟨#[]⟩ : ByteArray), .string (⟨#[]⟩ : ByteArray)]) ?_ 2 _ rfl; refine blk_put (cs := #[.string (⟨#[]⟩ : ByteArray), .string (⟨#[]⟩ : ByteArray), .string (⟨#[]⟩ : ByteArray)]) ?_ 1 _ rfl; refine blk_put (cs := #[.string (⟨#[]⟩ : ByteArray), .string (⟨#[]⟩ : ByteArray), .string (⟨#[]⟩ : ByteArray)]) ?_ 0 _ rfl; exact BK2A.out) Tryd.underlying32 rfl (by kernel_rfl)) rfl ?_
    exact ⟨rfl, below_set (below_set (below_set (below_alloc HB.out _) HGE.out.1) HGE.out.1) HGE.out.1⟩
  rw [if_pos hlt] at H
  have d1 : decide (x < (s.size : Int)) = true := decide_eq_true hlt
  have p1 := eq_true hx0
  have p2 := eq_true hlt
  have hbx := bt_at s x
  have hw : wrap64 (x + 1) = x + 1 := by unfold wrap64; omega
  have q1 := eq_true (show x ≤ wrap64 (x + 1) by omega)
  have q2 := eq_true (show wrap64 (x + 1) ≤ (s.size : Int) by omega)
  have q3 := eq_true (show x ≤ IntKind.i64.wrap (x + 1) by rw [i64_w]; omega)
  have q4 := eq_true (show IntKind.i64.wrap (x + 1) ≤ (s.size : Int) by rw [i64_w]; omega)
  have hc1 := cut1_size s x hx0 hlt hsz
  have HW := Aside0.mk hw
  have HC1 := Aside0.mk hc1
  clear hw
  by_cases hcol : bt s x = 58 ∧ y < 2
  ·rw [if_pos hcol] at H
   have H' := Aside0.mk H
   clear H
   have e1 : (bt s x == 58) = true := beq_iff_eq.2 hcol.1
   have e2 : decide (y < 2) = true := decide_eq_true hcol.2
   have e01 : wrap64 ((0 : Int) + 1) = 1 := by unfold wrap64; omega
   have e11 : wrap64 ((1 : Int) + 1) = 2 := by unfold wrap64; omega
   clear hlt hx0 hxa hxs hsz hc1
   rcases hy with rfl | rfl | rfl
   ·rw [e01] at H'
    clear hcol e01 e11
    go_wp2
    go_roundg k1
    case measure => omega
    case rel => exact ⟨wrap64 (x + 1), 1, a, b, c, by first | rfl | (simp; done), by first | rfl | (simp; done), H', ⟨by have h1 := HX.out; have h2 := HW.out; have h3 := of_eq_true p2; omega⟩, .inr (.inl rfl), BK4, BK2, HB⟩
   ·rw [e11] at H'
    clear hcol e01 e11
    go_wp2
    go_roundg k1
    case measure => omega
    case rel => exact ⟨wrap64 (x + 1), 2, a, b, c, by first | rfl | (simp; done), by first | rfl | (simp; done), H', ⟨by have h1 := HX.out; have h2 := HW.out; have h3 := of_eq_true p2; omega⟩, .inr (.inr rfl), BK4, BK2, HB⟩
   ·exact absurd hcol.2 (by decide)
  rw [if_neg hcol] at H
  have hcat : ∀ z : ByteArray, (z.size : Int) ≤ x → (9223372036854775807 < z.size + (s.extract x.toNat (wrap64 (x + 1)).toNat).size) = False := fun z hz => eq_false (by rw [hc1]; omega)
  have hcat2 : ∀ z : ByteArray, (z.size : Int) ≤ x → (9223372036854775807 < z.size + ((wrap64 (x + 1)).toNat - x.toNat)) = False := fun z hz => eq_false (by have := HW.out; omega)
  have hcat3 : ∀ z : ByteArray, (z.size : Int) ≤ x → (9223372036854775807 < z.size + ((IntKind.i64.wrap (x + 1)).toNat - x.toNat)) = False := fun z hz => by rw [i64_w]; exact hcat2 z hz
  have e12 : (bt s x == 58) = false ∨ ((bt s x == 58) = true ∧ y = 2) := by
   by_cases e : bt s x = 58
   ·refine .inr ⟨beq_iff_eq.2 e, ?_⟩
    rcases hy with h | h | h
    ·exact absurd ⟨e, by omega⟩ hcol
    ·exact absurd ⟨e, by omega⟩ hcol
    ·exact h
   ·exact .inl (beq_eq_false_iff_ne.2 e)
  have hnew : ∀ z : ByteArray, ((z ++ s.extract x.toNat (wrap64 (x + 1)).toNat).size : Int) = z.size + 1 := fun z => by rw [ByteArray.size_append, hc1]; omega
  have HNEW := Lib.hid hnew
  clear hcol hlt hsz hc1 hnew
  rcases hy with rfl | rfl | rfl
  ·rw [if_pos rfl] at H
   have H' := Aside0.mk H
   have k1_ := hcat a (by omega)
   have k2_ := hcat2 a (by omega)
   have k3_ := hcat3 a (by omega)
   clear H hcat hcat2 hcat3 hx0 hxa hxs
   rcases e12 with e1 | ⟨e1, h⟩
   rotate_left
   ·exact absurd h (by decide)
   go_wp2
   go_still_tail 11, (by kernel_rfl)
   go_wp2
   go_roundg k1
   case measure => omega
   case rel => exact ⟨wrap64 (x + 1), 0, _, b, c, by first | rfl | (simp; done), by first | rfl | (simp; done), H', ⟨by have h1 := HX.out; have h2 := HW.out; have h3 := of_eq_true p2; have h4 := HNEW.out a; omega⟩, .inl rfl, ⟨by first | exact blk_drewN (blk_set BK4.out 0 _) _ | (simpa using blk_set BK4.out 0 _)⟩, ⟨blk_far BK2.out HGE.out.2.2.symm _⟩, ⟨below_set (pw_below_drewN HB.out _) HGE.out.2.1⟩⟩
  ·rw [if_neg (by decide), if_pos rfl] at H
   have H' := Aside0.mk H
   have k1_ := hcat b (by omega)
   have k2_ := hcat2 b (by omega)
   have k3_ := hcat3 b (by omega)
   clear H hcat hcat2 hcat3 hx0 hxa hxs
   rcases e12 with e1 | ⟨e1, h⟩
   rotate_left
   ·exact absurd h (by decide)
   go_wp2
   go_still_tail 11, (by kernel_rfl)
   go_wp2
   go_roundg k1
   case measure => omega
   case rel => exact ⟨wrap64 (x + 1), 1, a, _, c, by first | rfl | (simp; done), by first | rfl | (simp; done), H', ⟨by have h1 := HX.out; have h2 := HW.out; have h3 := of_eq_true p2; have h4 := HNEW.out b; omega⟩, .inr (.inl rfl), ⟨by first | exact blk_drewN (blk_set BK4.out 1 _) _ | (simpa using blk_set BK4.out 1 _)⟩, ⟨blk_far BK2.out HGE.out.2.2.symm _⟩, ⟨below_set (pw_below_drewN HB.out _) HGE.out.2.1⟩⟩
  ·rw [if_neg (by decide), if_neg (by decide)] at H
   have H' := Aside0.mk H
   have k1_ := hcat c (by omega)
   have k2_ := hcat2 c (by omega)
   have k3_ := hcat3 c (by omega)
   clear H hcat hcat2 hcat3 hx0 hxa hxs
   rcases e12 with e1 | ⟨e1, _⟩
   ·go_wp2
    go_still_tail 11, (by kernel_rfl)
    go_wp2
    go_roundg k1
    case measure => omega
    case rel => exact ⟨wrap64 (x + 1), 2, a, b, _, by first | rfl | (simp; done), by first | rfl | (simp; done), H', ⟨by have h1 := HX.out; have h2 := HW.out; have h3 := of_eq_true p2; have h4 := HNEW.out c; omega⟩, .inr (.inr rfl), ⟨by first | exact blk_drewN (blk_set BK4.out 2 _) _ | (simpa using blk_set BK4.out 2 _)⟩, ⟨blk_far BK2.out HGE.out.2.2.symm _⟩, ⟨below_set (pw_below_drewN HB.out _) HGE.out.2.1⟩⟩
   ·go_wp2
    go_still_tail 11, (by kernel_rfl)
    go_wp2
    go_roundg k1
    case measure => omega
    case rel => exact ⟨wrap64 (x + 1), 2, a, b, _, by first | rfl | (simp; done), by first | rfl | (simp; done), H', ⟨by have h1 := HX.out; have h2 := HW.out; have h3 := of_eq_true p2; have h4 := HNEW.out c; omega⟩, .inr (.inr rfl), ⟨by first | exact blk_drewN (blk_set BK4.out 2 _) _ | (simpa using blk_set BK4.out 2 _)⟩, ⟨blk_far BK2.out HGE.out.2.2.symm _⟩, ⟨below_set (pw_below_drewN HB.out _) HGE.out.2.1⟩⟩
def newelref05_CoordText.f (a0_0 : ByteArray) (a0_1 : ByteArray) (a0_2 : ByteArray) : Option (ByteArray) := if a0_0.size + 1 ≤ 9223372036854775807 then (if (a0_0 ++ (⟨#[58]⟩ : ByteArray)).size + a0_1.size ≤ 9223372036854775807 then (if ((a0_0 ++ (⟨#[58]⟩ : ByteArray)) ++ a0_1).size + 1 ≤ 9223372036854775807 then (if (((a0_0 ++ (⟨#[58]⟩ : ByteArray)) ++ a0_1) ++ (⟨#[58]⟩ : ByteArray)).size + a0_2.size ≤ 9223372036854775807 then (some ((((a0_0 ++ (⟨#[58]⟩ : ByteArray)) ++ a0_1) ++ (⟨#[58]⟩ : ByteArray)) ++ a0_2)) else (none)) else (none)) else (none)) else (none)
theorem newelref05_CoordText.calls (a0_0 : ByteArray) (a0_1 : ByteArray) (a0_2 : ByteArray) (r : ByteArray) (w : World) (hG : Glob w) (h : newelref05_CoordText.f a0_0 a0_1 a0_2 = some r) :
 Calls Tryd.prog 39 #[.agg #[.string a0_0, .string a0_1, .string a0_2]] w fun e w' => e = .returned (.string r) ∧ Below w.heap.size w w' := by
 have hu32 := Tryd.underlying32
 have HG := Aside0.mk hG
 clear hG
 have HB := Aside0.mk (Below.refl w.heap.size w)
 have H : (if a0_0.size + 1 ≤ 9223372036854775807 then (if (a0_0 ++ (⟨#[58]⟩ : ByteArray)).size + a0_1.size ≤ 9223372036854775807 then (if ((a0_0 ++ (⟨#[58]⟩ : ByteArray)) ++ a0_1).size + 1 ≤ 9223372036854775807 then (if (((a0_0 ++ (⟨#[58]⟩ : ByteArray)) ++ a0_1) ++ (⟨#[58]⟩ : ByteArray)).size + a0_2.size ≤ 9223372036854775807 then (some ((((a0_0 ++ (⟨#[58]⟩ : ByteArray)) ++ a0_1) ++ (⟨#[58]⟩ : ByteArray)) ++ a0_2)) else (none)) else (none)) else (none)) else (none)) = some r := h
 clear h
 obtain ⟨c2, H⟩ := gp H
 have c2b0 := eq_true c2
 have c2b1 := dT c2
 try have c2b2 : (9223372036854775807 < a0_0.size + 1) = False := eq_false (Nat.not_lt.2 c2)
 obtain ⟨c3, H⟩ := gp H
 have c3b0 := eq_true c3
 have c3b1 := dT c3
 try have c3b2 : (9223372036854775807 < (a0_0 ++ (⟨#[58]⟩ : ByteArray)).size + a0_1.size) = False := eq_false (Nat.not_lt.2 c3)
 have c3n : (a0_0.size + 1) + a0_1.size ≤ 9223372036854775807 := by have z_ := c3; simp only [ByteArray.size_append] at z_; exact z_
 have c3m : (9223372036854775807 < (a0_0.size + 1) + a0_1.size) = False := eq_false (Nat.not_lt.2 c3n)
 clear c3 c3b0 c3b1
 try clear c3b2
 obtain ⟨c4, H⟩ := gp H
 have c4b0 := eq_true c4
 have c4b1 := dT c4
 try have c4b2 : (9223372036854775807 < ((a0_0 ++ (⟨#[58]⟩ : ByteArray)) ++ a0_1).size + 1) = False := eq_false (Nat.not_lt.2 c4)
 have c4n : ((a0_0.size + 1) + a0_1.size) + 1 ≤ 9223372036854775807 := by have z_ := c4; simp only [ByteArray.size_append] at z_; exact z_
 have c4m : (9223372036854775807 < ((a0_0.size + 1) + a0_1.size) + 1) = False := eq_false (Nat.not_lt.2 c4n)
 clear c4 c4b0 c4b1
 try clear c4b2
 obtain ⟨c5, H⟩ := gp H
 have c5b0 := eq_true c5
 have c5b1 := dT c5
 try have c5b2 : (9223372036854775807 < (((a0_0 ++ (⟨#[58]⟩ : ByteArray)) ++ a0_1) ++ (⟨#[58]⟩ : ByteArray)).size + a0_2.size) = False := eq_false (Nat.not_lt.2 c5)
 have c5n : (((a0_0.size + 1) + a0_1.size) + 1) + a0_2.size ≤ 9223372036854775807 := by have z_ := c5; simp only [ByteArray.size_append] at z_; exact z_
 have c5m : (9223372036854775807 < (((a0_0.size + 1) + a0_1.size) + 1) + a0_2.size) = False := eq_false (Nat.not_lt.2 c5n)
 clear c5 c5b0 c5b1
 try clear c5b2
 obtain rfl := Option.some.inj H
 go_enter Tryd.func39, Tryd.ntmps39
 go_wp2_with (first | (refine be 1 #[.string a0_0, .string a0_1, .string a0_2] 32 ?_; intro gb693 hg w6 hbox hb; have BK693 := Aside0.mk (hbox); have GW693 := gW hg; have GE693 := gW hg; replace HB := sB hb; clear hb hbox hg; have hcz7_0 : w6.cell? ⟨gb693, 0, none⟩ = some (.string a0_0) := (blk_cell BK693.out 0).trans rfl; have hcz7_1 : w6.cell? ⟨gb693, 1, none⟩ = some (.string a0_1) := (blk_cell BK693.out 1).trans rfl; have hcz7_2 : w6.cell? ⟨gb693, 2, none⟩ = some (.string a0_2) := (blk_cell BK693.out 2).trans rfl; have hfz7_0 := blk_frozen BK693.out 0; have hfz7_1 := blk_frozen BK693.out 1; have hfz7_2 := blk_frozen BK693.out 2))
 go_ret
 exact ⟨eA, bG⟩
def newelref05_Type.f (a0_0 : ByteArray) (a0_1 : ByteArray) (a0_2 : ByteArray) (a0_3 : ByteArray) (a0_4 : ByteArray) (a0_5 : ByteArray) (a0_6 : Bool) (l0_7 : List (S183)) : Option (ByteArray) := if a0_3.toList = ([] : List UInt8) then (some (⟨#[106, 97, 114]⟩ : ByteArray)) else (some a0_3)
theorem newelref05_Type.calls (a0_0 : ByteArray) (a0_1 : ByteArray) (a0_2 : ByteArray) (a0_3 : ByteArray) (a0_4 : ByteArray) (a0_5 : ByteArray) (a0_6 : Bool) (A0_7 : Option Addr) (c0_7 : Nat) (l0_7 : List (S183)) (r : ByteArray) (w : World) (hr0_7 : Kd.C k183 w A0_7 l0_7.length l0_7) (hc0_7 : l0_7.length ≤ c0_7) (hG : Glob w) (h : newelref05_Type.f a0_0 a0_1 a0_2 a0_3 a0_4 a0_5 a0_6 l0_7 = some r) :
 Calls Tryd.prog 81 #[.agg #[.string a0_0, .string a0_1, .string a0_2, .string a0_3, .string a0_4, .string a0_5, .bool a0_6, .slice A0_7 l0_7.length c0_7]] w fun e w' => e = .returned (.string r) ∧ Below w.heap.size w w' := by
 have hu24 := Tryd.underlying24
 have HG := Aside0.mk hG
 clear hG
 have HR0_7 := Aside0.mk hr0_7
 have HC0_7 := Aside0.mk hc0_7
 clear hr0_7 hc0_7
 have HB := Aside0.mk (Below.refl w.heap.size w)
 have H : (if a0_3.toList = ([] : List UInt8) then (some (⟨#[106, 97, 114]⟩ : ByteArray)) else (some a0_3)) = some r := h
 clear h
 by_cases c2 : a0_3.toList = ([] : List UInt8)
 rotate_left
 ·rw [if_neg c2] at H
  obtain ⟨c2b0, c2b1⟩ := eqF c2
  (try (have c2b2 : a0_3.toList.isEmpty = false := by simpa using c2))
  obtain rfl := Option.some.inj H
  go_enter Tryd.func81, Tryd.ntmps81
  go_wp2_with (first | (refine be 1 #[.string a0_0, .string a0_1, .string a0_2, .string a0_3, .string a0_4, .string a0_5, .bool a0_6, .slice A0_7 l0_7.length c0_7] 24 ?_; intro gb694 hg w5 hbox hb; have BK694 := Aside0.mk (hbox); have GW694 := gW hg; have GE694 := gW hg; replace HB := sB hb; clear hb hbox hg; have hcz6_0 : w5.cell? ⟨gb694, 0, none⟩ = some (.string a0_0) := (blk_cell BK694.out 0).trans rfl; have hcz6_1 : w5.cell? ⟨gb694, 1, none⟩ = some (.string a0_1) := (blk_cell BK694.out 1).trans rfl; have hcz6_2 : w5.cell? ⟨gb694, 2, none⟩ = some (.string a0_2) := (blk_cell BK694.out 2).trans rfl; have hcz6_3 : w5.cell? ⟨gb694, 3, none⟩ = some (.string a0_3) := (blk_cell BK694.out 3).trans rfl; have hcz6_4 : w5.cell? ⟨gb694, 4, none⟩ = some (.string a0_4) := (blk_cell BK694.out 4).trans rfl; have hcz6_5 : w5.cell? ⟨gb694, 5, none⟩ = some (.string a0_5) := (blk_cell BK694.out 5).trans rfl; have hcz6_6 : w5.cell? ⟨gb694, 6, none⟩ = some (.bool a0_6) := (blk_cell BK694.out 6).trans rfl; have hcz6_7 : w5.cell? ⟨gb694, 7, none⟩ = some (.slice A0_7 l0_7.length c0_7) := (blk_cell BK694.out 7).trans rfl; have hfz6_0 := blk_frozen BK694.out 0; have hfz6_1 := blk_frozen BK694.out 1; have hfz6_2 := blk_frozen BK694.out 2; have hfz6_3 := blk_frozen BK694.out 3; have hfz6_4 := blk_frozen BK694.out 4; have hfz6_5 := blk_frozen BK694.out 5; have hfz6_6 := blk_frozen BK694.out 6; have hfz6_7 := blk_frozen BK694.out 7))
  go_ret
  exact ⟨eA, bG⟩
 rw [if_pos c2] at H
 obtain ⟨c2b0, c2b1⟩ := eqT c2
 (try (have c2b2 : a0_3.toList.isEmpty = true := by simpa using c2))
 clear c2
 obtain rfl := Option.some.inj H
 go_enter Tryd.func81, Tryd.ntmps81
 go_wp2_with (first | (refine be 1 #[.string a0_0, .string a0_1, .string a0_2, .string a0_3, .string a0_4, .string a0_5, .bool a0_6, .slice A0_7 l0_7.length c0_7] 24 ?_; intro gb694 hg w3 hbox hb; have BK694 := Aside0.mk (hbox); have GW694 := gW hg; have GE694 := gW hg; replace HB := sB hb; clear hb hbox hg; have hcz4_0 : w3.cell? ⟨gb694, 0, none⟩ = some (.string a0_0) := (blk_cell BK694.out 0).trans rfl; have hcz4_1 : w3.cell? ⟨gb694, 1, none⟩ = some (.string a0_1) := (blk_cell BK694.out 1).trans rfl; have hcz4_2 : w3.cell? ⟨gb694, 2, none⟩ = some (.string a0_2) := (blk_cell BK694.out 2).trans rfl; have hcz4_3 : w3.cell? ⟨gb694, 3, none⟩ = some (.string a0_3) := (blk_cell BK694.out 3).trans rfl; have hcz4_4 : w3.cell? ⟨gb694, 4, none⟩ = some (.string a0_4) := (blk_cell BK694.out 4).trans rfl; have hcz4_5 : w3.cell? ⟨gb694, 5, none⟩ = some (.string a0_5) := (blk_cell BK694.out 5).trans rfl; have hcz4_6 : w3.cell? ⟨gb694, 6, none⟩ = some (.bool a0_6) := (blk_cell BK694.out 6).trans rfl; have hcz4_7 : w3.cell? ⟨gb694, 7, none⟩ = some (.slice A0_7 l0_7.length c0_7) := (blk_cell BK694.out 7).trans rfl; have hfz4_0 := blk_frozen BK694.out 0; have hfz4_1 := blk_frozen BK694.out 1; have hfz4_2 := blk_frozen BK694.out 2; have hfz4_3 := blk_frozen BK694.out 3; have hfz4_4 := blk_frozen BK694.out 4; have hfz4_5 := blk_frozen BK694.out 5; have hfz4_6 := blk_frozen BK694.out 6; have hfz4_7 := blk_frozen BK694.out 7))
 go_ret
 exact ⟨eA, bG⟩
def newelref05_Key.f (a0_0 : ByteArray) (a0_1 : ByteArray) (a0_2 : ByteArray) (a0_3 : ByteArray) (a0_4 : ByteArray) (a0_5 : ByteArray) (a0_6 : Bool) (l0_7 : List (S183)) : Option (ByteArray) := if a0_0.size + 1 ≤ 9223372036854775807 then (if (a0_0 ++ (⟨#[58]⟩ : ByteArray)).size + a0_1.size ≤ 9223372036854775807 then (if ((a0_0 ++ (⟨#[58]⟩ : ByteArray)) ++ a0_1).size + 1 ≤ 9223372036854775807 then ((newelref05_Type.f a0_0 a0_1 a0_2 a0_3 a0_4 a0_5 a0_6 l0_7).bind fun t696 => (if (((a0_0 ++ (⟨#[58]⟩ : ByteArray)) ++ a0_1) ++ (⟨#[58]⟩ : ByteArray)).size + t696.size ≤ 9223372036854775807 then (if ((((a0_0 ++ (⟨#[58]⟩ : ByteArray)) ++ a0_1) ++ (⟨#[58]⟩ : ByteArray)) ++ t696).size + 1 ≤ 9223372036854775807 then (if (((((a0_0 ++ (⟨#[58]⟩ : ByteArray)) ++ a0_1) ++ (⟨#[58]⟩ : ByteArray)) ++ t696) ++ (⟨#[58]⟩ : ByteArray)).size + a0_4.size ≤ 9223372036854775807 then (some ((((((a0_0 ++ (⟨#[58]⟩ : ByteArray)) ++ a0_1) ++ (⟨#[58]⟩ : ByteArray)) ++ t696) ++ (⟨#[58]⟩ : ByteArray)) ++ a0_4)) else (none)) else (none)) else (none))) else (none)) else (none)) else (none)
def newelref05_Key.T1 : Bool × List (List Nat × List Nat) := (true, [([], []), ([0], [0]), ([1], [1]), ([], []), ([3], [3]), ([2, 4], [2, 4]), ([5], [5]), ([], []), ([7], [7]), ([6, 8], [6, 8]), ([9], [9]), ([], []), ([11], [11]), ([10, 12], [10, 12]), ([13, 8, 0, 1, 2, 3, 4, 5, 6, 7, 8, 9, 10, 11, 12, 13], [13])])
def newelref05_Key.B1 : List Nat := [0, 1, 3, 0, 8, 31, 63, 0, 128, 511, 1023, 0, 2048, 8191, 16383]
theorem newelref05_Key.tab1 : rtab .any (opsOf Tryd.f40 1) = newelref05_Key.T1 := by kernel_rfl
theorem newelref05_Key.bits1 : waitsOk newelref05_Key.T1.2 newelref05_Key.B1 = true := by kernel_rfl
theorem newelref05_Key.calls (a0_0 : ByteArray) (a0_1 : ByteArray) (a0_2 : ByteArray) (a0_3 : ByteArray) (a0_4 : ByteArray) (a0_5 : ByteArray) (a0_6 : Bool) (A0_7 : Option Addr) (c0_7 : Nat) (l0_7 : List (S183)) (r : ByteArray) (w : World) (hr0_7 : Kd.C k183 w A0_7 l0_7.length l0_7) (hc0_7 : l0_7.length ≤ c0_7) (hG : Glob w) (h : newelref05_Key.f a0_0 a0_1 a0_2 a0_3 a0_4 a0_5 a0_6 l0_7 = some r) :
 Calls Tryd.prog 40 #[.agg #[.string a0_0, .string a0_1, .string a0_2, .string a0_3, .string a0_4, .string a0_5, .bool a0_6, .slice A0_7 l0_7.length c0_7]] w fun e w' => e = .returned (.string r) ∧ Below w.heap.size w w' := by
 have hu24 := Tryd.underlying24
 have HG := Aside0.mk hG
 clear hG
 have HR0_7 := Aside0.mk hr0_7
 have HC0_7 := Aside0.mk hc0_7
 clear hr0_7 hc0_7
 have HB := Aside0.mk (Below.refl w.heap.size w)
 have H : (if a0_0.size + 1 ≤ 9223372036854775807 then (if (a0_0 ++ (⟨#[58]⟩ : ByteArray)).size + a0_1.size ≤ 9223372036854775807 then (if ((a0_0 ++ (⟨#[58]⟩ : ByteArray)) ++ a0_1).size + 1 ≤ 9223372036854775807 then ((newelref05_Type.f a0_0 a0_1 a0_2 a0_3 a0_4 a0_5 a0_6 l0_7).bind fun t696 => (if (((a0_0 ++ (⟨#[58]⟩ : ByteArray)) ++ a0_1) ++ (⟨#[58]⟩ : ByteArray)).size + t696.size ≤ 9223372036854775807 then (if ((((a0_0 ++ (⟨#[58]⟩ : ByteArray)) ++ a0_1) ++ (⟨#[58]⟩ : ByteArray)) ++ t696).size + 1 ≤ 9223372036854775807 then (if (((((a0_0 ++ (⟨#[58]⟩ : ByteArray)) ++ a0_1) ++ (⟨#[58]⟩ : ByteArray)) ++ t696) ++ (⟨#[58]⟩ : ByteArray)).size + a0_4.size ≤ 9223372036854775807 then (some ((((((a0_0 ++ (⟨#[58]⟩ : ByteArray)) ++ a0_1) ++ (⟨#[58]⟩ : ByteArray)) ++ t696) ++ (⟨#[58]⟩ : ByteArray)) ++ a0_4)) else (none)) else (none)) else (none))) else (none)) else (none)) else (none)) = some r := h
 clear h
 obtain ⟨c2, H⟩ := gp H
 have c2b0 := eq_true c2
 have c2b1 := dT c2
 try have c2b2 : (9223372036854775807 < a0_0.size + 1) = False := eq_false (Nat.not_lt.2 c2)
 obtain ⟨c3, H⟩ := gp H
 have c3b0 := eq_true c3
 have c3b1 := dT c3
 try have c3b2 : (9223372036854775807 < (a0_0 ++ (⟨#[58]⟩ : ByteArray)).size + a0_1.size) = False := eq_false (Nat.not_lt.2 c3)
 have c3n : (a0_0.size + 1) + a0_1.size ≤ 9223372036854775807 := by have z_ := c3; simp only [ByteArray.size_append] at z_; exact z_
 have c3m : (9223372036854775807 < (a0_0.size + 1) + a0_1.size) = False := eq_false (Nat.not_lt.2 c3n)
 clear c3 c3b0 c3b1
 try clear c3b2
 obtain ⟨c4, H⟩ := gp H
 have c4b0 := eq_true c4
 have c4b1 := dT c4
 try have c4b2 : (9223372036854775807 < ((a0_0 ++ (⟨#[58]⟩ : ByteArray)) ++ a0_1).size + 1) = False := eq_false (Nat.not_lt.2 c4)
 have c4n : ((a0_0.size + 1) + a0_1.size) + 1 ≤ 9223372036854775807 := by have z_ := c4; simp only [ByteArray.size_append] at z_; exact z_
 have c4m : (9223372036854775807 < ((a0_0.size + 1) + a0_1.size) + 1) = False := eq_false (Nat.not_lt.2 c4n)
 clear c4 c4b0 c4b1
 try clear c4b2
 replace H := bi H
 obtain ⟨t696, A50, H⟩ := H
 try dsimp only at H
 have A5 := Aside0.mk A50
 clear A50
 obtain ⟨c6, H⟩ := gp H
 have c6b0 := eq_true c6
 have c6b1 := dT c6
 try have c6b2 : (9223372036854775807 < (((a0_0 ++ (⟨#[58]⟩ : ByteArray)) ++ a0_1) ++ (⟨#[58]⟩ : ByteArray)).size + t696.size) = False := eq_false (Nat.not_lt.2 c6)
 have c6n : (((a0_0.size + 1) + a0_1.size) + 1) + t696.size ≤ 9223372036854775807 := by have z_ := c6; simp only [ByteArray.size_append] at z_; exact z_
 have c6m : (9223372036854775807 < (((a0_0.size + 1) + a0_1.size) + 1) + t696.size) = False := eq_false (Nat.not_lt.2 c6n)
 clear c6 c6b0 c6b1
 try clear c6b2
 obtain ⟨c7, H⟩ := gp H
 have c7b0 := eq_true c7
 have c7b1 := dT c7
 try have c7b2 : (9223372036854775807 < ((((a0_0 ++ (⟨#[58]⟩ : ByteArray)) ++ a0_1) ++ (⟨#[58]⟩ : ByteArray)) ++ t696).size + 1) = False := eq_false (Nat.not_lt.2 c7)
 have c7n : ((((a0_0.size + 1) + a0_1.size) + 1) + t696.size) + 1 ≤ 9223372036854775807 := by have z_ := c7; simp only [ByteArray.size_append] at z_; exact z_
 have c7m : (9223372036854775807 < ((((a0_0.size + 1) + a0_1.size) + 1) + t696.size) + 1) = False := eq_false (Nat.not_lt.2 c7n)
 clear c7 c7b0 c7b1
 try clear c7b2
 obtain ⟨c8, H⟩ := gp H
 have c8b0 := eq_true c8
 have c8b1 := dT c8
 try have c8b2 : (9223372036854775807 < (((((a0_0 ++ (⟨#[58]⟩ : ByteArray)) ++ a0_1) ++ (⟨#[58]⟩ : ByteArray)) ++ t696) ++ (⟨#[58]⟩ : ByteArray)).size + a0_4.size) = False := eq_false (Nat.not_lt.2 c8)
 have c8n : (((((a0_0.size + 1) + a0_1.size) + 1) + t696.size) + 1) + a0_4.size ≤ 9223372036854775807 := by have z_ := c8; simp only [ByteArray.size_append] at z_; exact z_
 have c8m : (9223372036854775807 < (((((a0_0.size + 1) + a0_1.size) + 1) + t696.size) + 1) + a0_4.size) = False := eq_false (Nat.not_lt.2 c8n)
 clear c8 c8b0 c8b1
 try clear c8b2
 obtain rfl := Option.some.inj H
 go_enter Tryd.func40, Tryd.ntmps40
 try go_wp2_with (first | (refine be 1 #[.string a0_0, .string a0_1, .string a0_2, .string a0_3, .string a0_4, .string a0_5, .bool a0_6, .slice A0_7 l0_7.length c0_7] 24 ?_; intro gb695 hg w9 hbox hb; have BK695 := Aside0.mk (hbox); have GW695 := gW hg; have GE695 := gW hg; replace HB := sB hb; clear hb hbox hg))
 replace BK695 := Aside0.mk (blk_drew BK695.out)
 replace HB := Aside0.mk (below_drew1 HB.out)
 refine start_ (n := 15) (S := fun w' => w'.cell? ⟨gb695, 0, none⟩ = some (.string a0_0) ∧ w'.cell? ⟨gb695, 1, none⟩ = some (.string a0_1) ∧ w'.cell? ⟨gb695, 2, none⟩ = some (.string a0_2) ∧ w'.cell? ⟨gb695, 3, none⟩ = some (.string a0_3) ∧ w'.cell? ⟨gb695, 4, none⟩ = some (.string a0_4) ∧ w'.cell? ⟨gb695, 5, none⟩ = some (.string a0_5) ∧ w'.cell? ⟨gb695, 6, none⟩ = some (.bool a0_6) ∧ w'.cell? ⟨gb695, 7, none⟩ = some (.slice A0_7 l0_7.length c0_7)) (ds := []) #[false, false, false, false, false, false, false, false, false, false, false, false, false, false, false] (by kernel_rfl) rfl rfl ⟨(blk_cell BK695.out 0).trans rfl, (blk_cell BK695.out 1).trans rfl, (blk_cell BK695.out 2).trans rfl, (blk_cell BK695.out 3).trans rfl, (blk_cell BK695.out 4).trans rfl, (blk_cell BK695.out 5).trans rfl, (blk_cell BK695.out 6).trans rfl, (blk_cell BK695.out 7).trans rfl⟩ (fun hHeld => ?_); refine with_tabW newelref05_Key.tab1 newelref05_Key.bits1 (fun HT_ HW_ => ?_)
 generalize w9.drew = w10 at BK695 HB hHeld ⊢
 refine pz 0 (some 3) HT_ ?_
 refine pz 3 (some 6) HT_ ?_
 refine pz 11 (some 14) HT_ ?_
 refine tm 1 (some 4) HT_ HW_ hHeld ?_
 refine pz 2 (some 5) HT_ ?_
 refine tm 4 (some 7) HT_ HW_ hHeld ?_
 refine pz 5 (some 8) HT_ ?_
 refine pz 6 (some 9) HT_ ?_
 refine tm 7 (some 10) HT_ HW_ hHeld ?_
 refine tm 12 (some 15) HT_ HW_ hHeld ?_
 refine on 8 (some 11) HT_ (fun K hK => ?_)
 refine goes_ Tryd.func81 (by kernel_rfl) rfl #[.agg #[.string a0_0, .string a0_1, .string a0_2, .string a0_3, .string a0_4, .string a0_5, .bool a0_6, .slice A0_7 l0_7.length c0_7]] (by rfl) rfl rfl mA ?_
 with_reducible refine (newelref05_Type.calls a0_0 a0_1 a0_2 a0_3 a0_4 a0_5 a0_6 _ _ l0_7 t696 _ ?side1 ?side2 (gS HG) A5.out).mono ?_
 (case side1 => repeat (first | exact (Kd.C_below HR0_7.out HB.out) | (with_reducible refine Kd.C_alloc ?_ _) | (with_reducible refine Kd.C_drewN ?_ _) | (with_reducible refine Kd.C_drew ?_)))
 (case side2 => exact HC0_7.out)
 rintro e w11 ⟨rfl, hb⟩
 refine ⟨_, rfl, ?_⟩
 replace BK695 := kB BK695 hb
 replace HB := sB hb
 (try clear hb)
 refine hK.out _ _ ⟨(blk_cell BK695.out 0).trans rfl, (blk_cell BK695.out 1).trans rfl, (blk_cell BK695.out 2).trans rfl, (blk_cell BK695.out 3).trans rfl, (blk_cell BK695.out 4).trans rfl, (blk_cell BK695.out 5).trans rfl, (blk_cell BK695.out 6).trans rfl, (blk_cell BK695.out 7).trans rfl⟩ (fun hHeld => ?_)
 clear hK K
 refine nz (some 11) ?_
 refine pz 9 (some 12) HT_ ?_
 refine pz 10 (some 13) HT_ ?_
 refine pz 13 (some 16) HT_ ?_
 refine pz 14 (some 2) HT_ ?_
 refine done_ (done_of HT_.out (by kernel_rfl)) ?_
 try go_wp2
 go_ret
 exact ⟨eA, bG⟩
def cmp_Or_int.l0 : Nat → Int → List Int → Int → Int → Option (Int)
 | 0, _, _, _, _ => none
 | k + 1, x3, x6, x7, x8 => if x8 < x7 then (if 0 ≤ x8 then (if x8 < (x6.length : Int) then (if (rd x6 x8) = x3 then (cmp_Or_int.l0 k x3 x6 x7 (wrap64 (x8 + 1))) else (some (rd x6 x8))) else (none)) else (none)) else (some x3)
def cmp_Or_int.f (k : Nat) (l0 : List Int) : Option (Int) := cmp_Or_int.l0 k 0 l0 (l0.length : Int) 0
theorem cmp_Or_int.calls (k : Nat) (A0 : Option Addr) (c0 : Nat) (l0 : List Int) (r : Int) (w : World) (hr0 : Kd.C (Kd.int .i64) w A0 l0.length l0) (hc0 : l0.length ≤ c0) (hG : Glob w) (h : cmp_Or_int.f k l0 = some r) :
 Calls Tryd.prog 112 #[.slice A0 l0.length c0] w fun e w' => e = .returned (.int .i64 r) ∧ Drawn0 w w' := by
 have HG := Aside0.mk hG
 clear hG
 have HR0 := Aside0.mk hr0
 have HC0 := Aside0.mk hc0
 clear hr0 hc0
 have H : (cmp_Or_int.l0 k 0 l0 (l0.length : Int) 0) = some r := h
 clear h
 have H' := Aside0.mk H
 clear H
 go_enter Tryd.func112, Tryd.ntmps112
 go_wp2
 go_loopg [8] k (fun kq v8 w' => ∃ (x8_1 : Int), v8 = .int .i64 x8_1 ∧ Aside0 (cmp_Or_int.l0 kq 0 l0 (l0.length : Int) x8_1 = some r) ∧ Aside0 (kq ≤ k) ∧ Drawn0 w w')
 case atStart => exact ⟨(0), cA, H', ⟨Nat.le_refl _⟩, by repeat (first | exact Drawn0.refl _ | apply Drawn0.step)⟩
 clear H'
 try clear c1
 obtain ⟨x8_1, rfl, HA, HK1, ⟨m1, rfl⟩⟩ := hrel
 cases gk with
 | zero => exact absurd HA.out (by simp [cmp_Or_int.l0])
 | succ k1 =>
  have H := HA.out
  clear HA
  simp only [cmp_Or_int.l0] at H
  by_cases c2 : x8_1 < (l0.length : Int)
  rotate_left
  ·rw [if_neg c2] at H
   have c2b0 := dF c2
   clear c2
   obtain rfl := Option.some.inj H
   go_wp2
   go_ret
   exact ⟨by first | rfl | (simp; done) | (simp [*]; done), by repeat (first | exact Drawn0.refl _ | apply Drawn0.step)⟩
  rw [if_pos c2] at H
  have c2b0 := dT c2
  clear c2
  obtain ⟨c3, H⟩ := gp H
  have c3b0 := dT c3
  clear c3
  obtain ⟨c4, H⟩ := gp H
  have c4b0 := dT c4
  clear c4
  by_cases c5 : (rd l0 x8_1) = 0
  rotate_left
  ·rw [if_neg c5] at H
   obtain ⟨c5b0, c5b1⟩ := eqF c5
   obtain rfl := Option.some.inj H
   have p318 : 0 ≤ (x8_1 : Int) := dA
   have q318 : x8_1 < (l0.length : Int) := dA
   obtain ⟨ad318, e318, hx318_0⟩ := Kd.at_int HR0.out x8_1 p318 q318
   cases e318
   replace p318 := eq_true p318
   replace q318 := eq_true q318
   go_wp2
   go_ret
   exact ⟨by first | rfl | (simp; done) | (simp [*]; done), by repeat (first | exact Drawn0.refl _ | apply Drawn0.step)⟩
  rw [if_pos c5] at H
  obtain ⟨c5b0, c5b1⟩ := eqT c5
  clear c5
  have H' := Aside0.mk H
  clear H
  have p318 : 0 ≤ (x8_1 : Int) := dA
  have q318 : x8_1 < (l0.length : Int) := dA
  obtain ⟨ad318, e318, hx318_0⟩ := Kd.at_int HR0.out x8_1 p318 q318
  cases e318
  replace p318 := eq_true p318
  replace q318 := eq_true q318
  go_wp2
  go_roundg k1
  case measure => have := HK1.out; omega
  case rel => exact ⟨(wrap64 (x8_1 + 1)), cA, H', ⟨by have := HK1.out; omega⟩, by repeat (first | exact Drawn0.refl _ | apply Drawn0.step)⟩
def cmp_isNaN_string.f (a0 : ByteArray) : Option (Bool) := some (a0.toList != a0.toList)
theorem cmp_isNaN_string.calls (a0 : ByteArray) (r : Bool) (w : World) (hG : Glob w) (h : cmp_isNaN_string.f a0 = some r) :
 Calls Tryd.prog 140 #[.string a0] w fun e w' => e = .returned (.bool r) ∧ Drawn0 w w' := by
 have HG := Aside0.mk hG
 clear hG
 have H : (some (a0.toList != a0.toList)) = some r := h
 clear h
 obtain rfl := Option.some.inj H
 go_enter Tryd.func140, Tryd.ntmps140
 go_wp2
 go_ret
 exact ⟨by first | rfl | (simp; done) | (simp [*]; done), by repeat (first | exact Drawn0.refl _ | apply Drawn0.step)⟩
section
theorem bytesLess_turn : ∀ x y : List UInt8, (!(Op.bytesLess x y || x == y)) = Op.bytesLess y x
 | [], [] => rfl
 | [], _ :: _ => rfl
 | _ :: _, [] => rfl
 | a :: x, b :: y => by
  have ih := bytesLess_turn x y
  rcases Nat.lt_trichotomy a.toNat b.toNat with h | h | h
  ·have h1 : decide (a < b) = true := decide_eq_true (UInt8.lt_iff_toNat_lt.2 h)
   have h2 : decide (b < a) = false := decide_eq_false (fun g => by have := UInt8.lt_iff_toNat_lt.1 g; omega)
   have h3 : (b == a) = false := by rw [Bool.eq_false_iff]; intro g; rw [beq_iff_eq] at g; rw [g] at h; omega
   simp [Op.bytesLess, h1, h2, h3]
  ·obtain rfl : a = b := UInt8.toNat_inj.1 h
   have h1 : decide (a < a) = false := decide_eq_false (fun g => by have := UInt8.lt_iff_toNat_lt.1 g; omega)
   simp only [Op.bytesLess, h1, beq_self_eq_true, Bool.true_and, Bool.false_or]
   rw [← ih]
   simp
  ·have h1 : decide (b < a) = true := decide_eq_true (UInt8.lt_iff_toNat_lt.2 h)
   have h2 : decide (a < b) = false := decide_eq_false (fun g => by have := UInt8.lt_iff_toNat_lt.1 g; omega)
   have h3 : (a == b) = false := by rw [Bool.eq_false_iff]; intro g; rw [beq_iff_eq] at g; rw [g] at h; omega
   have h4 : ¬ a = b := by simpa using h3
   simp [Op.bytesLess, h1, h2, h3, h4]
theorem binOp_gtr_turned (t : TypeId) (a b : ByteArray) : binOp .gtr t (.string a) (.string b) = pure (.bool (Op.bytesLess b.toList a.toList)) := by
 rw [← bytesLess_turn]
 simp [binOp, Op.stringOp]
attribute [local go_sem] binOp_gtr_turned
def cmp_Compare_string.f (a0 : ByteArray) (a1 : ByteArray) : Option (Int) := (cmp_isNaN_string.f a0).bind fun t316 => ((cmp_isNaN_string.f a1).bind fun t317 => (if t316 = true then (if t317 = true then (some 0) else (some (-1))) else (if t317 = true then (some 1) else (if (Op.bytesLess a0.toList a1.toList) = true then (some (-1)) else (if (Op.bytesLess a1.toList a0.toList) = true then (some 1) else (some 0))))))
theorem cmp_Compare_string.calls (a0 : ByteArray) (a1 : ByteArray) (r : Int) (w : World) (hG : Glob w) (h : cmp_Compare_string.f a0 a1 = some r) :
 Calls Tryd.prog 113 #[.string a0, .string a1] w fun e w' => e = .returned (.int .i64 r) ∧ Drawn0 w w' := by
 have HG := Aside0.mk hG
 clear hG
 have H : ((cmp_isNaN_string.f a0).bind fun t316 => ((cmp_isNaN_string.f a1).bind fun t317 => (if t316 = true then (if t317 = true then (some 0) else (some (-1))) else (if t317 = true then (some 1) else (if (Op.bytesLess a0.toList a1.toList) = true then (some (-1)) else (if (Op.bytesLess a1.toList a0.toList) = true then (some 1) else (some 0))))))) = some r := h
 clear h
 replace H := bi H
 obtain ⟨t316, A30, H⟩ := H
 try dsimp only at H
 have A3 := Aside0.mk A30
 clear A30
 replace H := bi H
 obtain ⟨t317, A40, H⟩ := H
 try dsimp only at H
 have A4 := Aside0.mk A40
 clear A40
 by_cases c5 : t316 = true
 ·subst c5
  replace H : (if t317 = true then (some 0) else (some (-1))) = some r := by rw [if_pos rfl] at H; exact H
  by_cases c6 : t317 = true
  ·subst c6
   replace H : (some 0) = some r := by rw [if_pos rfl] at H; exact H
   obtain rfl := Option.some.inj H
   go_enter Tryd.func113, Tryd.ntmps113
   go_wp2_with (first | (refine gl (some 8) Tryd.func140 #[.string a0] ?_; (with_reducible refine (cmp_isNaN_string.calls a0 true _ ?side1 A3.out).mono ?_); (case side1 => exact Glob.drawn HG.out (by repeat (first | exact Drawn0.refl _ | apply Drawn0.step))); rintro e w' ⟨rfl, ⟨nd, rfl⟩⟩; refine ⟨_, rfl, ?_⟩) | (refine gl (some 10) Tryd.func140 #[.string a1] ?_; (with_reducible refine (cmp_isNaN_string.calls a1 true _ ?side1 A4.out).mono ?_); (case side1 => exact Glob.drawn HG.out (by repeat (first | exact Drawn0.refl _ | apply Drawn0.step))); rintro e w' ⟨rfl, ⟨nd, rfl⟩⟩; refine ⟨_, rfl, ?_⟩))
   go_ret
   exact ⟨by first | rfl | (simp; done) | (simp [*]; done), by repeat (first | exact Drawn0.refl _ | apply Drawn0.step)⟩
  replace c6 := Bool.eq_false_iff.mpr c6
  subst c6
  replace H : (some (-1)) = some r := by rw [if_neg nF] at H; exact H
  obtain rfl := Option.some.inj H
  go_enter Tryd.func113, Tryd.ntmps113
  go_wp2_with (first | (refine gl (some 8) Tryd.func140 #[.string a0] ?_; (with_reducible refine (cmp_isNaN_string.calls a0 true _ ?side1 A3.out).mono ?_); (case side1 => exact Glob.drawn HG.out (by repeat (first | exact Drawn0.refl _ | apply Drawn0.step))); rintro e w' ⟨rfl, ⟨nd, rfl⟩⟩; refine ⟨_, rfl, ?_⟩) | (refine gl (some 10) Tryd.func140 #[.string a1] ?_; (with_reducible refine (cmp_isNaN_string.calls a1 false _ ?side1 A4.out).mono ?_); (case side1 => exact Glob.drawn HG.out (by repeat (first | exact Drawn0.refl _ | apply Drawn0.step))); rintro e w' ⟨rfl, ⟨nd, rfl⟩⟩; refine ⟨_, rfl, ?_⟩))
  go_ret
  exact ⟨by first | rfl | (simp; done) | (simp [*]; done), by repeat (first | exact Drawn0.refl _ | apply Drawn0.step)⟩
 replace c5 := Bool.eq_false_iff.mpr c5
 subst c5
 replace H : (if t317 = true then (some 1) else (if (Op.bytesLess a0.toList a1.toList) = true then (some (-1)) else (if (Op.bytesLess a1.toList a0.toList) = true then (some 1) else (some 0)))) = some r := by rw [if_neg nF] at H; exact H
 by_cases c7 : t317 = true
 ·subst c7
  replace H : (some 1) = some r := by rw [if_pos rfl] at H; exact H
  obtain rfl := Option.some.inj H
  go_enter Tryd.func113, Tryd.ntmps113
  go_wp2_with (first | (refine gl (some 8) Tryd.func140 #[.string a0] ?_; (with_reducible refine (cmp_isNaN_string.calls a0 false _ ?side1 A3.out).mono ?_); (case side1 => exact Glob.drawn HG.out (by repeat (first | exact Drawn0.refl _ | apply Drawn0.step))); rintro e w' ⟨rfl, ⟨nd, rfl⟩⟩; refine ⟨_, rfl, ?_⟩) | (refine gl (some 10) Tryd.func140 #[.string a1] ?_; (with_reducible refine (cmp_isNaN_string.calls a1 true _ ?side1 A4.out).mono ?_); (case side1 => exact Glob.drawn HG.out (by repeat (first | exact Drawn0.refl _ | apply Drawn0.step))); rintro e w' ⟨rfl, ⟨nd, rfl⟩⟩; refine ⟨_, rfl, ?_⟩))
  go_ret
  exact ⟨by first | rfl | (simp; done) | (simp [*]; done), by repeat (first | exact Drawn0.refl _ | apply Drawn0.step)⟩
 replace c7 := Bool.eq_false_iff.mpr c7
 subst c7
 replace H : (if (Op.bytesLess a0.toList a1.toList) = true then (some (-1)) else (if (Op.bytesLess a1.toList a0.toList) = true then (some 1) else (some 0))) = some r := by rw [if_neg nF] at H; exact H
 by_cases c8 : (Op.bytesLess a0.toList a1.toList) = true
 ·rw [if_pos c8] at H
  have c8b0 : (Op.bytesLess a0.toList a1.toList) = true := c8
  clear c8
  obtain rfl := Option.some.inj H
  go_enter Tryd.func113, Tryd.ntmps113
  go_wp2_with (first | (refine gl (some 8) Tryd.func140 #[.string a0] ?_; (with_reducible refine (cmp_isNaN_string.calls a0 false _ ?side1 A3.out).mono ?_); (case side1 => exact Glob.drawn HG.out (by repeat (first | exact Drawn0.refl _ | apply Drawn0.step))); rintro e w' ⟨rfl, ⟨nd, rfl⟩⟩; refine ⟨_, rfl, ?_⟩) | (refine gl (some 10) Tryd.func140 #[.string a1] ?_; (with_reducible refine (cmp_isNaN_string.calls a1 false _ ?side1 A4.out).mono ?_); (case side1 => exact Glob.drawn HG.out (by repeat (first | exact Drawn0.refl _ | apply Drawn0.step))); rintro e w' ⟨rfl, ⟨nd, rfl⟩⟩; refine ⟨_, rfl, ?_⟩))
  go_ret
  exact ⟨by first | rfl | (simp; done) | (simp [*]; done), by repeat (first | exact Drawn0.refl _ | apply Drawn0.step)⟩
 rw [if_neg c8] at H
 have c8b0 : (Op.bytesLess a0.toList a1.toList) = false := by simpa using c8
 clear c8
 by_cases c9 : (Op.bytesLess a1.toList a0.toList) = true
 rotate_left
 ·rw [if_neg c9] at H
  have c9b0 : (Op.bytesLess a1.toList a0.toList) = false := by simpa using c9
  clear c9
  obtain rfl := Option.some.inj H
  go_enter Tryd.func113, Tryd.ntmps113
  go_wp2_with (first | (refine gl (some 8) Tryd.func140 #[.string a0] ?_; (with_reducible refine (cmp_isNaN_string.calls a0 false _ ?side1 A3.out).mono ?_); (case side1 => exact Glob.drawn HG.out (by repeat (first | exact Drawn0.refl _ | apply Drawn0.step))); rintro e w' ⟨rfl, ⟨nd, rfl⟩⟩; refine ⟨_, rfl, ?_⟩) | (refine gl (some 10) Tryd.func140 #[.string a1] ?_; (with_reducible refine (cmp_isNaN_string.calls a1 false _ ?side1 A4.out).mono ?_); (case side1 => exact Glob.drawn HG.out (by repeat (first | exact Drawn0.refl _ | apply Drawn0.step))); rintro e w' ⟨rfl, ⟨nd, rfl⟩⟩; refine ⟨_, rfl, ?_⟩))
  go_ret
  exact ⟨by first | rfl | (simp; done) | (simp [*]; done), by repeat (first | exact Drawn0.refl _ | apply Drawn0.step)⟩
 rw [if_pos c9] at H
 have c9b0 : (Op.bytesLess a1.toList a0.toList) = true := c9
 clear c9
 obtain rfl := Option.some.inj H
 go_enter Tryd.func113, Tryd.ntmps113
 go_wp2_with (first | (refine gl (some 8) Tryd.func140 #[.string a0] ?_; (with_reducible refine (cmp_isNaN_string.calls a0 false _ ?side1 A3.out).mono ?_); (case side1 => exact Glob.drawn HG.out (by repeat (first | exact Drawn0.refl _ | apply Drawn0.step))); rintro e w' ⟨rfl, ⟨nd, rfl⟩⟩; refine ⟨_, rfl, ?_⟩) | (refine gl (some 10) Tryd.func140 #[.string a1] ?_; (with_reducible refine (cmp_isNaN_string.calls a1 false _ ?side1 A4.out).mono ?_); (case side1 => exact Glob.drawn HG.out (by repeat (first | exact Drawn0.refl _ | apply Drawn0.step))); rintro e w' ⟨rfl, ⟨nd, rfl⟩⟩; refine ⟨_, rfl, ?_⟩))
 go_ret
 exact ⟨by first | rfl | (simp; done) | (simp [*]; done), by repeat (first | exact Drawn0.refl _ | apply Drawn0.step)⟩
end
def cmp_isNaN_int.f (a0 : Int) : Option (Bool) := some (a0 != a0)
theorem cmp_isNaN_int.calls (a0 : Int) (r : Bool) (w : World) (hG : Glob w) (h : cmp_isNaN_int.f a0 = some r) :
 Calls Tryd.prog 171 #[.int .i64 a0] w fun e w' => e = .returned (.bool r) ∧ Drawn0 w w' := by
 have HG := Aside0.mk hG
 clear hG
 have H : (some (a0 != a0)) = some r := h
 clear h
 obtain rfl := Option.some.inj H
 go_enter Tryd.func171, Tryd.ntmps171
 go_wp2
 go_ret
 exact ⟨by first | rfl | (simp; done) | (simp [*]; done), by repeat (first | exact Drawn0.refl _ | apply Drawn0.step)⟩
def cmp_Compare_int.f (a0 : Int) (a1 : Int) : Option (Int) := (cmp_isNaN_int.f a0).bind fun t314 => ((cmp_isNaN_int.f a1).bind fun t315 => (if t314 = true then (if t315 = true then (some 0) else (some (-1))) else (if t315 = true then (some 1) else (if a0 < a1 then (some (-1)) else (if a0 > a1 then (some 1) else (some 0))))))
theorem cmp_Compare_int.calls (a0 : Int) (a1 : Int) (r : Int) (w : World) (hG : Glob w) (h : cmp_Compare_int.f a0 a1 = some r) :
 Calls Tryd.prog 169 #[.int .i64 a0, .int .i64 a1] w fun e w' => e = .returned (.int .i64 r) ∧ Drawn0 w w' := by
 have HG := Aside0.mk hG
 clear hG
 have H : ((cmp_isNaN_int.f a0).bind fun t314 => ((cmp_isNaN_int.f a1).bind fun t315 => (if t314 = true then (if t315 = true then (some 0) else (some (-1))) else (if t315 = true then (some 1) else (if a0 < a1 then (some (-1)) else (if a0 > a1 then (some 1) else (some 0))))))) = some r := h
 clear h
 replace H := bi H
 obtain ⟨t314, A30, H⟩ := H
 try dsimp only at H
 have A3 := Aside0.mk A30
 clear A30
 replace H := bi H
 obtain ⟨t315, A40, H⟩ := H
 try dsimp only at H
 have A4 := Aside0.mk A40
 clear A40
 by_cases c5 : t314 = true
 ·subst c5
  replace H : (if t315 = true then (some 0) else (some (-1))) = some r := by rw [if_pos rfl] at H; exact H
  by_cases c6 : t315 = true
  ·subst c6
   replace H : (some 0) = some r := by rw [if_pos rfl] at H; exact H
   obtain rfl := Option.some.inj H
   go_enter Tryd.func169, Tryd.ntmps169
   go_wp2_with (first | (refine gl (some 8) Tryd.func171 #[.int .i64 a0] ?_; (with_reducible refine (cmp_isNaN_int.calls a0 true _ ?side1 A3.out).mono ?_); (case side1 => exact Glob.drawn HG.out (by repeat (first | exact Drawn0.refl _ | apply Drawn0.step))); rintro e w' ⟨rfl, ⟨nd, rfl⟩⟩; refine ⟨_, rfl, ?_⟩) | (refine gl (some 10) Tryd.func171 #[.int .i64 a1] ?_; (with_reducible refine (cmp_isNaN_int.calls a1 true _ ?side1 A4.out).mono ?_); (case side1 => exact Glob.drawn HG.out (by repeat (first | exact Drawn0.refl _ | apply Drawn0.step))); rintro e w' ⟨rfl, ⟨nd, rfl⟩⟩; refine ⟨_, rfl, ?_⟩))
   go_ret
   exact ⟨by first | rfl | (simp; done) | (simp [*]; done), by repeat (first | exact Drawn0.refl _ | apply Drawn0.step)⟩
  replace c6 := Bool.eq_false_iff.mpr c6
  subst c6
  replace H : (some (-1)) = some r := by rw [if_neg nF] at H; exact H
  obtain rfl := Option.some.inj H
  go_enter Tryd.func169, Tryd.ntmps169
  go_wp2_with (first | (refine gl (some 8) Tryd.func171 #[.int .i64 a0] ?_; (with_reducible refine (cmp_isNaN_int.calls a0 true _ ?side1 A3.out).mono ?_); (case side1 => exact Glob.drawn HG.out (by repeat (first | exact Drawn0.refl _ | apply Drawn0.step))); rintro e w' ⟨rfl, ⟨nd, rfl⟩⟩; refine ⟨_, rfl, ?_⟩) | (refine gl (some 10) Tryd.func171 #[.int .i64 a1] ?_; (with_reducible refine (cmp_isNaN_int.calls a1 false _ ?side1 A4.out).mono ?_); (case side1 => exact Glob.drawn HG.out (by repeat (first | exact Drawn0.refl _ | apply Drawn0.step))); rintro e w' ⟨rfl, ⟨nd, rfl⟩⟩; refine ⟨_, rfl, ?_⟩))
  go_ret
  exact ⟨by first | rfl | (simp; done) | (simp [*]; done), by repeat (first | exact Drawn0.refl _ | apply Drawn0.step)⟩
 replace c5 := Bool.eq_false_iff.mpr c5
 subst c5
 replace H : (if t315 = true then (some 1) else (if a0 < a1 then (some (-1)) else (if a0 > a1 then (some 1) else (some 0)))) = some r := by rw [if_neg nF] at H; exact H
 by_cases c7 : t315 = true
 ·subst c7
  replace H : (some 1) = some r := by rw [if_pos rfl] at H; exact H
  obtain rfl := Option.some.inj H
  go_enter Tryd.func169, Tryd.ntmps169
  go_wp2_with (first | (refine gl (some 8) Tryd.func171 #[.int .i64 a0] ?_; (with_reducible refine (cmp_isNaN_int.calls a0 false _ ?side1 A3.out).mono ?_); (case side1 => exact Glob.drawn HG.out (by repeat (first | exact Drawn0.refl _ | apply Drawn0.step))); rintro e w' ⟨rfl, ⟨nd, rfl⟩⟩; refine ⟨_, rfl, ?_⟩) | (refine gl (some 10) Tryd.func171 #[.int .i64 a1] ?_; (with_reducible refine (cmp_isNaN_int.calls a1 true _ ?side1 A4.out).mono ?_); (case side1 => exact Glob.drawn HG.out (by repeat (first | exact Drawn0.refl _ | apply Drawn0.step))); rintro e w' ⟨rfl, ⟨nd, rfl⟩⟩; refine ⟨_, rfl, ?_⟩))
  go_ret
  exact ⟨by first | rfl | (simp; done) | (simp [*]; done), by repeat (first | exact Drawn0.refl _ | apply Drawn0.step)⟩
 replace c7 := Bool.eq_false_iff.mpr c7
 subst c7
 replace H : (if a0 < a1 then (some (-1)) else (if a0 > a1 then (some 1) else (some 0))) = some r := by rw [if_neg nF] at H; exact H
 by_cases c8 : a0 < a1
 ·rw [if_pos c8] at H
  have c8b0 := dT c8
  clear c8
  obtain rfl := Option.some.inj H
  go_enter Tryd.func169, Tryd.ntmps169
  go_wp2_with (first | (refine gl (some 8) Tryd.func171 #[.int .i64 a0] ?_; (with_reducible refine (cmp_isNaN_int.calls a0 false _ ?side1 A3.out).mono ?_); (case side1 => exact Glob.drawn HG.out (by repeat (first | exact Drawn0.refl _ | apply Drawn0.step))); rintro e w' ⟨rfl, ⟨nd, rfl⟩⟩; refine ⟨_, rfl, ?_⟩) | (refine gl (some 10) Tryd.func171 #[.int .i64 a1] ?_; (with_reducible refine (cmp_isNaN_int.calls a1 false _ ?side1 A4.out).mono ?_); (case side1 => exact Glob.drawn HG.out (by repeat (first | exact Drawn0.refl _ | apply Drawn0.step))); rintro e w' ⟨rfl, ⟨nd, rfl⟩⟩; refine ⟨_, rfl, ?_⟩))
  go_ret
  exact ⟨by first | rfl | (simp; done) | (simp [*]; done), by repeat (first | exact Drawn0.refl _ | apply Drawn0.step)⟩
 rw [if_neg c8] at H
 have c8b0 := dF c8
 clear c8
 by_cases c9 : a0 > a1
 rotate_left
 ·rw [if_neg c9] at H
  have c9b0 := dF c9
  clear c9
  obtain rfl := Option.some.inj H
  go_enter Tryd.func169, Tryd.ntmps169
  go_wp2_with (first | (refine gl (some 8) Tryd.func171 #[.int .i64 a0] ?_; (with_reducible refine (cmp_isNaN_int.calls a0 false _ ?side1 A3.out).mono ?_); (case side1 => exact Glob.drawn HG.out (by repeat (first | exact Drawn0.refl _ | apply Drawn0.step))); rintro e w' ⟨rfl, ⟨nd, rfl⟩⟩; refine ⟨_, rfl, ?_⟩) | (refine gl (some 10) Tryd.func171 #[.int .i64 a1] ?_; (with_reducible refine (cmp_isNaN_int.calls a1 false _ ?side1 A4.out).mono ?_); (case side1 => exact Glob.drawn HG.out (by repeat (first | exact Drawn0.refl _ | apply Drawn0.step))); rintro e w' ⟨rfl, ⟨nd, rfl⟩⟩; refine ⟨_, rfl, ?_⟩))
  go_ret
  exact ⟨by first | rfl | (simp; done) | (simp [*]; done), by repeat (first | exact Drawn0.refl _ | apply Drawn0.step)⟩
 rw [if_pos c9] at H
 have c9b0 := dT c9
 clear c9
 obtain rfl := Option.some.inj H
 go_enter Tryd.func169, Tryd.ntmps169
 go_wp2_with (first | (refine gl (some 8) Tryd.func171 #[.int .i64 a0] ?_; (with_reducible refine (cmp_isNaN_int.calls a0 false _ ?side1 A3.out).mono ?_); (case side1 => exact Glob.drawn HG.out (by repeat (first | exact Drawn0.refl _ | apply Drawn0.step))); rintro e w' ⟨rfl, ⟨nd, rfl⟩⟩; refine ⟨_, rfl, ?_⟩) | (refine gl (some 10) Tryd.func171 #[.int .i64 a1] ?_; (with_reducible refine (cmp_isNaN_int.calls a1 false _ ?side1 A4.out).mono ?_); (case side1 => exact Glob.drawn HG.out (by repeat (first | exact Drawn0.refl _ | apply Drawn0.step))); rintro e w' ⟨rfl, ⟨nd, rfl⟩⟩; refine ⟨_, rfl, ?_⟩))
 go_ret
 exact ⟨by first | rfl | (simp; done) | (simp [*]; done), by repeat (first | exact Drawn0.refl _ | apply Drawn0.step)⟩
def order_word.j0 : Nat → Bool → Int → ByteArray → Int → ByteArray → Option (Int)
 | 0, _, _, _, _, _ => none
 | k + 1, x23, x320000, x320001, x321000, x321001 => if x23 = true then ((cmp_Compare_int.f (x320001.size : Int) (x321001.size : Int)).bind fun t323 => ((cmp_Compare_string.f x320001 x321001).bind fun t324 => ((cmp_Or_int.f k (([t323, t324] : List Int))).bind fun t328 => (some t328)))) else (some 0)
def order_word.f (k : Nat) (a0_0 : Int) (a0_1 : ByteArray) (a1_0 : Int) (a1_1 : ByteArray) : Option (Int) := (cmp_Compare_int.f a0_0 a1_0).bind fun t321 => (if t321 = 0 then (if a0_0 = 8 then ((cmp_Compare_string.f a0_1 a1_1).bind fun t322 => (some t322)) else (if a0_0 = 9 then (order_word.j0 k (a0_0 == 9) a0_0 a0_1 a1_0 a1_1) else (order_word.j0 k (a0_0 == 10) a0_0 a0_1 a1_0 a1_1))) else (some t321))
def order_word.T9 : Bool × List (List Nat × List Nat) := (true, [([], []), ([0], [0]), ([1], [1]), ([], []), ([3], [3]), ([4], [4]), ([2, 5], [2, 5]), ([], []), ([7], [7]), ([], []), ([9], [9]), ([8, 10, 6], [8, 10]), ([6, 11], [6, 11]), ([12, 11], [12]), ([13, 13, 0, 1, 2, 3, 4, 5, 6, 7, 8, 9, 10, 11, 12, 13], [13])])
def order_word.B9 : List Nat := [0, 1, 3, 0, 8, 24, 63, 0, 128, 0, 512, 2047, 4095, 8191, 16383]
theorem order_word.tab9 : rtab .any (opsOf Tryd.f161 9) = order_word.T9 := by kernel_rfl
theorem order_word.bits9 : waitsOk order_word.T9.2 order_word.B9 = true := by kernel_rfl
theorem order_word.calls (k : Nat) (a0_0 : Int) (a0_1 : ByteArray) (a1_0 : Int) (a1_1 : ByteArray) (r : Int) (w : World) (hG : Glob w) (h : order_word.f k a0_0 a0_1 a1_0 a1_1 = some r) :
 Calls Tryd.prog 161 #[.agg #[.int .i64 a0_0, .string a0_1], .agg #[.int .i64 a1_0, .string a1_1]] w fun e w' => e = .returned (.int .i64 r) ∧ Below w.heap.size w w' := by
 have hu38 := Tryd.underlying38
 have HG := Aside0.mk hG
 clear hG
 have HB := Aside0.mk (Below.refl w.heap.size w)
 have H : ((cmp_Compare_int.f a0_0 a1_0).bind fun t321 => (if t321 = 0 then (if a0_0 = 8 then ((cmp_Compare_string.f a0_1 a1_1).bind fun t322 => (some t322)) else (if a0_0 = 9 then (order_word.j0 k (a0_0 == 9) a0_0 a0_1 a1_0 a1_1) else (order_word.j0 k (a0_0 == 10) a0_0 a0_1 a1_0 a1_1))) else (some t321))) = some r := h
 clear h
 replace H := bi H
 obtain ⟨t321, A30, H⟩ := H
 try dsimp only at H
 have A3 := Aside0.mk A30
 clear A30
 by_cases c4 : t321 = 0
 rotate_left
 ·rw [if_neg c4] at H
  obtain ⟨c4b0, c4b1⟩ := eqF c4
  obtain rfl := Option.some.inj H
  go_enter Tryd.func161, Tryd.ntmps161
  go_wp2_with (first | (refine be 2 #[.int .i64 a0_0, .string a0_1] 38 ?_; intro gb319 hg w27 hbox hb; have BK319 := Aside0.mk (hbox); have GW319 := gW hg; have GE319 := gW hg; replace HB := sB hb; clear hb hbox hg) | (refine be 3 #[.int .i64 a1_0, .string a1_1] 38 ?_; intro gb320 hg w28 hbox hb; have BK320 := Aside0.mk (hbox); have GW320 := gW hg; have GE320 := gW hg; replace HB := sB hb; have NB319_320 := nL BK319 hg; have NB320_319 := nG BK319 hg; replace BK319 := kB BK319 hb; clear hb hbox hg; have hnb29 := NB319_320.out; have hnc29 := NB320_319.out; have hcz30_0 : w28.cell? ⟨gb319, 0, none⟩ = some (.int .i64 a0_0) := (blk_cell BK319.out 0).trans rfl; have hcz30_1 : w28.cell? ⟨gb319, 1, none⟩ = some (.string a0_1) := (blk_cell BK319.out 1).trans rfl; have hfz30_0 := blk_frozen BK319.out 0; have hfz30_1 := blk_frozen BK319.out 1; have hcz31_0 : w28.cell? ⟨gb320, 0, none⟩ = some (.int .i64 a1_0) := (blk_cell BK320.out 0).trans rfl; have hcz31_1 : w28.cell? ⟨gb320, 1, none⟩ = some (.string a1_1) := (blk_cell BK320.out 1).trans rfl; have hfz31_0 := blk_frozen BK320.out 0; have hfz31_1 := blk_frozen BK320.out 1) | (refine gl (some 10) Tryd.func169 #[.int .i64 a0_0, .int .i64 a1_0] ?_; (with_reducible refine (cmp_Compare_int.calls a0_0 a1_0 t321 _ (gS HG) A3.out).mono ?_); rintro e w' ⟨rfl, ⟨nd, rfl⟩⟩; refine ⟨_, rfl, ?_⟩))
  go_ret
  exact ⟨eA, bG⟩
 rw [if_pos c4] at H
 obtain ⟨c4b0, c4b1⟩ := eqT c4
 clear c4
 by_cases c5 : a0_0 = 8
 ·rw [if_pos c5] at H
  obtain ⟨c5b0, c5b1⟩ := eqT c5
  clear c5
  replace H := bi H
  obtain ⟨t322, A60, H⟩ := H
  try dsimp only at H
  have A6 := Aside0.mk A60
  clear A60
  obtain rfl := Option.some.inj H
  go_enter Tryd.func161, Tryd.ntmps161
  go_wp2_with (first | (refine be 2 #[.int .i64 a0_0, .string a0_1] 38 ?_; intro gb319 hg w7 hbox hb; have BK319 := Aside0.mk (hbox); have GW319 := gW hg; have GE319 := gW hg; replace HB := sB hb; clear hb hbox hg) | (refine be 3 #[.int .i64 a1_0, .string a1_1] 38 ?_; intro gb320 hg w8 hbox hb; have BK320 := Aside0.mk (hbox); have GW320 := gW hg; have GE320 := gW hg; replace HB := sB hb; have NB319_320 := nL BK319 hg; have NB320_319 := nG BK319 hg; replace BK319 := kB BK319 hb; clear hb hbox hg; have hnb9 := NB319_320.out; have hnc9 := NB320_319.out; have hcz10_0 : w8.cell? ⟨gb319, 0, none⟩ = some (.int .i64 a0_0) := (blk_cell BK319.out 0).trans rfl; have hcz10_1 : w8.cell? ⟨gb319, 1, none⟩ = some (.string a0_1) := (blk_cell BK319.out 1).trans rfl; have hfz10_0 := blk_frozen BK319.out 0; have hfz10_1 := blk_frozen BK319.out 1; have hcz11_0 : w8.cell? ⟨gb320, 0, none⟩ = some (.int .i64 a1_0) := (blk_cell BK320.out 0).trans rfl; have hcz11_1 : w8.cell? ⟨gb320, 1, none⟩ = some (.string a1_1) := (blk_cell BK320.out 1).trans rfl; have hfz11_0 := blk_frozen BK320.out 0; have hfz11_1 := blk_frozen BK320.out 1) | (refine gl (some 10) Tryd.func169 #[.int .i64 a0_0, .int .i64 a1_0] ?_; (with_reducible refine (cmp_Compare_int.calls a0_0 a1_0 t321 _ (gS HG) A3.out).mono ?_); rintro e w' ⟨rfl, ⟨nd, rfl⟩⟩; refine ⟨_, rfl, ?_⟩) | (refine gl (some 22) Tryd.func113 #[.string a0_1, .string a1_1] ?_; (with_reducible refine (cmp_Compare_string.calls a0_1 a1_1 t322 _ (gS HG) A6.out).mono ?_); rintro e w' ⟨rfl, ⟨nd, rfl⟩⟩; refine ⟨_, rfl, ?_⟩))
  go_ret
  exact ⟨eA, bG⟩
 rw [if_neg c5] at H
 obtain ⟨c5b0, c5b1⟩ := eqF c5
 have HC12 := Aside0.mk H
 clear H
 go_enter Tryd.func161, Tryd.ntmps161
 go_upto_if 23 with (first | (refine be 2 #[.int .i64 a0_0, .string a0_1] 38 ?_; intro gb319 hg w13 hbox hb; have BK319 := Aside0.mk (hbox); have GW319 := gW hg; have GE319 := gW hg; replace HB := sB hb; clear hb hbox hg) | (refine be 3 #[.int .i64 a1_0, .string a1_1] 38 ?_; intro gb320 hg w14 hbox hb; have BK320 := Aside0.mk (hbox); have GW320 := gW hg; have GE320 := gW hg; replace HB := sB hb; have NB319_320 := nL BK319 hg; have NB320_319 := nG BK319 hg; replace BK319 := kB BK319 hb; clear hb hbox hg; have hnb15 := NB319_320.out; have hnc15 := NB320_319.out; have hcz16_0 : w14.cell? ⟨gb319, 0, none⟩ = some (.int .i64 a0_0) := (blk_cell BK319.out 0).trans rfl; have hcz16_1 : w14.cell? ⟨gb319, 1, none⟩ = some (.string a0_1) := (blk_cell BK319.out 1).trans rfl; have hfz16_0 := blk_frozen BK319.out 0; have hfz16_1 := blk_frozen BK319.out 1; have hcz17_0 : w14.cell? ⟨gb320, 0, none⟩ = some (.int .i64 a1_0) := (blk_cell BK320.out 0).trans rfl; have hcz17_1 : w14.cell? ⟨gb320, 1, none⟩ = some (.string a1_1) := (blk_cell BK320.out 1).trans rfl; have hfz17_0 := blk_frozen BK320.out 0; have hfz17_1 := blk_frozen BK320.out 1) | (refine gl (some 10) Tryd.func169 #[.int .i64 a0_0, .int .i64 a1_0] ?_; (with_reducible refine (cmp_Compare_int.calls a0_0 a1_0 t321 _ (gS HG) A3.out).mono ?_); rintro e w' ⟨rfl, ⟨nd, rfl⟩⟩; refine ⟨_, rfl, ?_⟩))
 (try simp only [Act.put, List.setIfInBounds_toArray, List.set_cons_zero, List.set_cons_succ])
 go_cut [23] (fun v23 wc => ∃ (kq : Nat) (x23_11 : Bool), v23 = .bool x23_11 ∧ Aside0 (order_word.j0 kq x23_11 a0_0 a0_1 a1_0 a1_1 = some r) ∧ Aside0 (kq ≤ k) ∧ Aside0 (wc.heap[gb319]? = some (.cells #[.int .i64 a0_0, .string a0_1] 38 (0, 0))) ∧ Aside0 (wc.heap[gb320]? = some (.cells #[.int .i64 a1_0, .string a1_1] 38 (0, 0))) ∧ Aside0 (Below w.heap.size w wc))
 case first =>
  have H := HC12.out
  clear HC12
  by_cases c18 : a0_0 = 9
  rotate_left
  ·rw [if_neg c18] at H
   obtain ⟨c18b0, c18b1⟩ := eqF c18
   (first | rw [c18b0] | (simp only [i64_w, i32_w]; rw [c18b0]) | skip)
   have H' := Aside0.mk H
   clear H
   go_wp2
   go_meet
   case rel => exact ⟨_, ((a0_0 == 10)), cA, H', ⟨by first | omega | exact Nat.le_refl _⟩, ⟨bK BK319⟩, ⟨bK BK320⟩, ⟨bG⟩⟩
  rw [if_pos c18] at H
  obtain ⟨c18b0, c18b1⟩ := eqT c18
  clear c18
  (first | rw [c18b0] | (simp only [i64_w, i32_w]; rw [c18b0]) | skip)
  have H' := Aside0.mk H
  clear H
  go_wp2
  go_meet
  case rel => exact ⟨_, ((a0_0 == 9)), cA, H', ⟨by first | omega | exact Nat.le_refl _⟩, ⟨bK BK319⟩, ⟨bK BK320⟩, ⟨bG⟩⟩
 clear HC12
 try clear c1
 try clear p2
 try clear c4
 try clear c4b0
 try clear c4b1
 try clear c5
 try clear c5b0
 try clear c5b1
 try clear c9
 try clear c11
 try clear c15
 try clear c16
 try clear c18
 try clear c18b0
 try clear c18b1
 try clear hcz10_0
 try clear hcz10_1
 try clear hcz11_0
 try clear hcz11_1
 try clear hcz16_0
 try clear hcz16_1
 try clear hcz17_0
 try clear hcz17_1
 try clear hfz10_0
 try clear hfz10_1
 try clear hfz11_0
 try clear hfz11_1
 try clear hfz16_0
 try clear hfz16_1
 try clear hfz17_0
 try clear hfz17_1
 obtain ⟨kq, x23_11, rfl, HA, HJ11, BK319, BK320, HB⟩ := hcut
 cases kq with
 | zero => exact absurd HA.out (by simp [order_word.j0])
 | succ kj11 =>
  have H := HA.out
  clear HA
  simp only [order_word.j0] at H
  by_cases c19 : x23_11 = true
  rotate_left
  ·replace c19 := Bool.eq_false_iff.mpr c19
   subst c19
   replace H : (some 0) = some r := by rw [if_neg nF] at H; exact H
   obtain rfl := Option.some.inj H
   go_wp2
   go_ret
   exact ⟨eA, bG⟩
  subst c19
  replace H : ((cmp_Compare_int.f (a0_1.size : Int) (a1_1.size : Int)).bind fun t323 => ((cmp_Compare_string.f a0_1 a1_1).bind fun t324 => ((cmp_Or_int.f kj11 (([t323, t324] : List Int))).bind fun t328 => (some t328)))) = some r := by rw [if_pos rfl] at H; exact H
  replace H := bi H
  obtain ⟨t323, A200, H⟩ := H
  try dsimp only at H
  have A20 := Aside0.mk A200
  clear A200
  replace H := bi H
  obtain ⟨t324, A210, H⟩ := H
  try dsimp only at H
  have A21 := Aside0.mk A210
  clear A210
  obtain ⟨y325, hy325⟩ : ∃ y_ : List Int, y_ = (([t323, t324] : List Int)) := ⟨_, rfl⟩
  replace H : ((cmp_Or_int.f kj11 y325).bind fun t328 => (some t328)) = some r := by first | (rw [hy325]; with_reducible exact H) | (have H2_ := (Option.bind_some _ _).symm.trans H; rw [hy325]; with_reducible exact H2_) | (have H2_ := (Option.bind_some _ _).symm.trans H; with_reducible exact H2_) | with_reducible exact H | (rw [hy325]; exact H) | exact H
  have Ny325 := Aside0.mk hy325
  clear hy325
  replace H := bi H
  obtain ⟨t328, A220, H⟩ := H
  try dsimp only at H
  have A22 := Aside0.mk A220
  clear A220
  obtain rfl := Option.some.inj H
  try go_wp2
  replace BK319 := Aside0.mk (blk_drew BK319.out)
  replace BK320 := Aside0.mk (blk_drew BK320.out)
  replace HB := Aside0.mk (below_drew1 HB.out)
  refine start_ (n := 15) (S := fun w' => w'.cell? ⟨gb319, 0, none⟩ = some (.int .i64 a0_0) ∧ w'.cell? ⟨gb319, 1, none⟩ = some (.string a0_1) ∧ w'.cell? ⟨gb320, 0, none⟩ = some (.int .i64 a1_0) ∧ w'.cell? ⟨gb320, 1, none⟩ = some (.string a1_1)) (ds := []) #[false, false, false, false, false, false, false, false, false, false, false, false, false, false, false] (by kernel_rfl) rfl rfl ⟨(blk_cell BK319.out 0).trans rfl, (blk_cell BK319.out 1).trans rfl, (blk_cell BK320.out 0).trans rfl, (blk_cell BK320.out 1).trans rfl⟩ (fun hHeld => ?_); refine with_tabW order_word.tab9 order_word.bits9 (fun HT_ HW_ => ?_)
  generalize wc.drew = w23 at BK319 BK320 HB hHeld ⊢
  refine pz 0 (some 26) HT_ ?_
  refine pz 3 (some 29) HT_ ?_
  refine pz 7 (some 33) HT_ ?_
  refine pz 9 (some 35) HT_ ?_
  refine tm 1 (some 27) HT_ HW_ hHeld ?_
  refine pz 2 (some 28) HT_ ?_
  refine tm 4 (some 30) HT_ HW_ hHeld ?_
  refine pz 5 (some 31) HT_ ?_
  refine tm 8 (some 34) HT_ HW_ hHeld ?_
  refine tm 10 (some 36) HT_ HW_ hHeld ?_
  refine on 6 (some 32) HT_ (fun K hK => ?_)
  refine goes_ Tryd.func169 (by kernel_rfl) rfl #[.int .i64 (a0_1.size : Int), .int .i64 (a1_1.size : Int)] (by rfl) rfl rfl mA ?_
  with_reducible refine (cmp_Compare_int.calls (a0_1.size : Int) (a1_1.size : Int) t323 _ (gS HG) A20.out).mono ?_
  rintro e w' ⟨rfl, ⟨nd, rfl⟩⟩
  refine ⟨_, rfl, ?_⟩
  refine hK.out _ _ ⟨(blk_cell BK319.out 0).trans rfl, (blk_cell BK319.out 1).trans rfl, (blk_cell BK320.out 0).trans rfl, (blk_cell BK320.out 1).trans rfl⟩ (fun hHeld => ?_)
  clear hK K
  refine nz (some 32) ?_
  refine on 11 (some 37) HT_ (fun K hK => ?_)
  refine goes_ Tryd.func113 (by kernel_rfl) rfl #[.string a0_1, .string a1_1] (by rfl) rfl rfl mA ?_
  with_reducible refine (cmp_Compare_string.calls a0_1 a1_1 t324 _ (gS HG) A21.out).mono ?_
  rintro e w' ⟨rfl, ⟨nd, rfl⟩⟩
  refine ⟨_, rfl, ?_⟩
  refine hK.out _ _ ⟨(blk_cell BK319.out 0).trans rfl, (blk_cell BK319.out 1).trans rfl, (blk_cell BK320.out 0).trans rfl, (blk_cell BK320.out 1).trans rfl⟩ (fun hHeld => ?_)
  clear hK K
  refine nz (some 37) ?_
  refine on 12 (some 38) HT_ (fun K hK => ?_)
  refine Kd.R_lit_step (Kd.int .i64) _ 3 ?hg (N := 38) ?hd (xs := ([t323, t324] : List Int)) (inner := [.int .i64 t323, .int .i64 t324]) (ok := fun _ => True) (okp := fun _ => True) ?hr ?hp (fun _ hk => hk) trivial (Below.refl _ _) (Nat.le_refl _) (by simp) ?_; (case hd => rfl); (case hg => rfl); (case hr => first | (go_simp; done) | (go_simp; rfl)); (case hp => exact (Reps.one (show Kd.M (Kd.int .i64) _ _ _ t323 [.int .i64 t323] from rfl) (Reps.one (show Kd.M (Kd.int .i64) _ _ _ t324 [.int .i64 t324] from rfl) (Reps.none _ _))))
  intro v326 w24 ho25 hb hg_ hnew_
  clear hg_ hnew_
  (first | rw [← Ny325.out] at ho25 | (simp only [Int.reduceToNat] at ho25; rw [← Ny325.out] at ho25))
  have HO327 := Aside0.mk (Kd.R_lower ho25 (below_size bG))
  replace BK319 := kB BK319 hb
  replace BK320 := kB BK320 hb
  replace HB := sB hb
  clear hb ho25
  obtain ⟨Ao26, co26, eo26⟩ := Kd.R_slice HO327.out
  (first | subst eo26 | (injection eo26 with f1_ f2_ f3_; have f4_ := f1_.symm; have f5_ := f3_.symm; clear f1_ f2_ f3_; subst f4_; subst f5_))
  refine hK.out _ _ ⟨(blk_cell BK319.out 0).trans rfl, (blk_cell BK319.out 1).trans rfl, (blk_cell BK320.out 0).trans rfl, (blk_cell BK320.out 1).trans rfl⟩ (fun hHeld => ?_)
  clear hK K
  refine nz (some 38) ?_
  refine on 13 (some 39) HT_ (fun K hK => ?_)
  refine goes_ Tryd.func112 (by kernel_rfl) rfl #[.slice Ao26 y325.length co26] (by rfl) rfl rfl mA ?_
  with_reducible refine (cmp_Or_int.calls kj11 _ _ y325 t328 _ ?side1 ?side2 (gS HG) A22.out).mono ?_
  (case side1 => repeat (first | exact (Kd.R_reads' HO327.out).2.2 | (with_reducible refine Kd.C_alloc ?_ _) | (with_reducible refine Kd.C_drewN ?_ _) | (with_reducible refine Kd.C_drew ?_)))
  (case side2 => exact (Kd.R_reads' HO327.out).2.1)
  rintro e w' ⟨rfl, ⟨nd, rfl⟩⟩
  refine ⟨_, rfl, ?_⟩
  refine hK.out _ _ ⟨(blk_cell BK319.out 0).trans rfl, (blk_cell BK319.out 1).trans rfl, (blk_cell BK320.out 0).trans rfl, (blk_cell BK320.out 1).trans rfl⟩ (fun hHeld => ?_)
  clear hK K
  refine nz (some 39) ?_
  refine pz 14 (some 4) HT_ ?_
  refine done_ (done_of HT_.out (by kernel_rfl)) ?_
  try go_wp2
  go_ret
  exact ⟨eA, bG⟩
def order_at.f (l0 : List (S38)) (a1 : Int) : Option (Int × ByteArray) := if a1 < (l0.length : Int) then (if 0 ≤ a1 then (some ((rd_T38 l0 a1).f0, (rd_T38 l0 a1).f1)) else (none)) else (some (6, (⟨#[]⟩ : ByteArray)))
theorem order_at.calls (A0 : Option Addr) (c0 : Nat) (l0 : List (S38)) (a1 : Int) (r1 : Int) (r2 : ByteArray) (w : World) (hr0 : Kd.C k38 w A0 l0.length l0) (hc0 : l0.length ≤ c0) (hG : Glob w) (h : order_at.f l0 a1 = some (r1, r2)) :
 Calls Tryd.prog 162 #[.slice A0 l0.length c0, .int .i64 a1] w fun e w' => e = .returned (.agg #[.int .i64 r1, .string r2]) ∧ Below w.heap.size w w' := by
 have hu38 := Tryd.underlying38
 have HG := Aside0.mk hG
 clear hG
 have HR0 := Aside0.mk hr0
 have HC0 := Aside0.mk hc0
 clear hr0 hc0
 have HB := Aside0.mk (Below.refl w.heap.size w)
 have H : (if a1 < (l0.length : Int) then (if 0 ≤ a1 then (some ((rd_T38 l0 a1).f0, (rd_T38 l0 a1).f1)) else (none)) else (some (6, (⟨#[]⟩ : ByteArray)))) = some (r1, r2) := h
 clear h
 by_cases c3 : a1 < (l0.length : Int)
 rotate_left
 ·rw [if_neg c3] at H
  have c3b0 := dF c3
  clear c3
  simp only [Option.some.injEq, Prod.mk.injEq] at H
  obtain ⟨rfl, rfl⟩ := H
  go_enter Tryd.func162, Tryd.ntmps162
  go_wp2_with (first | (refine be 4 #[.int .i64 0, .string (⟨#[]⟩ : ByteArray)] 38 ?_; intro gb312 hg w7 hbox hb; have BK312 := Aside0.mk (hbox); have GW312 := gW hg; have GE312 := gW hg; replace HB := sB hb; clear hb hbox hg; have hcz8_0 : w7.cell? ⟨gb312, 0, none⟩ = some (.int .i64 0) := (blk_cell BK312.out 0).trans rfl; have hcz8_1 : w7.cell? ⟨gb312, 1, none⟩ = some (.string (⟨#[]⟩ : ByteArray)) := (blk_cell BK312.out 1).trans rfl; have hfz8_0 := blk_frozen BK312.out 0; have hfz8_1 := blk_frozen BK312.out 1))
  refine bodyPost_ret (results_cell_row rfl _ _ gb312 38 #[.int .i64 6, .string (⟨#[]⟩ : ByteArray)] (0, 0) _ rfl (bP BK312) Tryd.underlying38 rfl (by kernel_rfl)) rfl ?_
  exact ⟨eA, bG⟩
 rw [if_pos c3] at H
 have c3b0 := dT c3
 clear c3
 obtain ⟨c4, H⟩ := gp H
 have c4b0 := dT c4
 clear c4
 simp only [Option.some.injEq, Prod.mk.injEq] at H
 obtain ⟨rfl, rfl⟩ := H
 go_enter Tryd.func162, Tryd.ntmps162
 go_wp2_with (first | (refine be 4 #[.int .i64 0, .string (⟨#[]⟩ : ByteArray)] 38 ?_; intro gb312 hg w5 hbox hb; have BK312 := Aside0.mk (hbox); have GW312 := gW hg; have GE312 := gW hg; replace HB := sB hb; clear hb hbox hg; have p313 : 0 ≤ (a1 : Int) := dA; have q313 : a1 < (l0.length : Int) := dA; obtain ⟨ad313, e313, hx313_0, hx313_1⟩ := at_T38 HR0.out a1 p313 q313; cases e313; replace hx313_0 := (HB.out.cell (World.block_lt_of_cell? w _ hx313_0)).trans hx313_0; replace hx313_1 := (HB.out.cell (World.block_lt_of_cell? w _ hx313_1)).trans hx313_1; replace p313 := eq_true p313; replace q313 := eq_true q313; have hcz6_0 : w5.cell? ⟨gb312, 0, none⟩ = some (.int .i64 0) := (blk_cell BK312.out 0).trans rfl; have hcz6_1 : w5.cell? ⟨gb312, 1, none⟩ = some (.string (⟨#[]⟩ : ByteArray)) := (blk_cell BK312.out 1).trans rfl; have hfz6_0 := blk_frozen BK312.out 0; have hfz6_1 := blk_frozen BK312.out 1))
 refine bodyPost_ret (results_cell_row rfl _ _ gb312 38 #[.int .i64 ((rd_T38 l0 a1).f0), .string ((rd_T38 l0 a1).f1)] (0, 0) _ rfl (bP BK312) Tryd.underlying38 rfl (by kernel_rfl)) rfl ?_
 exact ⟨eA, bG⟩
end Go.Proofs.YtgdjfcmmpjcaaaaDoor.Q
