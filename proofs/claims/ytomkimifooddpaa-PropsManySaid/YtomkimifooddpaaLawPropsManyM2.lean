/- Texts put together: what functions of the program compute, and plain words about them. -/
import Derived.Test.YtomkimifooddpaaLawPropsManyM1
import Derived.Shelf.Strings.Builder1
import Derived.Shelf.Strings.Builder2
import Derived.Shelf.Strings.OnBuilder
import Derived.Shelf.Small.Utf8
import Derived.Shelf.Small.Strs
import Derived.Shelf.Strings.BuilderF
import Derived.Shelf.Strings.BuilderK
import Derived.Shelf.Strings.Builder2Cap
import Derived.Shelf.Strings.Search1
import Derived.Shelf.Strings.Search2
import Derived.Shelf.Strings.Search3
import Derived.Shelf.Strings.Cut
import Derived.Shelf.LaysM
import Derived.Shelf.Strings.Shaped
import Derived.Shelf.Strings.Runes
import Derived.Shelf.Strings.IndexAny
import Derived.Shelf.Strings.AsciiSet
import Derived.Shelf.Strings.IndexAnyAll
import Derived.Shelf.Strings.BuilderCap
import Derived.Test.YtomkimifooddpaaProg
import Derived.Lib.OthersKept
import Derived.Lib.Hide
import Derived.LoopN
import Derived.Lib.IndexAny
import Derived.Lib.IndexBytes
import Derived.Laws.RangeString
import Derived.Laws.Strings3
import Derived.Laws.Runes
import Derived.Lib.DecodeN
import Derived.Below
import Derived.Deep.Draws
import Derived.Deep.AppendLies
import Derived.Maps.AppendAt
import Derived.OwnWalk
import Derived.Laws.BytesArg
import Derived.Laws.MakeOwn
import Derived.Laws.OwnMore
import Derived.Deep.OwnRows
import Derived.Tactics
import Derived.Lib.ConvBytes
import Derived.Laws.Slices
import Derived.WalkKit
import Derived.KernelRfl
import Derived.RowKit3
import Derived.Deep.LoopGhost
import Derived.Deep.QuietTactic
import Derived.BigQuiet
import Derived.WideLaws
import Derived.Deep.DeepCutAuto
import Derived.Deep.CutBlock
import Derived.Deep.RegionHeld3
import Derived.Laws.Rows
import Derived.Lib.AppendStr
import Derived.ArgAppend
import Derived.Laws.IdiomCopy
import Derived.OrdersHeld
import Derived.Laws.BitsLemmas
import Derived.RowKit
import Derived.Maps.OwnSet
import Derived.Maps.StringElems
import Derived.StillTailTactics
import Derived.Outline
import Derived.Deep.RegionLaw
import Derived.Deep.Cut
namespace Go.Proofs.Ytomkimifooddpaa.Q
open Go.RowKit Go.Proofs.YtomkimifooddpaaW.PrintWords Go.Proofs.YtomkimifooddpaaW.PrintLast Go.Proofs.YtomkimifooddpaaW.Own Go.Proofs.YtomkimifooddpaaW.PrintMore
attribute [local go_sem] max2_int min2_int max_two min_two max_three min_three max_four min_four   -- for this text's walks alone
set_option linter.unusedVariables false
set_option linter.unusedSimpArgs false
set_option maxHeartbeats 20000000
set_option maxRecDepth 100000
def newellaw16_name.f (a0 : ByteArray) : Option (ByteArray) := if 2 + a0.size ≤ 9223372036854775807 then (if ((⟨#[36, 123]⟩ : ByteArray) ++ a0).size + 1 ≤ 9223372036854775807 then (some (((⟨#[36, 123]⟩ : ByteArray) ++ a0) ++ (⟨#[125]⟩ : ByteArray))) else (none)) else (none)
theorem newellaw16_name.calls (a0 : ByteArray) (r : ByteArray) (w : World) (hG : Glob w) (h : newellaw16_name.f a0 = some r) :
 Calls Try.prog 10 #[.string a0] w fun e w' => e = .returned (.string r) ∧ Drawn0 w w' := by
 have HG := Aside0.mk hG
 clear hG
 have H : (if 2 + a0.size ≤ 9223372036854775807 then (if ((⟨#[36, 123]⟩ : ByteArray) ++ a0).size + 1 ≤ 9223372036854775807 then (some (((⟨#[36, 123]⟩ : ByteArray) ++ a0) ++ (⟨#[125]⟩ : ByteArray))) else (none)) else (none)) = some r := h
 clear h
 by_cases c2 : 2 + a0.size ≤ 9223372036854775807
 rotate_left
 ·rw [if_neg c2] at H
  exact absurd H (by simp)
 rw [if_pos c2] at H
 have c2b0 := eq_true c2
 have c2b1 := dT c2
 try have c2b2 : (9223372036854775807 < 2 + a0.size) = False := eq_false (Nat.not_lt.2 c2)
 by_cases c3 : ((⟨#[36, 123]⟩ : ByteArray) ++ a0).size + 1 ≤ 9223372036854775807
 rotate_left
 ·rw [if_neg c3] at H
  exact absurd H (by simp)
 rw [if_pos c3] at H
 have c3b0 := eq_true c3
 have c3b1 := dT c3
 try have c3b2 : (9223372036854775807 < ((⟨#[36, 123]⟩ : ByteArray) ++ a0).size + 1) = False := eq_false (Nat.not_lt.2 c3)
 have c3n : (2 + a0.size) + 1 ≤ 9223372036854775807 := by have z_ := c3; simp only [ByteArray.size_append] at z_; exact z_
 have c3m : (9223372036854775807 < (2 + a0.size) + 1) = False := eq_false (Nat.not_lt.2 c3n)
 clear c3 c3b0 c3b1
 try clear c3b2
 obtain rfl := Option.some.inj H
 go_enter Try.func10, Try.ntmps10
 go_wp2
 go_ret
 exact ⟨by first | rfl | (simp; done) | (simp [*]; done), by repeat (first | exact Drawn0.refl _ | apply Drawn0.step)⟩
end Go.Proofs.Ytomkimifooddpaa.Q
namespace Go.Proofs
open Go.Shelf
def Try.lays156_ren : Go.Shelf.Ren := ⟨fun | 156 => 46 | 165 => 54 | 166 => 55 | 169 => 56 | 240 => 63 | 241 => 64 | 276 => 72 | 277 => 73 | n => n, fun | 31 => 69 | 9 => 9 | 3 => 3 | 4 => 4 | 0 => 0 | 20 => 20 | 72 => 98 | 76 => 102 | 70 => 96 | 37 => 47 | 75 => 101 | 127 => 111 | 164 => 116 | 5 => 5 | 80 => 104 | n => n, fun | n => n⟩
theorem Try.lays156 : Go.Proofs.Lays.n156 Try.prog Try.lays156_ren := {
  mixed := by kernel_rfl
  f156 := Try.func46.trans (congrArg some (by kernel_rfl))
  f165 := Try.func54.trans (congrArg some (by kernel_rfl))
  f166 := Try.func55.trans (congrArg some (by kernel_rfl))
  f169 := Try.func56.trans (congrArg some (by kernel_rfl))
  f240 := Try.func63.trans (congrArg some (by kernel_rfl))
  f241 := Try.func64.trans (congrArg some (by kernel_rfl))
  f276 := Try.func72.trans (congrArg some (by kernel_rfl))
  f277 := Try.func73.trans (congrArg some (by kernel_rfl))
  t0 := Try.underlying0
  a0 := Try.isAgg0
  z0 := Try.sizeOf0
  v0 := Try.zeroValue0
  t3 := Try.underlying3
  a3 := Try.isAgg3
  z3 := Try.sizeOf3
  v3 := Try.zeroValue3
  t4 := Try.underlying4
  a4 := Try.isAgg4
  z4 := Try.sizeOf4
  v4 := Try.zeroValue4
  t9 := Try.underlying9
  a9 := Try.isAgg9
  z9 := Try.sizeOf9
  v9 := Try.zeroValue9
  t20 := Try.underlying20
  a20 := Try.isAgg20
  z20 := Try.sizeOf20
  v20 := Try.zeroValue20
  t31 := Try.underlying69
  a31 := Try.isAgg69
  z31 := Try.sizeOf69
  v31 := Try.zeroValue69
  t37 := Try.underlying47
  a37 := Try.isAgg47
  z37 := Try.sizeOf47
  v37 := Try.zeroValue47
  t70 := Try.underlying96
  a70 := Try.isAgg96
  z70 := Try.sizeOf96
  v70 := Try.zeroValue96
  t72 := Try.underlying98
  a72 := Try.isAgg98
  z72 := Try.sizeOf98
  v72 := Try.zeroValue98
  t75 := Try.underlying101
  a75 := Try.isAgg101
  z75 := Try.sizeOf101
  v75 := Try.zeroValue101
  t76 := Try.underlying102
  a76 := Try.isAgg102
  z76 := Try.sizeOf102
  v76 := Try.zeroValue102
  t127 := Try.underlying111
  a127 := Try.isAgg111
  z127 := Try.sizeOf111
  v127 := Try.zeroValue111
  t164 := Try.underlying116
  a164 := Try.isAgg116
  z164 := Try.sizeOf116
  v164 := Try.zeroValue116 }
theorem Try.Builder_Extra_156 : Builder.Extra Try.prog Try.lays156_ren := {
  sizeBuilder := by kernel_rfl
  liesBuilder := by kernel_rfl
  t5 := Try.underlying5
  a5 := Try.isAgg5
  z5 := Try.sizeOf5
  v5 := Try.zeroValue5
  infoByte := by kernel_rfl
  cellsByte := by kernel_rfl
  sizeByte := by kernel_rfl
  neB5 := by decide }
open Go.RowKit in
theorem Try.strings_Join_none (a : Option Addr) (c : Nat) (sep : ByteArray) (w : World) :
    Calls Try.prog 46 #[.slice a 0 c, .string sep] w fun e w' => e = .returned (.string ⟨#[]⟩) ∧ w' = w := Any.strings_Join_none Try.lays156 Try.Builder_Extra_156 a c sep w
open Go.RowKit in
theorem Try.strings_Join (bk o c : Nat) (xs : List ByteArray) (sep : ByteArray) (w : World) (hcells : ∀ (j : Nat) x, xs[j]? = some x → w.cell? ⟨bk, o + j, none⟩ = some (.string x)) (hbk : bk < w.heap.size) (hN : xs.length ≤ 140737488355328) (hcap : xs.length ≤ c) (hlen : (Lib.join (xs.map (·.data.toList)) sep.data.toList).length ≤ 140737488355328) :
    Calls Try.prog 46 #[.slice (some ⟨bk, o, none⟩) xs.length c, .string sep] w fun e w' => e = .returned (.string ⟨(Lib.join (xs.map (·.data.toList)) sep.data.toList).toArray⟩) ∧ Below w.heap.size w w' := Any.strings_Join Try.lays156 Try.Builder_Extra_156 bk o c xs sep w hcells hbk hN hcap hlen
def Try.lays119_ren : Go.Shelf.Ren := ⟨fun | 119 => 71 | n => n, fun | 21 => 21 | 4 => 4 | n => n, fun | n => n⟩
theorem Try.lays119 : Go.Proofs.Lays.n119 Try.prog Try.lays119_ren := {
  mixed := by kernel_rfl
  f119 := Try.func71.trans (congrArg some (by kernel_rfl))
  t4 := Try.underlying4
  a4 := Try.isAgg4
  z4 := Try.sizeOf4
  v4 := Try.zeroValue4
  t21 := Try.underlying21
  a21 := Try.isAgg21
  z21 := Try.sizeOf21
  v21 := Try.zeroValue21 }
theorem Try.utf8_ValidRune (r : Int) (w : World) :
    Calls Try.prog 71 #[.int .i32 r] w fun e w' => e = .returned (.bool (Lib.validRune r)) ∧ w' = w := Any.utf8_ValidRune Try.lays119 r w
def Try.lays137_ren : Go.Shelf.Ren := ⟨fun | 137 => 70 | 217 => 66 | 266 => 74 | n => n, fun | 9 => 9 | 5 => 5 | 3 => 3 | n => n, fun | n => n⟩
theorem Try.lays137 : Go.Proofs.Lays.n137 Try.prog Try.lays137_ren := {
  mixed := by kernel_rfl
  f137 := Try.func70.trans (congrArg some (by kernel_rfl))
  f217 := Try.func66.trans (congrArg some (by kernel_rfl))
  f266 := Try.func74.trans (congrArg some (by kernel_rfl))
  t3 := Try.underlying3
  a3 := Try.isAgg3
  z3 := Try.sizeOf3
  v3 := Try.zeroValue3
  t5 := Try.underlying5
  a5 := Try.isAgg5
  z5 := Try.sizeOf5
  v5 := Try.zeroValue5
  t9 := Try.underlying9
  a9 := Try.isAgg9
  z9 := Try.sizeOf9
  v9 := Try.zeroValue9 }
open Go.RowKit in
theorem Try.strings_IndexByte (s : ByteArray) (c : Int) (w : World) :
    Calls Try.prog 70 #[.string s, .int .u8 c] w fun e w' => e = .returned (.int .i64 (Lib.indexByte s.data.toList c.toNat.toUInt8)) ∧ w' = w := Any.strings_IndexByte Try.lays137 s c w
def Try.lays219_ren : Go.Shelf.Ren := ⟨fun | 219 => 58 | 217 => 66 | 225 => 67 | 224 => 68 | 267 => 69 | 266 => 74 | 314 => 75 | n => n, fun | 9 => 9 | 3 => 3 | 4 => 4 | 5 => 5 | 46 => 22 | 146 => 120 | 51 => 119 | n => n, fun | 1 => 0 | n => n⟩
def Try.lays144_ren : Go.Shelf.Ren := ⟨fun | 144 => 57 | 143 => 65 | 219 => 58 | 217 => 66 | 225 => 67 | 224 => 68 | 267 => 69 | 266 => 74 | 314 => 75 | n => n, fun | 9 => 9 | 4 => 4 | 3 => 3 | 5 => 5 | 46 => 22 | 146 => 120 | 51 => 119 | n => n, fun | 1 => 0 | n => n⟩
theorem Try.lays144 : Go.Proofs.Lays.n144 Try.prog Try.lays144_ren := {
  mixed := by kernel_rfl
  f143 := Try.func65.trans (congrArg some (by kernel_rfl))
  f144 := Try.func57.trans (congrArg some (by kernel_rfl))
  f217 := Try.func66.trans (congrArg some (by kernel_rfl))
  f219 := Try.func58.trans (congrArg some (by kernel_rfl))
  f224 := Try.func68.trans (congrArg some (by kernel_rfl))
  f225 := Try.func67.trans (congrArg some (by kernel_rfl))
  f266 := Try.func74.trans (congrArg some (by kernel_rfl))
  f267 := Try.func69.trans (congrArg some (by kernel_rfl))
  f314 := Try.func75.trans (congrArg some (by kernel_rfl))
  t3 := Try.underlying3
  a3 := Try.isAgg3
  z3 := Try.sizeOf3
  v3 := Try.zeroValue3
  t4 := Try.underlying4
  a4 := Try.isAgg4
  z4 := Try.sizeOf4
  v4 := Try.zeroValue4
  t5 := Try.underlying5
  a5 := Try.isAgg5
  z5 := Try.sizeOf5
  v5 := Try.zeroValue5
  t9 := Try.underlying9
  a9 := Try.isAgg9
  z9 := Try.sizeOf9
  v9 := Try.zeroValue9
  t46 := Try.underlying22
  a46 := Try.isAgg22
  z46 := Try.sizeOf22
  v46 := Try.zeroValue22
  t51 := Try.underlying119
  a51 := Try.isAgg119
  z51 := Try.sizeOf119
  v51 := Try.zeroValue119
  t146 := Try.underlying120
  a146 := Try.isAgg120
  z146 := Try.sizeOf120
  v146 := Try.zeroValue120
  g1 := by kernel_rfl }
open Go.RowKit Go.Lib in
theorem Try.strings_Contains (s sub : ByteArray) (m : Int) (w : World) (hs : s.size < 4294967281) (hm : w.cell? ⟨0, 0, none⟩ = some (.int .i64 m)) :
    Calls Try.prog 57 #[.string s, .string sub] w fun e w' => e = .returned (.bool (Lib.contains s.data.toList sub.data.toList)) ∧ w' = w := Any.strings_Contains Try.lays144 s sub m w hs hm
def Try.lays145_ren : Go.Shelf.Ren := ⟨fun | 145 => 43 | 220 => 51 | 219 => 58 | 217 => 66 | 225 => 67 | 224 => 68 | 267 => 69 | 266 => 74 | 314 => 75 | n => n, fun | 9 => 9 | 4 => 4 | 59 => 88 | 3 => 3 | 5 => 5 | 46 => 22 | 146 => 120 | 51 => 119 | n => n, fun | 1 => 0 | n => n⟩
theorem Try.lays145 : Go.Proofs.Lays.n145 Try.prog Try.lays145_ren := {
  mixed := by kernel_rfl
  f145 := Try.func43.trans (congrArg some (by kernel_rfl))
  f217 := Try.func66.trans (congrArg some (by kernel_rfl))
  f219 := Try.func58.trans (congrArg some (by kernel_rfl))
  f220 := Try.func51.trans (congrArg some (by kernel_rfl))
  f224 := Try.func68.trans (congrArg some (by kernel_rfl))
  f225 := Try.func67.trans (congrArg some (by kernel_rfl))
  f266 := Try.func74.trans (congrArg some (by kernel_rfl))
  f267 := Try.func69.trans (congrArg some (by kernel_rfl))
  f314 := Try.func75.trans (congrArg some (by kernel_rfl))
  t3 := Try.underlying3
  a3 := Try.isAgg3
  z3 := Try.sizeOf3
  v3 := Try.zeroValue3
  t4 := Try.underlying4
  a4 := Try.isAgg4
  z4 := Try.sizeOf4
  v4 := Try.zeroValue4
  t5 := Try.underlying5
  a5 := Try.isAgg5
  z5 := Try.sizeOf5
  v5 := Try.zeroValue5
  t9 := Try.underlying9
  a9 := Try.isAgg9
  z9 := Try.sizeOf9
  v9 := Try.zeroValue9
  t46 := Try.underlying22
  a46 := Try.isAgg22
  z46 := Try.sizeOf22
  v46 := Try.zeroValue22
  t51 := Try.underlying119
  a51 := Try.isAgg119
  z51 := Try.sizeOf119
  v51 := Try.zeroValue119
  t59 := Try.underlying88
  a59 := Try.isAgg88
  z59 := Try.sizeOf88
  v59 := Try.zeroValue88
  t146 := Try.underlying120
  a146 := Try.isAgg120
  z146 := Try.sizeOf120
  v146 := Try.zeroValue120
  g1 := by kernel_rfl }
open Go.RowKit Go.Lib in
theorem Try.strings_Cut (s sep : ByteArray) (m : Int) (w : World) (hs : s.size < 4294967281) (hm : w.cell? ⟨0, 0, none⟩ = some (.int .i64 m)) :
    Calls Try.prog 43 #[.string s, .string sep] w fun e w' => e = .returned (.tuple #[.string ⟨(Lib.cut s.data.toList sep.data.toList).1.toArray⟩, .string ⟨(Lib.cut s.data.toList sep.data.toList).2.1.toArray⟩, .bool (Lib.cut s.data.toList sep.data.toList).2.2]) ∧ ∃ n, w' = w.drewN n := Any.strings_Cut Try.lays145 s sep m w hs hm
def Try.lays152_ren : Go.Shelf.Ren := ⟨fun | 152 => 59 | 137 => 70 | 119 => 71 | 224 => 68 | 225 => 67 | 217 => 66 | 266 => 74 | n => n, fun | 9 => 9 | 21 => 21 | 3 => 3 | 4 => 4 | 5 => 5 | 0 => 0 | 46 => 22 | n => n, fun | n => n⟩
theorem Try.lays152 : Go.Proofs.Lays.n152 Try.prog Try.lays152_ren := {
  mixed := by kernel_rfl
  f119 := Try.func71.trans (congrArg some (by kernel_rfl))
  f137 := Try.func70.trans (congrArg some (by kernel_rfl))
  f152 := Try.func59.trans (congrArg some (by kernel_rfl))
  f217 := Try.func66.trans (congrArg some (by kernel_rfl))
  f224 := Try.func68.trans (congrArg some (by kernel_rfl))
  f225 := Try.func67.trans (congrArg some (by kernel_rfl))
  f266 := Try.func74.trans (congrArg some (by kernel_rfl))
  t0 := Try.underlying0
  a0 := Try.isAgg0
  z0 := Try.sizeOf0
  v0 := Try.zeroValue0
  t3 := Try.underlying3
  a3 := Try.isAgg3
  z3 := Try.sizeOf3
  v3 := Try.zeroValue3
  t4 := Try.underlying4
  a4 := Try.isAgg4
  z4 := Try.sizeOf4
  v4 := Try.zeroValue4
  t5 := Try.underlying5
  a5 := Try.isAgg5
  z5 := Try.sizeOf5
  v5 := Try.zeroValue5
  t9 := Try.underlying9
  a9 := Try.isAgg9
  z9 := Try.sizeOf9
  v9 := Try.zeroValue9
  t21 := Try.underlying21
  a21 := Try.isAgg21
  z21 := Try.sizeOf21
  v21 := Try.zeroValue21
  t46 := Try.underlying22
  a46 := Try.isAgg22
  z46 := Try.sizeOf22
  v46 := Try.zeroValue22 }
open Go.RowKit Go.Lib in
theorem Try.strings_IndexRune_ascii (s : ByteArray) (r : Int) (w : World) (h0 : 0 ≤ r) (h1 : r < 128) :
    Calls Try.prog 59 #[.string s, .int .i32 r] w fun e w' => e = .returned (.int .i64 (Lib.indexByte s.data.toList r.toNat.toUInt8)) ∧ w' = w := Any.strings_IndexRune_ascii Try.lays152 s r w h0 h1
def Try.lays226_ren : Go.Shelf.Ren := ⟨fun | 226 => 60 | n => n, fun | 3 => 3 | 4 => 4 | n => n, fun | n => n⟩
theorem Try.lays226 : Go.Proofs.Lays.n226 Try.prog Try.lays226_ren := {
  mixed := by kernel_rfl
  f226 := Try.func60.trans (congrArg some (by kernel_rfl))
  t3 := Try.underlying3
  a3 := Try.isAgg3
  z3 := Try.sizeOf3
  v3 := Try.zeroValue3
  t4 := Try.underlying4
  a4 := Try.isAgg4
  z4 := Try.sizeOf4
  v4 := Try.zeroValue4 }
open Go.RowKit Go.Lib in
theorem Try.strings_shouldUseASCIISet (n : Int) (w : World) :
    Calls Try.prog 60 #[.int .i64 n] w fun e w' => e = .returned (.bool (decide (8 < n))) ∧ w' = w := Any.strings_shouldUseASCIISet Try.lays226 n w
def Try.lays153_ren : Go.Shelf.Ren := ⟨fun | 153 => 52 | 152 => 59 | 226 => 60 | 227 => 61 | 228 => 62 | 137 => 70 | 119 => 71 | 224 => 68 | 225 => 67 | 217 => 66 | 266 => 74 | n => n, fun | 9 => 9 | 3 => 3 | 4 => 4 | 5 => 5 | 21 => 21 | 117 => 109 | 116 => 108 | 0 => 0 | 46 => 22 | 124 => 115 | n => n, fun | n => n⟩
theorem Try.lays153 : Go.Proofs.Lays.n153 Try.prog Try.lays153_ren := {
  mixed := by kernel_rfl
  f119 := Try.func71.trans (congrArg some (by kernel_rfl))
  f137 := Try.func70.trans (congrArg some (by kernel_rfl))
  f152 := Try.func59.trans (congrArg some (by kernel_rfl))
  f153 := Try.func52.trans (congrArg some (by kernel_rfl))
  f217 := Try.func66.trans (congrArg some (by kernel_rfl))
  f224 := Try.func68.trans (congrArg some (by kernel_rfl))
  f225 := Try.func67.trans (congrArg some (by kernel_rfl))
  f226 := Try.func60.trans (congrArg some (by kernel_rfl))
  f227 := Try.func61.trans (congrArg some (by kernel_rfl))
  f228 := Try.func62.trans (congrArg some (by kernel_rfl))
  f266 := Try.func74.trans (congrArg some (by kernel_rfl))
  t0 := Try.underlying0
  a0 := Try.isAgg0
  z0 := Try.sizeOf0
  v0 := Try.zeroValue0
  t3 := Try.underlying3
  a3 := Try.isAgg3
  z3 := Try.sizeOf3
  v3 := Try.zeroValue3
  t4 := Try.underlying4
  a4 := Try.isAgg4
  z4 := Try.sizeOf4
  v4 := Try.zeroValue4
  t5 := Try.underlying5
  a5 := Try.isAgg5
  z5 := Try.sizeOf5
  v5 := Try.zeroValue5
  t9 := Try.underlying9
  a9 := Try.isAgg9
  z9 := Try.sizeOf9
  v9 := Try.zeroValue9
  t21 := Try.underlying21
  a21 := Try.isAgg21
  z21 := Try.sizeOf21
  v21 := Try.zeroValue21
  t46 := Try.underlying22
  a46 := Try.isAgg22
  z46 := Try.sizeOf22
  v46 := Try.zeroValue22
  t116 := Try.underlying108
  a116 := Try.isAgg108
  z116 := Try.sizeOf108
  t117 := Try.underlying109
  a117 := Try.isAgg109
  z117 := Try.sizeOf109
  v117 := Try.zeroValue109
  t124 := Try.underlying115
  a124 := Try.isAgg115
  z124 := Try.sizeOf115
  v124 := Try.zeroValue115 }
open Go.RowKit Go.Lib in
theorem Try.strings_IndexAny_long (hv116 : ∀ w, (zeroValue 108).run Try.prog w = .ok (.agg (Array.replicate 256 (.bool false))) w) (s chars : ByteArray) (w : World) (h2 : 2 ≤ chars.size) (h8 : 8 < s.size) (hs : s.size < 4294967281) (hcs : chars.size < 4294967281) (hascii : ∀ (j : Nat) b, chars.data.toList[j]? = some b → b.toNat < 128) :
    Calls Try.prog 52 #[.string s, .string chars] w fun e w' => e = .returned (.int .i64 (Lib.indexAny s.data.toList chars.data.toList)) ∧ w' = ((w.alloc (.cells (Lib.setCells chars.data.toList) 108)).alloc (.cells (Lib.setCells chars.data.toList) 108)) := Any.strings_IndexAny_long Try.lays153 hv116 (by kernel_rfl) s chars w h2 h8 hs hcs hascii
end Go.Proofs
namespace Go.Proofs.Ytomkimifooddpaa.Q
open Go.RowKit Go.Proofs.YtomkimifooddpaaW.PrintWords Go.Proofs.YtomkimifooddpaaW.PrintLast Go.Proofs.YtomkimifooddpaaW.Own Go.Proofs.YtomkimifooddpaaW.PrintMore
attribute [local go_sem] max2_int min2_int max_two min_two max_three min_three max_four min_four   -- for this text's walks alone
set_option linter.unusedVariables false
set_option linter.unusedSimpArgs false
set_option maxHeartbeats 20000000
set_option maxRecDepth 100000
def strings_Cut.f (a0 a1 : ByteArray) : Option (ByteArray × ByteArray × Bool) := if a0.size < 4294967281 then some (⟨(Lib.cut a0.data.toList a1.data.toList).1.toArray⟩, ⟨(Lib.cut a0.data.toList a1.data.toList).2.1.toArray⟩, (Lib.cut a0.data.toList a1.data.toList).2.2) else none
theorem strings_Cut.calls (a0 a1 : ByteArray) (r1 r2 : ByteArray) (r3 : Bool) (w : World) (hG : Glob w) (h : strings_Cut.f a0 a1 = some (r1, r2, r3)) :
 Calls Try.prog 43 #[.string a0, .string a1] w fun e w' => e = .returned (.tuple #[.string r1, .string r2, .bool r3]) ∧ Drawn0 w w' := by
 unfold strings_Cut.f at h
 split at h
 ·rename_i hs
  simp only [Option.some.injEq, Prod.mk.injEq] at h
  obtain ⟨rfl, rfl, rfl⟩ := h
  obtain ⟨m, hm⟩ := hG
  exact (Try.strings_Cut a0 a1 m w hs hm).mono fun e w' hh => ⟨hh.1, ⟨hh.2⟩⟩
 ·exact absurd h (by simp)
end Go.Proofs.Ytomkimifooddpaa.Q
namespace Go.Proofs.Ytomkimifooddpaa.Q
open Go.RowKit Go.Proofs.YtomkimifooddpaaW.PrintWords Go.Proofs.YtomkimifooddpaaW.PrintLast Go.Proofs.YtomkimifooddpaaW.Own Go.Proofs.YtomkimifooddpaaW.PrintMore
attribute [local go_sem] max2_int min2_int max_two min_two max_three min_three max_four min_four   -- for this text's walks alone
set_option linter.unusedVariables false
set_option linter.unusedSimpArgs false
namespace ContainsAny
open Go Go.RowKit Go.Lib
theorem dec_hi (s : ByteArray) (i : Nat) (h : i < s.size) (hx : 128 ≤ (s.get! i).toNat) :
    1 ≤ (Utf8.decode s i).2 ∧ i + (Utf8.decode s i).2 ≤ s.size ∧ 128 ≤ (Utf8.decode s i).1 ∧ (Utf8.decode s i).1 ≤ 1114111 ∧ ∀ j, j < (Utf8.decode s i).2 → 128 ≤ (s.get! (i + j)).toNat := by
  have k0 : ∀ j, j < 1 → 128 ≤ (s.get! (i + j)).toNat := fun j hj => by
    obtain rfl : j = 0 := by omega
    exact hx
  have bad : 1 ≤ (Utf8.runeError, 1).2 ∧ i + (Utf8.runeError, 1).2 ≤ s.size ∧ 128 ≤ (Utf8.runeError, 1).1 ∧ (Utf8.runeError, 1).1 ≤ 1114111 ∧ ∀ j, j < (Utf8.runeError, 1).2 → 128 ≤ (s.get! (i + j)).toNat := ⟨Nat.le_refl _, h, by decide, by decide, k0⟩
  have hb : ∀ k, (s.get! (i + k)).toNat < 256 := fun k => UInt8.toNat_lt _
  unfold Utf8.decode
  simp only [Nat.add_zero]
  rw [if_neg (by omega)]
  have c1 : ∀ k, (decide (i + k < s.size) && (s.get! (i + k)).toNat / 64 == 2) = true → i + k < s.size ∧ 128 ≤ (s.get! (i + k)).toNat := fun k hk => by
    simp only [Bool.and_eq_true, decide_eq_true_eq, beq_iff_eq] at hk
    exact ⟨hk.1, by omega⟩
  split
  · rename_i h2
    simp only [Bool.and_eq_true] at h2
    obtain ⟨h21, h22⟩ := h2
    have d1 := c1 1 (by simpa using h22)
    have h21 : (s.get! i).toNat / 32 = 6 := by simpa using h21
    have b0 := hb 0; simp only [Nat.add_zero] at b0
    split
    · rename_i h3
      refine ⟨by show 1 ≤ 2; omega, by show i + 2 ≤ _; omega, by show 128 ≤ _; omega, by show _ ≤ 1114111; omega, fun j hj => ?_⟩
      have hj : j < 2 := hj
      rcases (by omega : j = 0 ∨ j = 1) with rfl | rfl
      · exact hx
      · exact d1.2
    · exact bad
  · split
    · rename_i h2
      simp only [Bool.and_eq_true] at h2
      obtain ⟨⟨h21, h22⟩, h23⟩ := h2
      have d1 := c1 1 (by simpa using h22)
      have d2 := c1 2 (by simpa using h23)
      have h21 : (s.get! i).toNat / 16 = 14 := by simpa using h21
      split
      · rename_i h3
        simp only [Bool.and_eq_true, decide_eq_true_eq] at h3
        refine ⟨by show 1 ≤ 3; omega, by show i + 3 ≤ _; omega, by show 128 ≤ _; omega, by show _ ≤ 1114111; omega, fun j hj => ?_⟩
        have hj : j < 3 := hj
        rcases (by omega : j = 0 ∨ j = 1 ∨ j = 2) with rfl | rfl | rfl
        · exact hx
        · exact d1.2
        · exact d2.2
      · exact bad
    · split
      · rename_i h2
        simp only [Bool.and_eq_true] at h2
        obtain ⟨⟨⟨h21, h22⟩, h23⟩, h24⟩ := h2
        have d1 := c1 1 (by simpa using h22)
        have d2 := c1 2 (by simpa using h23)
        have d3 := c1 3 (by simpa using h24)
        split
        · rename_i h3
          simp only [Bool.and_eq_true, decide_eq_true_eq] at h3
          have hv := h3.2
          refine ⟨by show 1 ≤ 4; omega, by show i + 4 ≤ _; omega, by show 128 ≤ _; omega, ?_, fun j hj => ?_⟩
          · simp only [Utf8.valid] at hv
            show _ ≤ 1114111
            simp at hv
            omega
          · have hj : j < 4 := hj
            rcases (by omega : j = 0 ∨ j = 1 ∨ j = 2 ∨ j = 3) with rfl | rfl | rfl | rfl
            · exact hx
            · exact d1.2
            · exact d2.2
            · exact d3.2
        · exact bad
      · exact bad
theorem get_data (s : ByteArray) (i : Nat) (h : i < s.size) : s.data.toList[i]? = some (s.get! i) := by
  have h1 : i < s.data.size := h
  have h2 : s.get! i = s.data[i] := by
    show s.data[i]! = _
    rw [getElem!_pos s.data i h1]
  rw [h2, List.getElem?_eq_getElem (by simpa using h1)]
  simp
theorem indexByte_none (l : List UInt8) (c : UInt8) (h : ∀ b ∈ l, b ≠ c) : Lib.indexByte l c = -1 := by
  rcases Int.lt_or_le (Lib.indexByte l c) 0 with h0 | h0
  · have := Lib.indexByte_ge l c
    omega
  · exfalso
    have := Lib.contains_iff_indexByte l c
    rw [decide_eq_true h0] at this
    exact h c (by simpa using this) rfl
set_option maxHeartbeats 8000000 in
set_option maxRecDepth 1000000 in
theorem indexRune_hi (s : ByteArray) (r : Int) (w : World) (h0 : 128 ≤ r) (h1 : r ≤ 1114111) (hs : s.size < 4294967281) (hascii : ∀ (j : Nat) b, s.data.toList[j]? = some b → b.toNat < 128) :
    Calls Try.prog 59 #[.string s, .int .i32 r] w fun e w' => e = .returned (.int .i64 (-1)) ∧ Below w.heap.size w w' := by
  have HA : Aside (∀ (j : Nat) b, s.data.toList[j]? = some b → b.toNat < 128) := hascii
  clear hascii
  have n128 : decide (r < 128) = false := decide_eq_false (by omega)
  have p0 : decide (0 ≤ r) = true := decide_eq_true (by omega)
  by_cases hE : r = 65533
  · subst hE
    go_enter Try.func59, Try.ntmps59
    go_wp2
    go_loopg [] s.size (fun g wx => ∃ i : Nat, i + g = s.size ∧ wx = w.iter s i)
    case atStart => exact ⟨0, by omega, rfl⟩
    case round =>
      obtain ⟨i, hig, rfl⟩ := hrel
      cases gk with
      | zero =>
        obtain rfl : i = s.size := by omega
        have hnx := run_next_end (P := Try.prog) w s s.size
        go_wp2
        go_ret
        exact ⟨rfl, (Below.refl _ _).alloc (Nat.le_refl _) _⟩
      | succ g =>
        have hi : i < s.size := by omega
        have hx128 : (s[i]'hi).toNat < 128 := HA.out i _ (Lib.data_getElem? s i hi)
        have hnx := fun ty => run_next_ascii (P := Try.prog) w s i ty hi hx128
        obtain ⟨x, hx⟩ : ∃ x : Nat, (s[i]'hi).toNat = x := ⟨_, rfl⟩
        rw [hx] at hnx hx128
        clear hx
        have hne : (((x : Nat) : Int) == 65533) = false := beq_eq_false_iff_ne.2 (by omega)
        go_wp2
        go_roundg g
        case measure => omega
        case rel => exact ⟨i + 1, by omega, rfl⟩
  · have bE : (r == 65533) = false := beq_eq_false_iff_ne.2 hE
    by_cases hv : Lib.validRune r = true
    · have hv' : Utf8.valid r = true := by rw [Go.validRune_eq]; exact hv
      obtain ⟨he2, he4, hlast⟩ := encode_facts r hv' h0
      obtain ⟨t, ht⟩ : ∃ t : ByteArray, Utf8.encode r = t := ⟨_, rfl⟩
      rw [ht] at he2 he4 hlast
      have HT : Aside (Utf8.encode r = t) := ht
      clear ht
      go_enter Try.func59, Try.ntmps59
      go_wp2_with (first | (go_at_call 71; refine (Try.utf8_ValidRune _ _).mono ?_; rintro e w' ⟨rfl, rfl⟩; rw [hv]))
      go_step3
      have hr128 : decide (r < 128) = false := n128
      go_wp2
      obtain ⟨m, hm⟩ : ∃ m, t.size = m + 1 := ⟨t.size - 1, by omega⟩
      have hw : wrap64 ((t.size : Int) - 1) = (m : Int) := by unfold wrap64; omega
      rw [HT.out, hw]
      have hm3 : m ≤ 3 := by omega
      have hmt : m < t.size := by omega
      obtain ⟨c, hc⟩ : ∃ c : UInt8, t[m]'hmt = c := ⟨_, rfl⟩
      have hc128 : 128 ≤ c.toNat := by
        have h1 := hlast (by omega)
        have h2 : t[t.size - 1]'(by omega) = t[m]'hmt := by congr 1; omega
        rw [h2, hc] at h1
        exact h1
      have HM : Aside (t.size = m + 1) := hm
      clear hm hw he2 he4 hlast HT
      refine wp_loop_rounds 1 ?_
      rw [rounds_succ]
      by_cases hlt : m < s.size
      · have hd : decide ((m : Int) < (s.size : Int)) = true := decide_eq_true (by omega)
        have hx128 : (s[m]'hlt).toNat < 128 := HA.out m _ (Lib.data_getElem? s m hlt)
        obtain ⟨x, hx⟩ : ∃ x : UInt8, s[m]'hlt = x := ⟨_, rfl⟩
        rw [hx] at hx128
        have hne : ((x.toNat : Int) != (c.toNat : Int)) = true := bne_iff_ne.2 (by omega)
        have hno : Lib.indexByte (s.extract (m + 1) s.size).data.toList c = -1 := by
          refine indexByte_none _ _ (fun b hb hbc => ?_)
          have hb' := mem_extract hb
          obtain ⟨j, hj⟩ := List.mem_iff_getElem?.1 hb'
          have := HA.out j b hj
          rw [hbc] at this
          omega
        have HN := Lib.hid hno
        clear hno
        have HX := Lib.hid hx
        have HC := Lib.hid hc
        go_wp2_with (fail)
        go_step3
        go_wp2_with (fail)
        have px : (m : Int) < (s.size : Int) := by omega
        have pt : (m : Int) < (t.size : Int) := by omega
        go_quiet (fail)
        generalize hWx : World.drewN _ _ = W2
        have HBW : Aside (Below w'.heap.size w' W2) := by
          rw [← hWx]
          exact pw_below_drewN (Below.refl _ _) _
        clear hWx
        go_wp2_with (fail)
        have e1 : IntKind.i64.wrap ((m : Int) + 1) = (m : Int) + 1 := by rw [i64_w]; unfold wrap64; omega
        have e2 : ((m : Int) + 1).toNat = m + 1 := by omega
        have e3 : (0 : Int) ≤ (m : Int) + 1 := by omega
        have e4 : (m : Int) + 1 ≤ (s.size : Int) := by omega
        go_quiet ((go_at_call 70; exact Calls.quiet_of_same (Try.strings_IndexByte _ _ _)))
        generalize hO : Lib.indexByte _ _ = o
        have ho : o = -1 := by
          rw [← hO]
          simpa using HN.out
        clear hO
        subst ho
        go_wp2_with (fail)
        rw [Exit.noGoto_ret]
        simp only [Exit.inBlock, Exit.then]
        rw [Exit.noGoto_ret]
        simp only [Exit.inBlock]
        go_ret
        exact ⟨rfl, pw_below_drewN HBW.out _⟩
      · have hd : decide ((m : Int) < (s.size : Int)) = false := decide_eq_false (by omega)
        go_wp2
        rw [Exit.noGoto_ret]
        go_ret
        exact ⟨rfl, Below.refl _ _⟩
    · have hv' : Lib.validRune r = false := by simpa using hv
      clear hv
      go_enter Try.func59, Try.ntmps59
      go_wp2_with (first | (go_at_call 71; refine (Try.utf8_ValidRune _ _).mono ?_; rintro e w' ⟨rfl, rfl⟩; rw [hv']))
      go_ret
      exact ⟨rfl, Below.refl _ _⟩
theorem below_iterAt {B : Nat} {a w : World} (h : Below B a w) (k : Nat) (hk : B ≤ k) (s : ByteArray) (pos : Nat) : Below B a (w.iterAt k s pos) :=
  h.trans ⟨rfl, rfl, rfl, by simp [World.iterAt], fun i hi => by simp only [World.iterAt]; rw [Array.getElem?_setIfInBounds_ne (by omega)]⟩
theorem NoAny_step (l chars : List UInt8) (i k : Nat) (h : Lib.NoAny l chars i) (hc : ∀ j, i ≤ j → j < i + k → ∀ b, l[j]? = some b → chars.contains b = false) : Lib.NoAny l chars (i + k) := by
  induction k with
  | zero => exact h
  | succ k ih =>
    have h1 := ih (fun j h1 h2 => hc j h1 (by omega))
    rcases Nat.lt_or_ge (i + k) l.length with hl | hl
    · have hx : l[i + k]? = some l[i + k] := List.getElem?_eq_getElem hl
      exact h1.succ hx (hc (i + k) (by omega) (by omega) _ hx)
    · intro j b hj hb
      have hjl := (List.getElem?_eq_some_iff.1 hb).1
      exact h1 j b (by omega) hb
set_option maxHeartbeats 8000000 in
set_option maxRecDepth 1000000 in
theorem indexAny_short (s chars : ByteArray) (w : World) (h2 : 2 ≤ chars.size) (h8 : s.size ≤ 8) (hcs : chars.size < 4294967281) (hac : ∀ (j : Nat) b, chars.data.toList[j]? = some b → b.toNat < 128) :
    Calls Try.prog 52 #[.string s, .string chars] w fun e w' => e = .returned (.int .i64 (Lib.indexAny s.data.toList chars.data.toList)) ∧ Below w.heap.size w w' := by
  have HA : Aside (∀ (j : Nat) b, chars.data.toList[j]? = some b → b.toNat < 128) := hac
  clear hac
  have hemp : chars.toList.isEmpty = false := by
    rw [Lib.toList_data]
    cases h : chars.data.toList with
    | nil => have := Lib.size_eq chars; rw [h, List.length_nil] at this; omega
    | cons _ _ => rfl
  have hn1 : ((chars.size : Int) == 1) = false := beq_eq_false_iff_ne.2 (by omega)
  have h8z : decide ((8 : Int) < (s.size : Int)) = false := decide_eq_false (by omega)
  go_enter Try.func52, Try.ntmps52
  go_wp2_with (go_at_call 60; refine (Try.strings_shouldUseASCIISet _ _).mono ?_; rintro e w' ⟨rfl, rfl⟩; rw [h8z])
  have HB0 : Aside (Below w'.heap.size w' (w'.iter s 0)) := (Below.refl _ _).alloc (Nat.le_refl _) _
  have HI0 : Aside ((w'.iter s 0).heap[w'.heap.size]? = some (.stringIter s 0)) := World.iter_heap _ _ _
  generalize w'.iter s 0 = wi at *
  go_loopg [] s.size (fun g wx => ∃ i : Nat, s.size ≤ i + g ∧ i ≤ s.size ∧ Aside (wx.heap[w'.heap.size]? = some (.stringIter s i)) ∧ Aside (Below w'.heap.size w' wx) ∧ Aside (Lib.NoAny s.data.toList chars.data.toList i))
  case atStart => exact ⟨0, by omega, by omega, HI0, HB0, Lib.NoAny.zero _ _⟩
  case round =>
    clear HB0 HI0
    obtain ⟨i, hig, his, HI, HB, HN⟩ := hrel
    by_cases hi : i < s.size
    · obtain ⟨g, rfl⟩ : ∃ g, gk = g + 1 := ⟨gk - 1, by omega⟩
      have hnx := fun ty => Lib.run_next_any_at (P := Try.prog) wr w'.heap.size s i ty HI.out hi
      have HB2 : Aside (Below w'.heap.size w' (wr.iterAt w'.heap.size s (i + (Utf8.decode s i).2))) := below_iterAt HB.out _ (Nat.le_refl _) _ _
      have HI2 : Aside ((wr.iterAt w'.heap.size s (i + (Utf8.decode s i).2)).heap[w'.heap.size]? = some (.stringIter s (i + (Utf8.decode s i).2))) := Lib.iterAt_heap _ _ _ _ _ HI.out
      obtain ⟨W2, hW2⟩ : ∃ W2, wr.iterAt w'.heap.size s (i + (Utf8.decode s i).2) = W2 := ⟨_, rfl⟩
      rw [hW2] at hnx HB2 HI2
      clear hW2
      have hsz : w'.heap.size < W2.heap.size := by
        rcases Nat.lt_or_ge w'.heap.size W2.heap.size with h | h
        · exact h
        · have := HI2.out
          rw [Array.getElem?_eq_none h] at this
          exact absurd this (by simp)
      by_cases hx : 128 ≤ (s.get! i).toNat
      · obtain ⟨d1, d2, d3, d4, d5⟩ := dec_hi s i hi hx
        obtain ⟨c, hc⟩ : ∃ c, (Utf8.decode s i).1 = c := ⟨_, rfl⟩
        obtain ⟨k, hk⟩ : ∃ k, (Utf8.decode s i).2 = k := ⟨_, rfl⟩
        rw [hc] at hnx d3 d4
        rw [hk] at d1 d2 d5 HI2
        clear hc hk hx
        have HN2 : Aside (Lib.NoAny s.data.toList chars.data.toList (i + k)) := NoAny_step _ _ _ _ HN.out (fun j h1 h2 b hb => by
          have hjs : j < s.size := by omega
          rw [get_data s j hjs] at hb
          obtain rfl := Option.some.inj hb
          have hhi := d5 (j - i) (by omega)
          rw [show i + (j - i) = j by omega] at hhi
          rcases hcon : chars.data.toList.contains (s.get! j) with _ | _
          · rfl
          · exfalso
            obtain ⟨q, hq⟩ := List.mem_iff_getElem?.1 (by simpa using hcon : s.get! j ∈ chars.data.toList)
            have := HA.out q _ hq
            omega)
        clear d5 HN
        go_wp2_with (go_at_call 59; refine (indexRune_hi _ _ _ (by omega) (by omega) hcs HA.out).mono ?_; rintro e w3 ⟨rfl, hb3⟩)
        go_roundg g
        case measure => omega
        case rel => exact ⟨i + k, by omega, by omega, (by show w3.heap[_]? = _; rw [hb3.block _ hsz]; exact HI2.out), HB2.out.trans (hb3.mono (by omega)), HN2⟩
      · have h0 : Utf8.decode s i = ((s.get! i).toNat, 1) := by
          unfold Utf8.decode
          simp only [Nat.add_zero]
          rw [if_pos (by omega)]
        rw [h0] at hnx HI2
        obtain ⟨x, hxx⟩ : ∃ x : UInt8, s.get! i = x := ⟨_, rfl⟩
        have Hx : Aside (s.data.toList[i]? = some x) := by rw [← hxx]; exact get_data s i hi
        rw [hxx] at hnx hx
        clear hxx h0
        have hcon := Lib.contains_iff_indexByte chars.data.toList x
        have hback : ((x.toNat : Int)).toNat.toUInt8 = x := by simp
        cases hin : chars.data.toList.contains x
        · rw [hin] at hcon
          have hlt : ¬ ((0 : Int) ≤ Lib.indexByte chars.data.toList x) := of_decide_eq_false hcon.symm
          clear hcon
          go_wp2_with (go_at_call 59; refine (Try.strings_IndexRune_ascii _ _ _ (by omega) (by omega)).mono ?_; rintro e w3 ⟨rfl, hw⟩; rw [hw, hback])
          go_roundg g
          case measure => omega
          case rel => exact ⟨i + 1, by omega, by omega, HI2, HB2, HN.out.succ Hx.out hin⟩
        · rw [hin] at hcon
          have hge : (0 : Int) ≤ Lib.indexByte chars.data.toList x := of_decide_eq_true hcon.symm
          clear hcon
          go_wp2_with (go_at_call 59; refine (Try.strings_IndexRune_ascii _ _ _ (by omega) (by omega)).mono ?_; rintro e w3 ⟨rfl, hw⟩; rw [hw, hback])
          go_ret
          exact ⟨by rw [Lib.indexAny_hit HN.out Hx.out hin]; rfl, HB2.out⟩
    · obtain rfl : i = s.size := by omega
      have hnx := fun ty => Lib.run_next_end_at (P := Try.prog) wr w'.heap.size s s.size ty HI.out (by omega)
      go_wp2
      go_ret
      exact ⟨by rw [Lib.indexAny_none (by rw [← Lib.size_eq]; exact HN.out)]; rfl, HB.out⟩
end ContainsAny
def strings_ContainsAny.f (a0 a1 : ByteArray) : Option Bool := if a0.size < 4294967281 ∧ 2 ≤ a1.size ∧ a1.size < 4294967281 ∧ (a1.data.toList.all fun b => decide (b.toNat < 128)) = true then some (Lib.containsAny a0.data.toList a1.data.toList) else none
set_option maxHeartbeats 2000000 in
theorem strings_ContainsAny.calls (a0 a1 : ByteArray) (r : Bool) (w : World) (hG : Glob w) (h : strings_ContainsAny.f a0 a1 = some r) :
    Calls Try.prog 44 #[.string a0, .string a1] w fun e w' => e = .returned (.bool r) ∧ Below w.heap.size w w' := by
  unfold strings_ContainsAny.f at h
  split at h
  · rename_i hs
    obtain ⟨hs0, hs1, hs2, hs3⟩ := hs
    obtain rfl := Option.some.inj h
    have hac : ∀ (j : Nat) b, a1.data.toList[j]? = some b → b.toNat < 128 := fun j b hb => by
      have := List.all_eq_true.1 hs3 b (List.mem_iff_getElem?.2 ⟨j, hb⟩)
      simpa using this
    clear hs3
    have C : Calls Try.prog 52 #[.string a0, .string a1] w fun e w' => e = .returned (.int .i64 (Lib.indexAny a0.data.toList a1.data.toList)) ∧ Below w.heap.size w w' := by
      rcases Nat.lt_or_ge 8 a0.size with h8 | h8
      · exact (Try.strings_IndexAny_long (fun w => by kernel_rfl) a0 a1 w hs1 h8 hs0 hs2 hac).mono fun e w' hh => ⟨hh.1, by rw [hh.2]; exact ((Below.refl _ _).alloc (Nat.le_refl _) _).alloc (by simp) _⟩
      · exact ContainsAny.indexAny_short a0 a1 w hs1 h8 hs2 hac
    clear hac
    go_enter Try.func44, Try.ntmps44
    go_wp2_with (go_at_call 52; refine C.mono ?_; rintro e w3 ⟨rfl, hb3⟩)
    go_ret
    exact ⟨rfl, hb3⟩
  · exact absurd h (by simp)
end Go.Proofs.Ytomkimifooddpaa.Q
namespace Go.Proofs.Ytomkimifooddpaa.Q
open Go.RowKit Go.Proofs.YtomkimifooddpaaW.PrintWords Go.Proofs.YtomkimifooddpaaW.PrintLast Go.Proofs.YtomkimifooddpaaW.Own Go.Proofs.YtomkimifooddpaaW.PrintMore
attribute [local go_sem] max2_int min2_int max_two min_two max_three min_three max_four min_four   -- for this text's walks alone
set_option linter.unusedVariables false
set_option linter.unusedSimpArgs false
set_option maxHeartbeats 20000000
set_option maxRecDepth 100000
mutual
def expr_Split.l0 : Nat → ByteArray → List (S78) → Option ((List (S78)) × Int)
 | 0, _, _ => none
 | k + 1, x0, x4 => (strings_Cut.f x0 (⟨#[36, 123]⟩ : ByteArray)).bind fun bt108 => (if bt108.1.toList = ([] : List UInt8) then (expr_Split.j1 k x4 bt108.2.1 bt108.2.2) else (if x4.length < 5864062014805 then (expr_Split.j1 k (x4 ++ [(⟨false, bt108.1⟩ : S78)]) bt108.2.1 bt108.2.2) else (none)))
def expr_Split.j1 : Nat → List (S78) → ByteArray → Bool → Option ((List (S78)) × Int)
 | 0, _, _, _ => none
 | k + 1, x4, x6, x7 => if x7 = true then ((strings_Cut.f x6 (⟨#[125]⟩ : ByteArray)).bind fun bt114 => (if bt114.2.2 = true then (if bt114.1.toList = ([] : List UInt8) then (some (([] : List (S78)), 17)) else ((strings_ContainsAny.f bt114.1 (⟨#[36, 123]⟩ : ByteArray)).bind fun t117 => (if t117 = true then (some (([] : List (S78)), 17)) else (if x4.length < 5864062014805 then (expr_Split.l0 k bt114.2.1 (x4 ++ [(⟨true, bt114.1⟩ : S78)])) else (none))))) else (some (([] : List (S78)), 17)))) else (some (x4, 0))
end
def expr_Split.f (k : Nat) (a0 : ByteArray) : Option ((List (S78)) × Int) := expr_Split.l0 k a0 ([] : List (S78))
theorem expr_Split.calls (k : Nat) (a0 : ByteArray) (r1 : List (S78)) (r2 : Int) (w : World) (hG : Glob w) (h : expr_Split.f k a0 = some (r1, r2)) :
 Calls Try.prog 36 #[.string a0] w fun e w' => ∃ v0_ : Value, e = .returned (.tuple #[v0_, .int .i64 r2]) ∧ Kd.R k78 78 w' w.heap.size (fun _ => True) v0_ r1 ∧ Below w.heap.size w w' := by
 have hu78 := Try.underlying78
 have HG := Aside0.mk hG
 clear hG
 have HB := Aside0.mk (Below.refl w.heap.size w)
 have H : (expr_Split.l0 k a0 ([] : List (S78))) = some (r1, r2) := h
 clear h
 have HS2 := Aside0.mk H
 clear H
 go_enter Try.func36, Try.ntmps36
 go_wp2
 refine wp_scope_loop 0 (by rfl) ?_
 have H := HS2.out
 clear HS2
 have H' := Aside0.mk H
 clear H
 go_wp2
 refine wp_label ?_
 rename_i hlb
 refine hlb _ _ ?_
 refine wp_at_label ?_
 refine LoopAt.intro (fun aB_ kq_ a1 w1 => ∃ (u0 u2 u3 u4 u5 u6 u7 u8 u9 u10 u11 u12 u13 u14 u15 u16 u17 u18 u19 u20 u21 u22 u23 u24 u25 u26 u27 u28 u29 u30 u31 u32 u33 u34 u35 u36 u37 u38 u39 u40 u41 u42 u43 u44 u45 u46 u47 u48 : Value), (fun kq v0 v4 w' => ∃ (x0_1 : ByteArray) (x4_1 : List (S78)), v0 = .string x0_1 ∧ Aside0 (expr_Split.l0 kq x0_1 x4_1 = some (r1, r2)) ∧ Aside0 (kq ≤ k) ∧ Aside0 (Kd.R k78 78 w' w.heap.size (fun _ => True) v4 x4_1) ∧ Aside0 (Below w.heap.size w w')) kq_ u0 u4 w1 ∧ a1 = ((((((((((((((((((((((((((((((((((((((((((((((((aB_.put (some 0) u0).put (some 2) u2).put (some 3) u3).put (some 4) u4).put (some 5) u5).put (some 6) u6).put (some 7) u7).put (some 8) u8).put (some 9) u9).put (some 10) u10).put (some 11) u11).put (some 12) u12).put (some 13) u13).put (some 14) u14).put (some 15) u15).put (some 16) u16).put (some 17) u17).put (some 18) u18).put (some 19) u19).put (some 20) u20).put (some 21) u21).put (some 22) u22).put (some 23) u23).put (some 24) u24).put (some 25) u25).put (some 26) u26).put (some 27) u27).put (some 28) u28).put (some 29) u29).put (some 30) u30).put (some 31) u31).put (some 32) u32).put (some 33) u33).put (some 34) u34).put (some 35) u35).put (some 36) u36).put (some 37) u37).put (some 38) u38).put (some 39) u39).put (some 40) u40).put (some 41) u41).put (some 42) u42).put (some 43) u43).put (some 44) u44).put (some 45) u45).put (some 46) u46).put (some 47) u47).put (some 48) u48)) k ?_ ?_
 ·(repeat apply Exists.intro)
  (try simp only [Act.put, List.setIfInBounds_toArray, List.set_cons_zero, List.set_cons_succ])
  refine ⟨?_, rfl⟩
  exact ⟨(a0), (([] : List (S78))), cA, H', ⟨Nat.le_refl _⟩, ⟨by first | exact Kd.R_nil _ _ _ _ _ | exact Kd.N_nil _ _ _ _ _ | exact Kd.V_nil _ _ _ _ _ | exact Kd.Q_nil _ _ _ _ _ | exact Kd.S_nil _ _ _ _ _⟩, ⟨bE⟩⟩
 ·intro gk a1 wr hinv
  obtain ⟨u0, u2, u3, u4, u5, u6, u7, u8, u9, u10, u11, u12, u13, u14, u15, u16, u17, u18, u19, u20, u21, u22, u23, u24, u25, u26, u27, u28, u29, u30, u31, u32, u33, u34, u35, u36, u37, u38, u39, u40, u41, u42, u43, u44, u45, u46, u47, u48, hrel, ha⟩ := hinv
  subst ha
  (try simp only [Act.put, List.setIfInBounds_toArray, List.set_cons_zero, List.set_cons_succ])
  intro Js0 Ks0 hJs0 hKs0
  clear H'
  try clear p2
  obtain ⟨x0_1, x4_1, rfl, HA, HK1, HO_4, HB⟩ := hrel
  cases gk with
  | zero => exact absurd HA.out (by simp [expr_Split.l0])
  | succ k1 =>
   have H := HA.out
   clear HA
   simp only [expr_Split.l0] at H
   replace H := bi H
   obtain ⟨⟨t108, t109, t110⟩, A30, H⟩ := H
   try dsimp only at H
   have A3 := Aside0.mk A30
   clear A30
   have HC4 := Aside0.mk H
   clear H
   go_upto_if 18 with (first | (refine gl (some 13) Try.func43 #[.string x0_1, .string (⟨#[36, 123]⟩ : ByteArray)] ?_; (with_reducible refine (strings_Cut.calls x0_1 (⟨#[36, 123]⟩ : ByteArray) t108 t109 t110 _ (gS HG) A3.out).mono ?_); rintro e w' ⟨rfl, ⟨nd, rfl⟩⟩; refine ⟨_, rfl, ?_⟩))
   (try simp only [Act.put, List.setIfInBounds_toArray, List.set_cons_zero, List.set_cons_succ])
   go_cut [4] (fun v4 wc => ∃ (kq : Nat) (x4_3 : List (S78)), Aside0 (expr_Split.j1 kq x4_3 t109 t110 = some (r1, r2)) ∧ Aside0 (kq ≤ k1) ∧ Aside0 (Kd.R k78 78 wc w.heap.size (fun _ => True) v4 x4_3) ∧ Aside0 (Below w.heap.size w wc))
   case first =>
    have H := HC4.out
    clear HC4
    by_cases c5 : t108.toList = ([] : List UInt8)
    ·rw [if_pos c5] at H
     obtain ⟨c5b0, c5b1⟩ := eqT c5
     (try (have c5b2 : t108.toList.isEmpty = true := by simpa using c5))
     clear c5
     (first | rw [c5b0] | rw [c5b2] | (simp only [i64_w, i32_w]; rw [c5b0]) | skip)
     have H' := Aside0.mk H
     clear H
     go_wp2
     go_meet
     case rel => exact ⟨_, (x4_1), H', ⟨by have := HK1.out; first | omega | exact Nat.le_refl _⟩, ⟨kR HO_4⟩, ⟨bE⟩⟩
    rw [if_neg c5] at H
    obtain ⟨c5b0, c5b1⟩ := eqF c5
    (try (have c5b2 : t108.toList.isEmpty = false := by simpa using c5))
    (first | rw [c5b0] | rw [c5b2] | (simp only [i64_w, i32_w]; rw [c5b0]) | skip)
    by_cases c6 : x4_1.length < 5864062014805
    rotate_left
    ·rw [if_neg c6] at H
     exact absurd H (by simp)
    rw [if_pos c6] at H
    have LMc6 := Aside0.mk c6
    clear c6
    obtain ⟨y111, hy111⟩ : ∃ y_ : List (S78), y_ = (x4_1 ++ [(⟨false, t108⟩ : S78)]) := ⟨_, rfl⟩
    replace H : (expr_Split.j1 k1 y111 t109 t110) = some (r1, r2) := by first | (rw [hy111]; with_reducible exact H) | (have H2_ := (Option.bind_some _ _).symm.trans H; rw [hy111]; with_reducible exact H2_) | (have H2_ := (Option.bind_some _ _).symm.trans H; with_reducible exact H2_) | with_reducible exact H | (rw [hy111]; exact H) | exact H
    have Ny111 := Aside0.mk hy111
    clear hy111
    have H' := Aside0.mk H
    clear H
    go_wp2_with (first | ((with_reducible refine gate_builtin (b := .append) (xs := #[.tmp 19, .tmp 22]) rfl ?_); at_builtin; refine Kd.R_append k78 (w0 := w) w.heap.size rfl (.tmp 19) (.tmp 22) 66 78 (.agg #[(.bool false), (.string ⟨#[]⟩)]) 24 rfl Try.underlying66 info78 rfl (by decide) (by omega) u4 x4_1 (⟨false, t108⟩ : S78) [.bool false, .string t108] (fun _ => True) (fun _ => False) rfl rfl ?aP (fun _ hk => hk.elim) ?aF ?aO ?aB ?aS ?aL ?_; (case aP => exact k78_mkM _ _ _ (⟨false, t108⟩ : S78)); (case aB => exact bE); (case aF => exact (fun _ _ => trivial)); (case aO => exact (kR HO_4)); (case aS => exact (below_size bE)); (case aL => have := LMc6.out; omega); intro v112 w7 ho hb hg hat; rw [← Ny111.out] at ho; replace HB := Aside0.mk (hb); have HO113 := Aside0.mk (ho); clear HO_4; clear ho hb hg hat))
    go_meet
    case rel => exact ⟨_, (y111), H', ⟨by have := HK1.out; first | omega | exact Nat.le_refl _⟩, ⟨kR HO113⟩, ⟨bE⟩⟩
   clear HC4
   try clear p2
   try clear c3
   try clear c4
   try clear c5
   try clear c5b0
   try clear c5b1
   try clear c5b2
   try clear c6
   try clear p2
   obtain ⟨kq, x4_3, HA, HJ3, HO_4, HB⟩ := hcut
   cases kq with
   | zero => exact absurd HA.out (by simp [expr_Split.j1])
   | succ kj3 =>
    have H := HA.out
    clear HA
    simp only [expr_Split.j1] at H
    by_cases c8 : t110 = true
    rotate_left
    ·replace c8 := Bool.eq_false_iff.mpr c8
     subst c8
     have H1 : (some (x4_3, 0)) = some (r1, r2) := by rw [if_neg (show ¬ (false = true) by decide)] at H; exact H
     clear H
     have H := H1
     clear H1
     simp only [Option.some.injEq, Prod.mk.injEq] at H
     obtain ⟨rfl, rfl⟩ := H
     go_wp2
     (try simp only [Exit.inBlock, Exit.then, jump_ret])
     go_ret2
     exact ⟨_, by first | rfl | (simp [errW_none, errW_some] <;> rfl) | (simp [*, errW_none, errW_some] <;> rfl), by (with_reducible repeat (first | apply Kd.R_alloc | apply Kd.R_drewN | apply Kd.R_drew)); exact HO_4.out, bE⟩
    subst c8
    have H1 : ((strings_Cut.f t109 (⟨#[125]⟩ : ByteArray)).bind fun bt114 => (if bt114.2.2 = true then (if bt114.1.toList = ([] : List UInt8) then (some (([] : List (S78)), 17)) else ((strings_ContainsAny.f bt114.1 (⟨#[36, 123]⟩ : ByteArray)).bind fun t117 => (if t117 = true then (some (([] : List (S78)), 17)) else (if x4_3.length < 5864062014805 then (expr_Split.l0 kj3 bt114.2.1 (x4_3 ++ [(⟨true, bt114.1⟩ : S78)])) else (none))))) else (some (([] : List (S78)), 17)))) = some (r1, r2) := by rw [if_pos rfl] at H; exact H
    clear H
    have H := H1
    clear H1
    replace H := bi H
    obtain ⟨⟨t114, t115, t116⟩, A90, H⟩ := H
    try dsimp only at H
    have A9 := Aside0.mk A90
    clear A90
    by_cases c10 : t116 = true
    rotate_left
    ·replace c10 := Bool.eq_false_iff.mpr c10
     subst c10
     have H1 : (some (([] : List (S78)), 17)) = some (r1, r2) := by rw [if_neg (show ¬ (false = true) by decide)] at H; exact H
     clear H
     have H := H1
     clear H1
     simp only [Option.some.injEq, Prod.mk.injEq] at H
     obtain ⟨rfl, rfl⟩ := H
     go_wp2_with (first | (refine gl (some 29) Try.func43 #[.string t109, .string (⟨#[125]⟩ : ByteArray)] ?_; (with_reducible refine (strings_Cut.calls t109 (⟨#[125]⟩ : ByteArray) t114 t115 false _ (gS HG) A9.out).mono ?_); rintro e w' ⟨rfl, ⟨nd, rfl⟩⟩; refine ⟨_, rfl, ?_⟩))
     (try simp only [Exit.inBlock, Exit.then, jump_ret])
     go_ret2
     exact ⟨_, by first | rfl | (simp [errW_none, errW_some] <;> rfl) | (simp [*, errW_none, errW_some] <;> rfl), by first | exact Kd.R_nil _ _ _ _ _ | exact Kd.N_nil _ _ _ _ _ | exact Kd.V_nil _ _ _ _ _ | exact Kd.Q_nil _ _ _ _ _ | exact Kd.S_nil _ _ _ _ _, bE⟩
    subst c10
    have H1 : (if t114.toList = ([] : List UInt8) then (some (([] : List (S78)), 17)) else ((strings_ContainsAny.f t114 (⟨#[36, 123]⟩ : ByteArray)).bind fun t117 => (if t117 = true then (some (([] : List (S78)), 17)) else (if x4_3.length < 5864062014805 then (expr_Split.l0 kj3 t115 (x4_3 ++ [(⟨true, t114⟩ : S78)])) else (none))))) = some (r1, r2) := by rw [if_pos rfl] at H; exact H
    clear H
    have H := H1
    clear H1
    by_cases c11 : t114.toList = ([] : List UInt8)
    ·rw [if_pos c11] at H
     obtain ⟨c11b0, c11b1⟩ := eqT c11
     (try (have c11b2 : t114.toList.isEmpty = true := by simpa using c11))
     clear c11
     simp only [Option.some.injEq, Prod.mk.injEq] at H
     obtain ⟨rfl, rfl⟩ := H
     go_wp2_with (first | (refine gl (some 29) Try.func43 #[.string t109, .string (⟨#[125]⟩ : ByteArray)] ?_; (with_reducible refine (strings_Cut.calls t109 (⟨#[125]⟩ : ByteArray) t114 t115 true _ (gS HG) A9.out).mono ?_); rintro e w' ⟨rfl, ⟨nd, rfl⟩⟩; refine ⟨_, rfl, ?_⟩))
     (try simp only [Exit.inBlock, Exit.then, jump_ret])
     go_ret2
     exact ⟨_, by first | rfl | (simp [errW_none, errW_some] <;> rfl) | (simp [*, errW_none, errW_some] <;> rfl), by first | exact Kd.R_nil _ _ _ _ _ | exact Kd.N_nil _ _ _ _ _ | exact Kd.V_nil _ _ _ _ _ | exact Kd.Q_nil _ _ _ _ _ | exact Kd.S_nil _ _ _ _ _, bE⟩
    rw [if_neg c11] at H
    obtain ⟨c11b0, c11b1⟩ := eqF c11
    (try (have c11b2 : t114.toList.isEmpty = false := by simpa using c11))
    replace H := bi H
    obtain ⟨t117, A120, H⟩ := H
    try dsimp only at H
    have A12 := Aside0.mk A120
    clear A120
    by_cases c13 : t117 = true
    ·subst c13
     have H1 : (some (([] : List (S78)), 17)) = some (r1, r2) := by rw [if_pos rfl] at H; exact H
     clear H
     have H := H1
     clear H1
     simp only [Option.some.injEq, Prod.mk.injEq] at H
     obtain ⟨rfl, rfl⟩ := H
     go_wp2_with (first | (refine gl (some 29) Try.func43 #[.string t109, .string (⟨#[125]⟩ : ByteArray)] ?_; (with_reducible refine (strings_Cut.calls t109 (⟨#[125]⟩ : ByteArray) t114 t115 true _ (gS HG) A9.out).mono ?_); rintro e w' ⟨rfl, ⟨nd, rfl⟩⟩; refine ⟨_, rfl, ?_⟩) | (go_at_call 44; (with_reducible refine (strings_ContainsAny.calls t114 (⟨#[36, 123]⟩ : ByteArray) true _ (gS HG) A12.out).mono ?_); rintro e w14 ⟨rfl, hb⟩; replace HO_4 := rB HO_4 hb; replace HB := sB hb; (try clear hb)))
     (try simp only [Exit.inBlock, Exit.then, jump_ret])
     go_ret2
     exact ⟨_, by first | rfl | (simp [errW_none, errW_some] <;> rfl) | (simp [*, errW_none, errW_some] <;> rfl), by first | exact Kd.R_nil _ _ _ _ _ | exact Kd.N_nil _ _ _ _ _ | exact Kd.V_nil _ _ _ _ _ | exact Kd.Q_nil _ _ _ _ _ | exact Kd.S_nil _ _ _ _ _, bE⟩
    replace c13 := Bool.eq_false_iff.mpr c13
    subst c13
    have H1 : (if x4_3.length < 5864062014805 then (expr_Split.l0 kj3 t115 (x4_3 ++ [(⟨true, t114⟩ : S78)])) else (none)) = some (r1, r2) := by rw [if_neg (show ¬ (false = true) by decide)] at H; exact H
    clear H
    have H := H1
    clear H1
    by_cases c15 : x4_3.length < 5864062014805
    rotate_left
    ·rw [if_neg c15] at H
     exact absurd H (by simp)
    rw [if_pos c15] at H
    have LMc15 := Aside0.mk c15
    clear c15
    obtain ⟨y118, hy118⟩ : ∃ y_ : List (S78), y_ = (x4_3 ++ [(⟨true, t114⟩ : S78)]) := ⟨_, rfl⟩
    replace H : (expr_Split.l0 kj3 t115 y118) = some (r1, r2) := by first | (rw [hy118]; with_reducible exact H) | (have H2_ := (Option.bind_some _ _).symm.trans H; rw [hy118]; with_reducible exact H2_) | (have H2_ := (Option.bind_some _ _).symm.trans H; with_reducible exact H2_) | with_reducible exact H | (rw [hy118]; exact H) | exact H
    have Ny118 := Aside0.mk hy118
    clear hy118
    have H' := Aside0.mk H
    clear H
    go_wp2_with (first | (refine gl (some 29) Try.func43 #[.string t109, .string (⟨#[125]⟩ : ByteArray)] ?_; (with_reducible refine (strings_Cut.calls t109 (⟨#[125]⟩ : ByteArray) t114 t115 true _ (gS HG) A9.out).mono ?_); rintro e w' ⟨rfl, ⟨nd, rfl⟩⟩; refine ⟨_, rfl, ?_⟩) | (go_at_call 44; (with_reducible refine (strings_ContainsAny.calls t114 (⟨#[36, 123]⟩ : ByteArray) false _ (gS HG) A12.out).mono ?_); rintro e w16 ⟨rfl, hb⟩; replace HO_4 := rB HO_4 hb; replace HB := sB hb; (try clear hb)) | ((with_reducible refine gate_builtin (b := .append) (xs := #[.tmp 43, .tmp 46]) rfl ?_); at_builtin; refine Kd.R_append k78 (w0 := w) w.heap.size rfl (.tmp 43) (.tmp 46) 66 78 (.agg #[(.bool false), (.string ⟨#[]⟩)]) 24 rfl Try.underlying66 info78 rfl (by decide) (by omega) u4 x4_3 (⟨true, t114⟩ : S78) [.bool true, .string t114] (fun _ => True) (fun _ => False) rfl rfl ?aP (fun _ hk => hk.elim) ?aF ?aO ?aB ?aS ?aL ?_; (case aP => exact k78_mkM _ _ _ (⟨true, t114⟩ : S78)); (case aB => exact bE); (case aF => exact (fun _ _ => trivial)); (case aO => exact (kR HO_4)); (case aS => exact (below_size bE)); (case aL => have := LMc15.out; omega); intro v119 w17 ho hb hg hat; rw [← Ny118.out] at ho; replace HB := Aside0.mk (hb); have HO120 := Aside0.mk (ho); clear HO_4; clear ho hb hg hat))
    refine wp_goto (And.intro rfl ?_)
    refine hKs0 _ _ ?_
    go_roundg kj3
    case measure => have := HK1.out; have := HJ3.out; omega
    case rel => exact ⟨(t115), (y118), cA, H', ⟨by have := HK1.out; have := HJ3.out; omega⟩, ⟨kR HO120⟩, ⟨bE⟩⟩
def chars_Space.f (a0 : Int) : Option (Bool) := if a0 = 9 then (some true) else (if a0 = 10 then (some true) else (if a0 = 13 then (some true) else (some (a0 == 32))))
theorem chars_Space.calls (a0 : Int) (r : Bool) (w : World) (hG : Glob w) (h : chars_Space.f a0 = some r) :
 Calls Try.prog 53 #[.int .u8 a0] w fun e w' => e = .returned (.bool r) ∧ Drawn0 w w' := by
 have HG := Aside0.mk hG
 clear hG
 have H : (if a0 = 9 then (some true) else (if a0 = 10 then (some true) else (if a0 = 13 then (some true) else (some (a0 == 32))))) = some r := h
 clear h
 by_cases c2 : a0 = 9
 ·rw [if_pos c2] at H
  obtain ⟨c2b0, c2b1⟩ := eqT c2
  clear c2
  obtain rfl := Option.some.inj H
  go_enter Try.func53, Try.ntmps53
  go_wp2
  go_ret
  exact ⟨by first | rfl | (simp; done) | (simp [*]; done), by repeat (first | exact Drawn0.refl _ | apply Drawn0.step)⟩
 rw [if_neg c2] at H
 obtain ⟨c2b0, c2b1⟩ := eqF c2
 by_cases c3 : a0 = 10
 ·rw [if_pos c3] at H
  obtain ⟨c3b0, c3b1⟩ := eqT c3
  clear c3
  obtain rfl := Option.some.inj H
  go_enter Try.func53, Try.ntmps53
  go_wp2
  go_ret
  exact ⟨by first | rfl | (simp; done) | (simp [*]; done), by repeat (first | exact Drawn0.refl _ | apply Drawn0.step)⟩
 rw [if_neg c3] at H
 obtain ⟨c3b0, c3b1⟩ := eqF c3
 by_cases c4 : a0 = 13
 rotate_left
 ·rw [if_neg c4] at H
  obtain ⟨c4b0, c4b1⟩ := eqF c4
  obtain rfl := Option.some.inj H
  go_enter Try.func53, Try.ntmps53
  go_wp2
  go_ret
  exact ⟨by first | rfl | (simp; done) | (simp [*]; done), by repeat (first | exact Drawn0.refl _ | apply Drawn0.step)⟩
 rw [if_pos c4] at H
 obtain ⟨c4b0, c4b1⟩ := eqT c4
 clear c4
 obtain rfl := Option.some.inj H
 go_enter Try.func53, Try.ntmps53
 go_wp2
 go_ret
 exact ⟨by first | rfl | (simp; done) | (simp [*]; done), by repeat (first | exact Drawn0.refl _ | apply Drawn0.step)⟩
mutual
def chars_Trim.j1 : Nat → ByteArray → Option (ByteArray)
 | 0, _ => none
 | k + 1, x0 => chars_Trim.l1 k x0
def chars_Trim.l1 : Nat → ByteArray → Option (ByteArray)
 | 0, _ => none
 | k + 1, x0 => if x0.toList = ([] : List UInt8) then (some x0) else (if 0 ≤ (wrap64 ((x0.size : Int) - 1)) then (if (wrap64 ((x0.size : Int) - 1)) < (x0.size : Int) then ((chars_Space.f (bt x0 (wrap64 ((x0.size : Int) - 1)))).bind fun t122 => (if t122 = true then (if (wrap64 ((x0.size : Int) - 1)) ≤ (x0.size : Int) then (chars_Trim.l1 k (x0.extract 0 ((wrap64 ((x0.size : Int) - 1)) : Int).toNat)) else (none)) else (some x0))) else (none)) else (none))
def chars_Trim.l0 : Nat → ByteArray → Option (ByteArray)
 | 0, _ => none
 | k + 1, x0 => if x0.toList = ([] : List UInt8) then (chars_Trim.j1 k x0) else (if 0 < (x0.size : Int) then ((chars_Space.f (bt x0 0)).bind fun t121 => (if t121 = true then (if 1 ≤ (x0.size : Int) then (chars_Trim.l0 k (x0.extract 1 x0.size)) else (none)) else (chars_Trim.j1 k x0))) else (none))
end
def chars_Trim.f (k : Nat) (a0 : ByteArray) : Option (ByteArray) := chars_Trim.l0 k a0
theorem chars_Trim.calls (k : Nat) (a0 : ByteArray) (r : ByteArray) (w : World) (hG : Glob w) (h : chars_Trim.f k a0 = some r) :
 Calls Try.prog 45 #[.string a0] w fun e w' => e = .returned (.string r) ∧ Drawn0 w w' := by
 have HG := Aside0.mk hG
 clear hG
 have H : (chars_Trim.l0 k a0) = some r := h
 clear h
 have HC2 := Aside0.mk H
 clear H
 go_enter Try.func45, Try.ntmps45
 go_upto_block 0 with (fail)
 go_cut [0] (fun v0 wc => ∃ (kq : Nat) (x0_1 : ByteArray), v0 = .string x0_1 ∧ Aside0 (chars_Trim.j1 kq x0_1 = some r) ∧ Aside0 (kq ≤ k) ∧ Drawn0 w wc)
 case first =>
  have H := HC2.out
  clear HC2
  have H' := Aside0.mk H
  clear H
  go_wp2
  go_loopg [0] k (fun kq v0 w' => ∃ (x0_1 : ByteArray), v0 = .string x0_1 ∧ Aside0 (chars_Trim.l0 kq x0_1 = some r) ∧ Aside0 (kq ≤ k) ∧ Drawn0 w w')
  case atStart => exact ⟨(a0), cA, H', ⟨Nat.le_refl _⟩, by repeat (first | exact Drawn0.refl _ | apply Drawn0.step)⟩
  clear H'
  try clear p2
  obtain ⟨x0_1, rfl, HA, HK1, ⟨m1, rfl⟩⟩ := hrel
  cases gk with
  | zero => exact absurd HA.out (by simp [chars_Trim.l0])
  | succ k1 =>
   have H := HA.out
   clear HA
   simp only [chars_Trim.l0] at H
   (try simp only [toList_lit] at H)
   by_cases c3 : x0_1.toList = ([] : List UInt8)
   ·rw [if_pos c3] at H
    obtain ⟨c3b0, c3b1⟩ := eqT c3
    (try (have c3b2 : x0_1.toList.isEmpty = true := by simpa using c3))
    clear c3
    (first | rw [c3b0] | rw [c3b2] | (simp only [i64_w, i32_w]; rw [c3b0]) | skip)
    have H' := Aside0.mk H
    clear H
    go_wp2
    go_meet
    case rel => exact ⟨_, (x0_1), cA, H', ⟨by have := HK1.out; first | omega | exact Nat.le_refl _⟩, by repeat (first | exact Drawn0.refl _ | apply Drawn0.step)⟩
   rw [if_neg c3] at H
   obtain ⟨c3b0, c3b1⟩ := eqF c3
   (try (have c3b2 : x0_1.toList.isEmpty = false := by simpa using c3))
   (first | rw [c3b0] | rw [c3b2] | (simp only [i64_w, i32_w]; rw [c3b0]) | skip)
   by_cases c4 : 0 < (x0_1.size : Int)
   rotate_left
   ·rw [if_neg c4] at H
    exact absurd H (by simp)
   rw [if_pos c4] at H
   have c4b0 := dT c4
   have c4b1 : decide (0 < x0_1.size) = true := decide_eq_true (by omega)
   clear c4
   replace H := bi H
   obtain ⟨t121, A60, H⟩ := H
   try dsimp only at H
   have A6 := Aside0.mk A60
   clear A60
   by_cases c7 : t121 = true
   rotate_left
   ·replace c7 := Bool.eq_false_iff.mpr c7
    subst c7
    have H1 : (chars_Trim.j1 k1 x0_1) = some r := by rw [if_neg (show ¬ (false = true) by decide)] at H; exact H
    clear H
    have H := H1
    clear H1
    have H' := Aside0.mk H
    clear H
    have p5 : 0 ≤ (0 : Int) := (by omega)
    have q5 : 0 < x0_1.size := (by have : (0 : Int) < (x0_1.size : Int) := dA; omega)
    have hx5 : ∀ h : 0 < x0_1.size, ((x0_1[0]'h).toNat : Int) = bt x0_1 0 := bt_at x0_1 0
    clear p5
    have qi5 : (0 < (x0_1.size : Int)) = True := eq_true (dA)
    replace q5 := eq_true q5
    go_wp2_with (first | (go_at_call 53; (with_reducible refine (chars_Space.calls (bt x0_1 0) false _ ?side1 A6.out).mono ?_); (case side1 => exact Glob.drawn HG.out (by repeat (first | exact Drawn0.refl _ | apply Drawn0.step))); rintro e w' ⟨rfl, ⟨nd, rfl⟩⟩))
    go_meet
    case rel => exact ⟨_, (x0_1), cA, H', ⟨by have := HK1.out; first | omega | exact Nat.le_refl _⟩, by repeat (first | exact Drawn0.refl _ | apply Drawn0.step)⟩
   subst c7
   have H1 : (if 1 ≤ (x0_1.size : Int) then (chars_Trim.l0 k1 (x0_1.extract 1 x0_1.size)) else (none)) = some r := by rw [if_pos rfl] at H; exact H
   clear H
   have H := H1
   clear H1
   by_cases c8 : 1 ≤ (x0_1.size : Int)
   rotate_left
   ·rw [if_neg c8] at H
    exact absurd H (by simp)
   rw [if_pos c8] at H
   have c8b0 := eq_true c8
   have c8b1 := dT c8
   clear c8
   have H' := Aside0.mk H
   clear H
   have p5 : 0 ≤ (0 : Int) := (by omega)
   have q5 : 0 < x0_1.size := (by have : (0 : Int) < (x0_1.size : Int) := dA; omega)
   have hx5 : ∀ h : 0 < x0_1.size, ((x0_1[0]'h).toNat : Int) = bt x0_1 0 := bt_at x0_1 0
   clear p5
   have qi5 : (0 < (x0_1.size : Int)) = True := eq_true (dA)
   replace q5 := eq_true q5
   go_wp2_with (first | (go_at_call 53; (with_reducible refine (chars_Space.calls (bt x0_1 0) true _ ?side1 A6.out).mono ?_); (case side1 => exact Glob.drawn HG.out (by repeat (first | exact Drawn0.refl _ | apply Drawn0.step))); rintro e w' ⟨rfl, ⟨nd, rfl⟩⟩))
   go_roundg k1
   case measure => have := HK1.out; omega
   case rel => exact ⟨(x0_1.extract 1 x0_1.size), cA, H', ⟨by have := HK1.out; omega⟩, by repeat (first | exact Drawn0.refl _ | apply Drawn0.step)⟩
 clear HC2
 try clear p2
 try clear c3
 try clear c3b0
 try clear c3b1
 try clear c3b2
 try clear c4
 try clear c4b0
 try clear c4b1
 try clear p5
 try clear q5
 try clear hx5
 try clear qi5
 try clear c7
 try clear c8
 try clear c8b0
 try clear c8b1
 try clear p2
 try clear p5
 try clear q5
 obtain ⟨kq, x0_1, rfl, HA, HJ1, ⟨mc1, rfl⟩⟩ := hcut
 cases kq with
 | zero => exact absurd HA.out (by simp [chars_Trim.j1])
 | succ kj1 =>
  have H := HA.out
  clear HA
  simp only [chars_Trim.j1] at H
  (try simp only [toList_lit] at H)
  have H' := Aside0.mk H
  clear H
  go_wp2
  go_loopg [0] kj1 (fun kq v0 w' => ∃ (x0_2 : ByteArray), v0 = .string x0_2 ∧ Aside0 (chars_Trim.l1 kq x0_2 = some r) ∧ Aside0 (kq ≤ kj1) ∧ Drawn0 w w')
  case atStart => exact ⟨(x0_1), cA, H', ⟨Nat.le_refl _⟩, by repeat (first | exact Drawn0.refl _ | apply Drawn0.step)⟩
  clear H'
  try clear c1
  try clear p2
  try clear c3
  try clear c3b0
  try clear c3b1
  try clear c3b2
  try clear c4
  try clear c4b0
  try clear c4b1
  try clear p5
  try clear q5
  try clear hx5
  try clear qi5
  try clear c7
  try clear c8
  try clear c8b0
  try clear c8b1
  try clear p2
  try clear p5
  try clear q5
  obtain ⟨x0_2, rfl, HA, HK2, ⟨m2, rfl⟩⟩ := hrel
  cases gk with
  | zero => exact absurd HA.out (by simp [chars_Trim.l1])
  | succ k2 =>
   have H := HA.out
   clear HA
   simp only [chars_Trim.l1] at H
   (try simp only [toList_lit] at H)
   by_cases c9 : x0_2.toList = ([] : List UInt8)
   ·rw [if_pos c9] at H
    obtain ⟨c9b0, c9b1⟩ := eqT c9
    (try (have c9b2 : x0_2.toList.isEmpty = true := by simpa using c9))
    clear c9
    obtain rfl := Option.some.inj H
    go_wp2
    go_ret
    exact ⟨by first | rfl | (simp; done) | (simp [*]; done), by repeat (first | exact Drawn0.refl _ | apply Drawn0.step)⟩
   rw [if_neg c9] at H
   obtain ⟨c9b0, c9b1⟩ := eqF c9
   (try (have c9b2 : x0_2.toList.isEmpty = false := by simpa using c9))
   obtain ⟨ji10, hji10⟩ : ∃ j_ : Int, (wrap64 ((x0_2.size : Int) - 1)) = j_ := ⟨_, rfl⟩
   rw [hji10] at H
   have hji10w : (IntKind.i64.wrap ((x0_2.size : Int) - 1)) = ji10 := (i64_w _).trans hji10
   by_cases c11 : 0 ≤ (ji10)
   rotate_left
   ·rw [if_neg c11] at H
    exact absurd H (by simp)
   rw [if_pos c11] at H
   have c11b0 := dT c11
   clear c11
   by_cases c12 : (ji10) < (x0_2.size : Int)
   rotate_left
   ·rw [if_neg c12] at H
    exact absurd H (by simp)
   rw [if_pos c12] at H
   have c12b0 := dT c12
   clear c12
   replace H := bi H
   obtain ⟨t122, A140, H⟩ := H
   try dsimp only at H
   have A14 := Aside0.mk A140
   clear A140
   by_cases c15 : t122 = true
   rotate_left
   ·replace c15 := Bool.eq_false_iff.mpr c15
    subst c15
    have H1 : (some x0_2) = some r := by rw [if_neg (show ¬ (false = true) by decide)] at H; exact H
    clear H
    have H := H1
    clear H1
    obtain rfl := Option.some.inj H
    have p13 : 0 ≤ ((ji10) : Int) := dA
    have q13 : (ji10) < (x0_2.size : Int) := dA
    have hx13 := bt_at x0_2 (ji10)
    replace p13 := eq_true p13
    replace q13 := eq_true q13
    go_wp2_with (first | (go_at_call 53; (with_reducible refine (chars_Space.calls (bt x0_2 (ji10)) false _ ?side1 A14.out).mono ?_); (case side1 => exact Glob.drawn HG.out (by repeat (first | exact Drawn0.refl _ | apply Drawn0.step))); rintro e w' ⟨rfl, ⟨nd, rfl⟩⟩))
    go_ret
    exact ⟨by first | rfl | (simp; done) | (simp only [← hji10] <;> (first | rfl | simp)) | (simp [*]; done), by repeat (first | exact Drawn0.refl _ | apply Drawn0.step)⟩
   subst c15
   have H1 : (if (ji10) ≤ (x0_2.size : Int) then (chars_Trim.l1 k2 (x0_2.extract 0 ((ji10) : Int).toNat)) else (none)) = some r := by rw [if_pos rfl] at H; exact H
   clear H
   have H := H1
   clear H1
   have c16b0 := eq_true (dA : 0 ≤ (ji10))
   by_cases c17 : (ji10) ≤ (x0_2.size : Int)
   rotate_left
   ·rw [if_neg c17] at H
    exact absurd H (by simp)
   rw [if_pos c17] at H
   have c17b0 := eq_true c17
   have c17b1 := dT c17
   clear c17
   have H' := Aside0.mk H
   clear H
   have p13 : 0 ≤ ((ji10) : Int) := dA
   have q13 : (ji10) < (x0_2.size : Int) := dA
   have hx13 := bt_at x0_2 (ji10)
   replace p13 := eq_true p13
   replace q13 := eq_true q13
   go_wp2_with (first | (go_at_call 53; (with_reducible refine (chars_Space.calls (bt x0_2 (ji10)) true _ ?side1 A14.out).mono ?_); (case side1 => exact Glob.drawn HG.out (by repeat (first | exact Drawn0.refl _ | apply Drawn0.step))); rintro e w' ⟨rfl, ⟨nd, rfl⟩⟩))
   go_roundg k2
   case measure => have := HJ1.out; have := HK2.out; omega
   case rel => exact ⟨(x0_2.extract 0 ((ji10) : Int).toNat), (by first | rfl | (simp; done) | (simp only [← hji10] <;> (first | rfl | simp)) | (simp [*]; done)), H', ⟨by have := HJ1.out; have := HK2.out; omega⟩, by repeat (first | exact Drawn0.refl _ | apply Drawn0.step)⟩
def strings_Join.f (l0 : List ByteArray) (a1 : ByteArray) : Option ByteArray := if l0.length ≤ 140737488355328 ∧ (Lib.join (l0.map (·.data.toList)) a1.data.toList).length ≤ 140737488355328 then some ⟨(Lib.join (l0.map (·.data.toList)) a1.data.toList).toArray⟩ else none
theorem strings_Join.calls (A0 : Option Addr) (c0 : Nat) (l0 : List ByteArray) (a1 : ByteArray) (r : ByteArray) (w : World) (hr0 : Kd.C Kd.string w A0 l0.length l0) (hc0 : l0.length ≤ c0) (hG : Glob w) (h : strings_Join.f l0 a1 = some r) :
 Calls Try.prog 46 #[.slice A0 l0.length c0, .string a1] w fun e w' => e = .returned (.string r) ∧ Below w.heap.size w w' := by
 unfold strings_Join.f at h
 split at h
 ·rename_i hs
  obtain rfl := Option.some.inj h
  rcases Nat.eq_zero_or_pos l0.length with hz | hz
  ·obtain rfl : l0 = [] := List.eq_nil_of_length_eq_zero hz
   exact (Try.strings_Join_none A0 c0 a1 w).mono fun e w' hh => ⟨hh.1, by rw [hh.2]; exact Below.refl _ _⟩
  ·obtain ⟨ad, rfl, h0⟩ := Kd.at_string hr0 (0 : Int) (by omega) (by omega)
   have hall : ∀ (j : Nat) x, l0[j]? = some x → w.cell? (ad.add j) = some (.string x) := by
    intro j x hx
    obtain ⟨hj, rfl⟩ := List.getElem?_eq_some_iff.1 hx
    obtain ⟨ad', e', hc⟩ := Kd.at_string hr0 (j : Int) (by omega) (by omega)
    obtain rfl := Option.some.inj e'
    rw [Int.toNat_natCast] at hc
    rw [hc]
    congr 2
    unfold rdOf
    rw [Int.toNat_natCast, List.getD_eq_getElem?_getD, List.getElem?_eq_getElem hj]; rfl
   obtain ⟨bk, o, sp⟩ := ad
   have hsp : sp = none := by
    have h1 : w.cell? ⟨bk, o, sp⟩ = some (.string (rdOf ByteArray.empty l0 0)) := h0
    cases sp with
    | none => rfl
    | some p =>
     exfalso
     unfold World.cell? at h1
     dsimp only at h1
     split at h1
     ·simp at h1
     ·cases h1
   subst hsp
   refine (Try.strings_Join bk o c0 l0 a1 w (fun j x hx => ?_) ?_ hs.1 hc0 hs.2).mono fun e w' hh => hh
   ·have := hall j x hx
    unfold Addr.add at this
    by_cases j0 : j = 0
    ·subst j0; simpa using this
    ·simpa [j0] using this
   ·exact World.block_lt_of_cell? w _ h0
 ·exact absurd h (by simp)
def strings_Contains.f (a0 a1 : ByteArray) : Option Bool := if a0.size < 4294967281 then some (Lib.contains a0.data.toList a1.data.toList) else none
theorem strings_Contains.calls (a0 a1 : ByteArray) (r : Bool) (w : World) (hG : Glob w) (h : strings_Contains.f a0 a1 = some r) :
 Calls Try.prog 57 #[.string a0, .string a1] w fun e w' => e = .returned (.bool r) ∧ Drawn0 w w' := by
 unfold strings_Contains.f at h
 split at h
 ·rename_i hs
  obtain rfl := Option.some.inj h
  obtain ⟨m, hm⟩ := hG
  exact (Try.strings_Contains a0 a1 m w hs hm).mono fun e w' hh => ⟨hh.1, ⟨⟨0, hh.2⟩⟩⟩
 ·exact absurd h (by simp)
def expr_Has.f (a0 : ByteArray) : Option (Bool) := (strings_Contains.f a0 (⟨#[36, 123]⟩ : ByteArray)).bind fun t123 => (some t123)
theorem expr_Has.calls (a0 : ByteArray) (r : Bool) (w : World) (hG : Glob w) (h : expr_Has.f a0 = some r) :
 Calls Try.prog 47 #[.string a0] w fun e w' => e = .returned (.bool r) ∧ Drawn0 w w' := by
 have HG := Aside0.mk hG
 clear hG
 have H : ((strings_Contains.f a0 (⟨#[36, 123]⟩ : ByteArray)).bind fun t123 => (some t123)) = some r := h
 clear h
 replace H := bi H
 obtain ⟨t123, A20, H⟩ := H
 try dsimp only at H
 have A2 := Aside0.mk A20
 clear A20
 obtain rfl := Option.some.inj H
 go_enter Try.func47, Try.ntmps47
 go_wp2_with (first | (refine gl (some 4) Try.func57 #[.string a0, .string (⟨#[36, 123]⟩ : ByteArray)] ?_; (with_reducible refine (strings_Contains.calls a0 (⟨#[36, 123]⟩ : ByteArray) t123 _ ?side1 A2.out).mono ?_); (case side1 => exact Glob.drawn HG.out (by repeat (first | exact Drawn0.refl _ | apply Drawn0.step))); rintro e w' ⟨rfl, ⟨nd, rfl⟩⟩; refine ⟨_, rfl, ?_⟩))
 go_ret
 exact ⟨by first | rfl | (simp; done) | (simp [*]; done), by repeat (first | exact Drawn0.refl _ | apply Drawn0.step)⟩
def props_done.f (k : Nat) (l0 : List ByteArray) : Option (ByteArray × Int) := (strings_Join.f l0 (⟨#[]⟩ : ByteArray)).bind fun t124 => ((chars_Trim.f k t124).bind fun t125 => (if (t125.size : Int) > 500 then (some ((⟨#[]⟩ : ByteArray), 3)) else ((expr_Has.f t125).bind fun t126 => (if t126 = true then (some ((⟨#[]⟩ : ByteArray), 17)) else (some (t125, 0))))))
theorem props_done.calls (k : Nat) (A0 : Option Addr) (c0 : Nat) (l0 : List ByteArray) (r1 : ByteArray) (r2 : Int) (w : World) (hr0 : Kd.C Kd.string w A0 l0.length l0) (hc0 : l0.length ≤ c0) (hG : Glob w) (h : props_done.f k l0 = some (r1, r2)) :
 Calls Try.prog 37 #[.slice A0 l0.length c0] w fun e w' => e = .returned (.tuple #[.string r1, .int .i64 r2]) ∧ Below w.heap.size w w' := by
 have HG := Aside0.mk hG
 clear hG
 have HR0 := Aside0.mk hr0
 have HC0 := Aside0.mk hc0
 clear hr0 hc0
 have HB := Aside0.mk (Below.refl w.heap.size w)
 have H : ((strings_Join.f l0 (⟨#[]⟩ : ByteArray)).bind fun t124 => ((chars_Trim.f k t124).bind fun t125 => (if (t125.size : Int) > 500 then (some ((⟨#[]⟩ : ByteArray), 3)) else ((expr_Has.f t125).bind fun t126 => (if t126 = true then (some ((⟨#[]⟩ : ByteArray), 17)) else (some (t125, 0))))))) = some (r1, r2) := h
 clear h
 replace H := bi H
 obtain ⟨t124, A20, H⟩ := H
 try dsimp only at H
 have A2 := Aside0.mk A20
 clear A20
 replace H := bi H
 obtain ⟨t125, A30, H⟩ := H
 try dsimp only at H
 have A3 := Aside0.mk A30
 clear A30
 by_cases c4 : (t125.size : Int) > 500
 ·rw [if_pos c4] at H
  have c4b0 := dT c4
  have c4b1 : decide (500 < t125.size) = true := decide_eq_true (by omega)
  clear c4
  simp only [Option.some.injEq, Prod.mk.injEq] at H
  obtain ⟨rfl, rfl⟩ := H
  go_enter Try.func37, Try.ntmps37
  go_wp2_with (first | (refine gl (some 6) Try.func46 #[.slice A0 l0.length c0, .string (⟨#[]⟩ : ByteArray)] ?_; (with_reducible refine (strings_Join.calls _ _ l0 (⟨#[]⟩ : ByteArray) t124 _ ?side1 ?side2 (gS HG) A2.out).mono ?_); (case side1 => repeat (first | exact HR0.out | (with_reducible refine Kd.C_alloc ?_ _) | (with_reducible refine Kd.C_drewN ?_ _) | (with_reducible refine Kd.C_drew ?_))); (case side2 => exact HC0.out); rintro e w5 ⟨rfl, hb⟩; refine ⟨_, rfl, ?_⟩; replace HB := sB hb; (try clear hb)) | (refine gl (some 7) Try.func45 #[.string t124] ?_; (with_reducible refine (chars_Trim.calls k t124 t125 _ (gS HG) A3.out).mono ?_); rintro e w' ⟨rfl, ⟨nd, rfl⟩⟩; refine ⟨_, rfl, ?_⟩))
  go_ret2
  exact ⟨eA, bE⟩
 rw [if_neg c4] at H
 have c4b0 := dF c4
 have c4b1 : decide (500 < t125.size) = false := decide_eq_false (by omega)
 clear c4
 replace H := bi H
 obtain ⟨t126, A60, H⟩ := H
 try dsimp only at H
 have A6 := Aside0.mk A60
 clear A60
 by_cases c7 : t126 = true
 ·subst c7
  have H1 : (some ((⟨#[]⟩ : ByteArray), 17)) = some (r1, r2) := by rw [if_pos rfl] at H; exact H
  clear H
  have H := H1
  clear H1
  simp only [Option.some.injEq, Prod.mk.injEq] at H
  obtain ⟨rfl, rfl⟩ := H
  go_enter Try.func37, Try.ntmps37
  go_wp2_with (first | (refine gl (some 6) Try.func46 #[.slice A0 l0.length c0, .string (⟨#[]⟩ : ByteArray)] ?_; (with_reducible refine (strings_Join.calls _ _ l0 (⟨#[]⟩ : ByteArray) t124 _ ?side1 ?side2 (gS HG) A2.out).mono ?_); (case side1 => repeat (first | exact HR0.out | (with_reducible refine Kd.C_alloc ?_ _) | (with_reducible refine Kd.C_drewN ?_ _) | (with_reducible refine Kd.C_drew ?_))); (case side2 => exact HC0.out); rintro e w8 ⟨rfl, hb⟩; refine ⟨_, rfl, ?_⟩; replace HB := sB hb; (try clear hb)) | (refine gl (some 7) Try.func45 #[.string t124] ?_; (with_reducible refine (chars_Trim.calls k t124 t125 _ (gS HG) A3.out).mono ?_); rintro e w' ⟨rfl, ⟨nd, rfl⟩⟩; refine ⟨_, rfl, ?_⟩) | (refine gl (some 14) Try.func47 #[.string t125] ?_; (with_reducible refine (expr_Has.calls t125 true _ (gS HG) A6.out).mono ?_); rintro e w' ⟨rfl, ⟨nd, rfl⟩⟩; refine ⟨_, rfl, ?_⟩))
  go_ret2
  exact ⟨eA, bE⟩
 replace c7 := Bool.eq_false_iff.mpr c7
 subst c7
 have H1 : (some (t125, 0)) = some (r1, r2) := by rw [if_neg (show ¬ (false = true) by decide)] at H; exact H
 clear H
 have H := H1
 clear H1
 simp only [Option.some.injEq, Prod.mk.injEq] at H
 obtain ⟨rfl, rfl⟩ := H
 go_enter Try.func37, Try.ntmps37
 go_wp2_with (first | (refine gl (some 6) Try.func46 #[.slice A0 l0.length c0, .string (⟨#[]⟩ : ByteArray)] ?_; (with_reducible refine (strings_Join.calls _ _ l0 (⟨#[]⟩ : ByteArray) t124 _ ?side1 ?side2 (gS HG) A2.out).mono ?_); (case side1 => repeat (first | exact HR0.out | (with_reducible refine Kd.C_alloc ?_ _) | (with_reducible refine Kd.C_drewN ?_ _) | (with_reducible refine Kd.C_drew ?_))); (case side2 => exact HC0.out); rintro e w9 ⟨rfl, hb⟩; refine ⟨_, rfl, ?_⟩; replace HB := sB hb; (try clear hb)) | (refine gl (some 7) Try.func45 #[.string t124] ?_; (with_reducible refine (chars_Trim.calls k t124 t125 _ (gS HG) A3.out).mono ?_); rintro e w' ⟨rfl, ⟨nd, rfl⟩⟩; refine ⟨_, rfl, ?_⟩) | (refine gl (some 14) Try.func47 #[.string t125] ?_; (with_reducible refine (expr_Has.calls t125 false _ (gS HG) A6.out).mono ?_); rintro e w' ⟨rfl, ⟨nd, rfl⟩⟩; refine ⟨_, rfl, ?_⟩))
 go_ret2
 exact ⟨eA, bE⟩
end Go.Proofs.Ytomkimifooddpaa.Q
namespace Go.Proofs.Ytomkimifooddpaa.Q
open Go.RowKit Go.Proofs.YtomkimifooddpaaW.PrintWords Go.Proofs.YtomkimifooddpaaW.PrintLast Go.Proofs.YtomkimifooddpaaW.Own Go.Proofs.YtomkimifooddpaaW.PrintMore
set_option linter.unusedVariables false
set_option linter.unusedSimpArgs false
def VOk (e : Nat) (w : World) (base : Nat) (ok : Nat → Prop) (k : Nat) : Prop := ok k ∧ base ≤ k ∧ ∃ cells, w.heap[k]? = some (.cells cells e (0, 0))
def viewK {α : Type} (e : Nat) (d : Kd α) : Kd (List α) where
  sz := 1
  E := [e]
  K := fun w xs cs => ∃ A c, cs = [.slice A xs.length c] ∧ xs.length ≤ c ∧ d.C w A xs.length xs
  M := fun w base ok xs cs => ∃ A c, cs = [.slice A xs.length c] ∧ xs.length ≤ c ∧ Kd.F d w (VOk e w base ok) A xs.length xs
  K_len := by
    rintro w x cs ⟨A, c, rfl, _⟩
    rfl
  K_one := by
    rintro w x cs ⟨A, c, rfl, _⟩ u hu
    rw [List.mem_singleton] at hu
    subst hu
    rfl
  K_below := by
    rintro w w1 x cs hb ⟨A, c, rfl, hl, h⟩
    exact ⟨A, c, rfl, hl, Kd.C_below h hb⟩
  K_of_M := by
    rintro w base ok x cs ⟨A, c, rfl, hl, h⟩
    exact ⟨A, c, rfl, hl, Kd.F_now h⟩
  M_mono := by
    rintro w base ok ok' x cs hok ⟨A, c, rfl, hl, h⟩
    exact ⟨A, c, rfl, hl, Kd.F_mono h (fun k hk => ⟨hok k hk.1, hk.2⟩)⟩
  M_bound := by
    rintro w base ok x cs ⟨A, c, rfl, hl, h⟩
    refine ⟨A, c, rfl, hl, Kd.F_mono (Kd.F_bound h) (fun k hk => ⟨⟨hk.1.1, hk.1.2.1, hk.2, e, List.mem_singleton.2 rfl, hk.1.2.2⟩, hk.1.2⟩)⟩
  M_move := by
    rintro w w1 base ok x cs hm ⟨A, c, rfl, hl, h⟩
    refine ⟨A, c, rfl, hl, Kd.F_mono (Kd.F_step h (fun k hk _ => hm k hk.1)) (fun k hk => ⟨hk.1, hk.2.1, ?_⟩)⟩
    obtain ⟨cells, hc⟩ := hk.2.2
    exact ⟨cells, (hm k hk.1).trans hc⟩
  M_lower := by
    rintro w base base' ok x cs hb ⟨A, c, rfl, hl, h⟩
    exact ⟨A, c, rfl, hl, Kd.F_mono h (fun k hk => ⟨hk.1, Nat.le_trans hb hk.2.1, hk.2.2⟩)⟩
section
variable {α : Type} {d : Kd α} {e : Nat} {w w1 : World} {base : Nat} {ok ok' : Nat → Prop} {v : Value} {xs : List α}
theorem view_of_R (hE : d.E = []) (h : d.R e w base ok v xs) : (viewK e d).M w base ok xs [v] := by
  have hb := Kd.R_bound h
  obtain ⟨A, c, rfl, hl, hC⟩ := Kd.R_reads h
  refine ⟨A, c, rfl, hl, Kd.F_mono (Kd.R_F hb) (fun k hk => ⟨hk.1, hk.2.1, ?_⟩)⟩
  obtain ⟨_, _, _, q, hq, hc⟩ := hk
  rw [hE, List.mem_singleton] at hq
  subst hq
  exact hc
theorem view_cut {A : Option Addr} {c m : Nat} (hl : xs.length ≤ c) (h : Kd.F d w (VOk e w base ok) A xs.length xs) (hm : m ≤ xs.length) : (viewK e d).M w base ok (xs.drop m) [.slice (if c = m then A else A.map (·.add (m * d.sz))) (xs.length - m) (c - m)] := by
  refine ⟨if c = m then A else A.map (·.add (m * d.sz)), c - m, by rw [List.length_drop], by rw [List.length_drop]; omega, Kd.F_cut h hm hl⟩
end
end Go.Proofs.Ytomkimifooddpaa.Q
namespace Go.Proofs.Ytomkimifooddpaa.Q
open Go.RowKit Go.Proofs.YtomkimifooddpaaW.PrintWords Go.Proofs.YtomkimifooddpaaW.PrintLast Go.Proofs.YtomkimifooddpaaW.Own Go.Proofs.YtomkimifooddpaaW.PrintMore
set_option linter.unusedVariables false
set_option linter.unusedSimpArgs false
namespace Pr
open Go Go.RowKit
structure Fr where
  nm : ByteArray
  nd : Bool
  left : List S78
  out : List ByteArray
  need : Int
def zfr : Fr := ⟨⟨#[]⟩, false, [], [], 0⟩
def frK : Kd Fr := Kd.iso (Kd.pair Kd.string (Kd.pair Kd.bool (Kd.pair (viewK 78 k78) (Kd.pair (Kd.slice 9 Kd.string) (Kd.int .i64))))) (fun x : Fr => (x.nm, x.nd, x.left, x.out, x.need))
theorem fr_K {w : World} {x : Fr} {cs : List Value} (h : frK.K w x cs) : ∃ A c A2 c2, cs = [.string x.nm, .bool x.nd, .slice A x.left.length c, .slice A2 x.out.length c2, .int .i64 x.need] := by
  obtain ⟨c0, c1, rfl, h0, d0, d1, rfl, h1, e0, e1, rfl, h2, f0, f1, rfl, h3, h4⟩ := h
  obtain rfl := h0
  obtain rfl := h1
  obtain ⟨A, c, rfl, _⟩ := h2
  obtain ⟨A2, c2, rfl, _⟩ := h3
  obtain rfl := h4
  exact ⟨A, c, A2, c2, rfl⟩
theorem fr_M {w : World} {base : Nat} {ok : Nat → Prop} {x : Fr} {cs : List Value} (h : frK.M w base ok x cs) : ∃ lv ov, cs = [.string x.nm, .bool x.nd, lv, ov, .int .i64 x.need] ∧ (viewK 78 k78).M w base ok x.left [lv] ∧ Kd.R Kd.string 9 w base ok ov x.out := by
  obtain ⟨c0, c1, rfl, h0, d0, d1, rfl, h1, e0, e1, rfl, h2, f0, f1, rfl, h3, h4⟩ := h
  obtain rfl := h0
  obtain rfl := h1
  obtain ⟨A, c, rfl, r⟩ := h2
  obtain ⟨ov, rfl, h3⟩ := h3
  obtain rfl := h4
  exact ⟨_, ov, rfl, ⟨A, c, rfl, r⟩, h3⟩
theorem fr_mk {w : World} {base : Nat} {ok : Nat → Prop} (x : Fr) {lv ov : Value} (h1 : (viewK 78 k78).M w base ok x.left [lv]) (h2 : Kd.R Kd.string 9 w base ok ov x.out) : frK.M w base ok x [.string x.nm, .bool x.nd, lv, ov, .int .i64 x.need] :=
  ⟨[.string x.nm], [.bool x.nd, lv, ov, .int .i64 x.need], rfl, rfl, [.bool x.nd], [lv, ov, .int .i64 x.need], rfl, rfl, [lv], [ov, .int .i64 x.need], rfl, h1, [ov], [.int .i64 x.need], rfl, ⟨ov, rfl, h2⟩, rfl⟩
theorem fr_at {w : World} {A : Option Addr} {n : Nat} {xs : List Fr} (h : Kd.C frK w A n xs) (i : Nat) (hi : i < xs.length) : ∃ ad B1 c1 B2 c2, A = some ad ∧
    w.cell? (ad.add (i * 5)) = some (.string xs[i].nm) ∧ w.cell? ⟨(ad.add (i * 5)).block, (ad.add (i * 5)).off + 1, none⟩ = some (.bool xs[i].nd) ∧ w.cell? ⟨(ad.add (i * 5)).block, (ad.add (i * 5)).off + 2, none⟩ = some (.slice B1 xs[i].left.length c1) ∧ w.cell? ⟨(ad.add (i * 5)).block, (ad.add (i * 5)).off + 3, none⟩ = some (.slice B2 xs[i].out.length c2) ∧ w.cell? ⟨(ad.add (i * 5)).block, (ad.add (i * 5)).off + 4, none⟩ = some (.int .i64 xs[i].need) := by
  have hn := h.1
  obtain ⟨ad, c, hA, hc, hK, hcell⟩ := Kd.C_get h zfr (i : Int) (by omega) (by omega)
  have hg : xs.getD (i : Int).toNat zfr = xs[i] := by simp [List.getD, hi]
  rw [hg] at hK
  obtain ⟨B1, c1, B2, c2, rfl⟩ := fr_K hK
  simp only [Int.toNat_natCast] at hcell
  have hc0 := hcell 0 _ rfl
  have hc1 := hcell 1 _ rfl
  have hc2 := hcell 2 _ rfl
  have hc3 := hcell 3 _ rfl
  have hc4 := hcell 4 _ rfl
  have e : frK.sz = 5 := rfl
  rw [e] at hc0 hc1 hc2 hc3 hc4
  rw [add_field ad (i * 5) 1 (by decide)] at hc1
  rw [add_field ad (i * 5) 2 (by decide)] at hc2
  rw [add_field ad (i * 5) 3 (by decide)] at hc3
  rw [add_field ad (i * 5) 4 (by decide)] at hc4
  exact ⟨ad, B1, c1, B2, c2, hA, hc0, hc1, hc2, hc3, hc4⟩
def lit (s : ByteArray) : Lit := .string s.data.toList
def foundR (v : Value) : Option (DataW Unit × List MemPlace) :=
  match v with
  | .agg cs => (match cs.toList with
    | [Value.string s, Value.int IntKind.i64 n] => some (.agg [.lit (.string s.data.toList), .lit (.int .i64 n)], [])
    | _ => none)
  | _ => none
theorem foundR_mk (s : ByteArray) (n : Int) : foundR (.agg #[.string s, .int .i64 n]) = some (.agg [.lit (.string s.data.toList), .lit (.int .i64 n)], []) := rfl
theorem foundR_inv {v : Value} {s : ByteArray} {n : Int} {ps : List MemPlace} (h : foundR v = some (.agg [.lit (.string s.data.toList), .lit (.int .i64 n)], ps)) : v = .agg #[.string s, .int .i64 n] := by
  unfold foundR at h
  split at h
  · rename_i cs
    split at h
    · rename_i s' n' hcs
      injection h with h
      injection h with h _
      injection h with h
      injection h with ha hb
      injection ha with ha
      injection ha with ha
      injection hb with hb _
      injection hb with hb
      injection hb with _ hb
      have he : s' = s := ByteArray.ext (Array.toList_inj.1 ha)
      subst he hb
      have : cs = #[Value.string s', Value.int .i64 n'] := Array.toList_inj.1 hcs
      rw [this]
    · cases h
  · cases h
def RawIs (D : DataW Unit) (raw : ByteArray → Option ByteArray) : Prop := ∀ s : ByteArray, Maps.has D (lit s) = (raw s).isSome ∧ ∀ x, raw s = some x → ∀ z, D.atKey (lit s) z = .lit (.string x.data.toList)
def KnownIs (D : DataW Unit) (kn : ByteArray → Option (ByteArray × Int)) : Prop := ∀ s : ByteArray, Maps.has D (lit s) = (kn s).isSome ∧ ∀ x, kn s = some x → ∀ z, D.atKey (lit s) z = .agg [.lit (.string x.1.data.toList), .lit (.int .i64 x.2)]
theorem lit_key (s : ByteArray) : WideAt.IsKeyLit (lit s) := trivial
theorem lit_ne {s t : ByteArray} (h : s ≠ t) : lit s ≠ lit t := fun e => by
  injection e with e
  exact h (ByteArray.ext (Array.toList_inj.1 e))
theorem RawIs.none : RawIs (.map []) (fun _ => none) := fun _ => ⟨rfl, fun _ h => by cases h⟩
theorem KnownIs.none : KnownIs (.map []) (fun _ => none) := fun _ => ⟨rfl, fun _ h => by cases h⟩
def upd {α : Type} (f : ByteArray → Option α) (s : ByteArray) (x : α) : ByteArray → Option α := fun t => if t = s then some x else f t
theorem RawIs.put {D : DataW Unit} {raw : ByteArray → Option ByteArray} (h : RawIs D raw) (hD : Maps.IsMap D) (s x : ByteArray) : RawIs (D.put (lit s) (.lit (.string x.data.toList))) (upd raw s x) := by
  intro t
  unfold upd
  by_cases he : t = s
  · subst he
    rw [if_pos rfl]
    refine ⟨Maps.has_put_same hD (lit_key _) _, fun y hy z => ?_⟩
    injection hy with hy
    rw [Maps.atKey_put_same hD (lit_key _), hy]
  · rw [if_neg he, Maps.has_put_other (lit_ne he)]
    refine ⟨(h t).1, fun y hy z => ?_⟩
    rw [Maps.atKey_put_other (lit_ne he)]
    exact (h t).2 y hy z
theorem KnownIs.put {D : DataW Unit} {kn : ByteArray → Option (ByteArray × Int)} (h : KnownIs D kn) (hD : Maps.IsMap D) (s x : ByteArray) (n : Int) : KnownIs (D.put (lit s) (.agg [.lit (.string x.data.toList), .lit (.int .i64 n)])) (upd kn s (x, n)) := by
  intro t
  unfold upd
  by_cases he : t = s
  · subst he
    rw [if_pos rfl]
    refine ⟨Maps.has_put_same hD (lit_key _) _, fun y hy z => ?_⟩
    injection hy with hy
    rw [Maps.atKey_put_same hD (lit_key _), ← hy]
  · rw [if_neg he, Maps.has_put_other (lit_ne he)]
    refine ⟨(h t).1, fun y hy z => ?_⟩
    rw [Maps.atKey_put_other (lit_ne he)]
    exact (h t).2 y hy z
end Pr
end Go.Proofs.Ytomkimifooddpaa.Q
namespace Go.Proofs.Ytomkimifooddpaa.Q
open Go.RowKit Go.Proofs.YtomkimifooddpaaW.PrintWords Go.Proofs.YtomkimifooddpaaW.PrintLast Go.Proofs.YtomkimifooddpaaW.Own Go.Proofs.YtomkimifooddpaaW.PrintMore
attribute [local go_sem] max2_int min2_int max_two min_two max_three min_three max_four min_four   -- for this text's walks alone
set_option linter.unusedVariables false
set_option linter.unusedSimpArgs false
set_option maxHeartbeats 20000000
set_option maxRecDepth 100000
def Pr.hit (t : ByteArray) (x : Pr.Fr) : Bool := x.nd && (x.nm.toList == t.toList)
theorem props_frame.one (x : Pr.Fr) (lv ov : Value) (t : ByteArray) (g : Nat) (w : World) (hc : w.cell? ⟨g, 1, none⟩ = some (.string t)) :
 Calls Try.prog 39 #[.agg #[.string x.nm, .bool x.nd, lv, ov, .int .i64 x.need], .pointer (some ⟨g, 0, none⟩)] w fun e w' => e = .returned (.bool (Pr.hit t x)) ∧ Below w.heap.size w w' := by
 have hu := Try.underlying71
 have hup := Try.underlying78
 obtain ⟨W, hW⟩ : ∃ W, W = w.alloc (.cells #[.string x.nm, .bool x.nd, lv, ov, .int .i64 x.need] 71) := ⟨_, rfl⟩
 have hX : W.heap[w.heap.size]? = some (.cells #[.string x.nm, .bool x.nd, lv, ov, .int .i64 x.need] 71 (0, 0)) := by rw [hW]; exact heap_alloc_new w _
 have hB : Below w.heap.size w W := by rw [hW]; exact below_alloc (Below.refl _ _) _
 have y0 := (blk_cell hX 0).trans rfl
 have y1 := (blk_cell hX 1).trans rfl
 have hc1 := pw_cell_below hB hc
 rw [hW] at y0 y1 hc1
 have HB := Aside0.mk hB
 have HW := Lib.hid hW
 clear hX hB hW hc
 obtain ⟨nm, nd, lf, out, need⟩ := x
 unfold Pr.hit
 simp only at y0 y1 HW HB hc1 ⊢
 cases nd with
 | true =>
  go_enter Try.func39, Try.ntmps39
  go_wp2
  go_ret
  exact ⟨by first | rfl | (simp; done), by rw [← HW.out]; exact HB.out⟩
 | false =>
  go_enter Try.func39, Try.ntmps39
  go_wp2
  go_ret
  exact ⟨by first | rfl | (simp; done), by rw [← HW.out]; exact HB.out⟩
theorem props_frame.index (A0 : Option Addr) (c0 : Nat) (l0 : List Pr.Fr) (t : ByteArray) (g : Nat) (w : World) (hr0 : Kd.C Pr.frK w A0 l0.length l0) (hl : l0.length ≤ 1000000) (hc : w.cell? ⟨g, 1, none⟩ = some (.string t)) :
 Calls Try.prog 48 #[.slice A0 l0.length c0, .func (.func 39) #[] #[.pointer (some ⟨g, 0, none⟩)]] w fun e w' => ∃ r : Int, e = .returned (.int .i64 r) ∧ decide (r ≥ 0) = l0.any (Pr.hit t) ∧ Below w.heap.size w w' := by
 have hu := Try.underlying71
 have HR0 := Aside0.mk hr0
 have HC := Aside0.mk hc
 have HL := Lib.hid hl
 have HB := Aside0.mk (Below.refl w.heap.size w)
 clear hr0 hc
 go_enter Try.func48, Try.ntmps48
 go_wp2
 go_loopg [8] l0.length (fun gq v8 w' => ∃ i : Nat, i + gq = l0.length ∧ v8 = .int .i64 i ∧ Aside0 ((l0.take i).any (Pr.hit t) = false) ∧ Aside0 (Below w.heap.size w w'))
 case atStart => exact ⟨0, by omega, rfl, ⟨by rw [List.take_zero]; rfl⟩, HB⟩
 clear HB
 obtain ⟨i, hig, rfl, HT, HB⟩ := hrel
 by_cases hi : i < l0.length
 rotate_left
 ·obtain rfl : i = l0.length := by omega
  have d1 : decide ((l0.length : Int) < (l0.length : Int)) = false := decide_eq_false (by omega)
  go_wp2
  go_ret
  have h := HT.out
  rw [List.take_length] at h
  exact ⟨_, rfl, by rw [h]; rfl, HB.out⟩
 obtain ⟨g1, rfl⟩ : ∃ g1, gk = g1 + 1 := ⟨gk - 1, by omega⟩
 obtain ⟨ad, B1, c1, B2, c2, e_, q0, q1, q2, q3, q4⟩ := Pr.fr_at (Kd.C_below HR0.out HB.out) i hi
 cases e_
 have htk : (l0.take (i + 1)).any (Pr.hit t) = Pr.hit t l0[i] := by
  rw [List.take_succ_eq_append_getElem hi, List.any_append, HT.out]; simp
 have hall : Pr.hit t l0[i] = true → l0.any (Pr.hit t) = true := fun h => List.any_eq_true.2 ⟨l0[i], List.getElem_mem hi, h⟩
 obtain ⟨x, hx⟩ : ∃ x, x = l0[i] := ⟨_, rfl⟩
 rw [← hx] at q0 q1 q2 q3 q4 htk hall
 have d1 : decide ((i : Int) < (l0.length : Int)) = true := decide_eq_true (by omega)
 have d1' : decide (i < l0.length) = true := decide_eq_true hi
 have p1 := eq_true (show (0 : Int) ≤ (i : Int) by omega)
 have p2 := eq_true (show (i : Int) < (l0.length : Int) by omega)
 have p3 := eq_true hi
 have ew : wrap64 ((i : Int) + 1) = ((i + 1 : Nat) : Int) := by have := HL.out; unfold wrap64; omega
 have CO := Aside0.mk (props_frame.one x (.slice B1 x.left.length c1) (.slice B2 x.out.length c2) t g _ (pw_cell_below HB.out HC.out))
 have HTK := Aside0.mk htk
 have HALL := Aside0.mk hall
 obtain ⟨b, hb⟩ : ∃ b, b = Pr.hit t x := ⟨_, rfl⟩
 rw [← hb] at CO HTK HALL
 clear htk hall hx hb
 cases b with
 | true =>
  go_wp2_with (first | (go_at_call 39; (with_reducible refine (CO.out).mono ?_); rintro e w3 ⟨rfl, hb3⟩; have HB3 := Aside0.mk (below_step HB.out hb3); clear hb3))
  go_ret
  exact ⟨_, rfl, by rw [HALL.out trivial]; exact decide_eq_true (by omega), HB3.out⟩
 | false =>
  go_wp2_with (first | (go_at_call 39; (with_reducible refine (CO.out).mono ?_); rintro e w3 ⟨rfl, hb3⟩; have HB3 := Aside0.mk (below_step HB.out hb3); clear hb3))
  go_roundg g1
  case measure => omega
  case rel => exact ⟨i + 1, by omega, by first | rfl | (rw [ew]), HTK, HB3⟩
theorem props_frame.calls (A0 : Option Addr) (c0 : Nat) (l0 : List Pr.Fr) (t : ByteArray) (g : Nat) (w : World) (hr0 : Kd.C Pr.frK w A0 l0.length l0) (hl : l0.length ≤ 1000000) (hc : w.cell? ⟨g, 1, none⟩ = some (.string t)) :
 Calls Try.prog 38 #[.slice A0 l0.length c0, .func (.func 39) #[] #[.pointer (some ⟨g, 0, none⟩)]] w fun e w' => e = .returned (.bool (l0.any (Pr.hit t))) ∧ Below w.heap.size w w' := by
 have CI := Aside0.mk (props_frame.index A0 c0 l0 t g w hr0 hl hc)
 clear hr0 hl hc
 go_enter Try.func38, Try.ntmps38
 go_wp2_with (first | (go_at_call 48; (with_reducible refine (CI.out).mono ?_); rintro e w3 ⟨r, rfl, hr, hb3⟩; have HR := Aside0.mk hr; have HB3 := Aside0.mk hb3; clear hb3 hr))
 go_ret
 exact ⟨by rw [← HR.out]; rfl, HB3.out⟩
section
def Pr.scopeOf : Code → Option Code
 | .scope c => some c
 | .seq a b => match Pr.scopeOf a with
  | some c => some c
  | none => Pr.scopeOf b
 | _ => none
def Pr.behind : Option Code → Code
 | some (.seq _ c) => c
 | _ => .skip
noncomputable def Pr.rest : Code := Pr.behind ((((Try.f25.body.bind Pr.scopeOf).getD .skip) |> fun c => findLabel c 0))
set_option maxRecDepth 1000000 in
def Pr.frm (u : Nat → Value) : Act := ⟨#[u 0, u 1, u 2, u 3, u 4, u 5, u 6, u 7, u 8, u 9, u 10, u 11, u 12, u 13, u 14, u 15, u 16, u 17, u 18, u 19, u 20, u 21, u 22, u 23, u 24, u 25, u 26, u 27, u 28, u 29, u 30, u 31, u 32, u 33, u 34, u 35, u 36, u 37, u 38, u 39, u 40, u 41, u 42, u 43, u 44, u 45, u 46, u 47, u 48, u 49, u 50, u 51, u 52, u 53, u 54, u 55, u 56, u 57, u 58, u 59, u 60, u 61, u 62, u 63, u 64, u 65, u 66, u 67, u 68, u 69, u 70, u 71, u 72, u 73, u 74, u 75, u 76, u 77, u 78, u 79, u 80, u 81, u 82, u 83, u 84, u 85, u 86, u 87, u 88, u 89, u 90, u 91, u 92, u 93, u 94, u 95, u 96, u 97, u 98, u 99, u 100, u 101, u 102, u 103, u 104, u 105, u 106, u 107, u 108, u 109, u 110, u 111, u 112, u 113, u 114, u 115, u 116, u 117, u 118, u 119, u 120, u 121, u 122, u 123, u 124, u 125, u 126, u 127, u 128, u 129, u 130, u 131, u 132, u 133, u 134, u 135, u 136, u 137, u 138, u 139, u 140, u 141, u 142, u 143, u 144, u 145, u 146, u 147, u 148, u 149, u 150, u 151, u 152, u 153, u 154, u 155, u 156, u 157, u 158, u 159, u 160, u 161, u 162, u 163, u 164, u 165, u 166, u 167, u 168, u 169, u 170, u 171, u 172, u 173, u 174, u 175, u 176, u 177, u 178, u 179, u 180, u 181, u 182, u 183, u 184, u 185, u 186, u 187, u 188, u 189, u 190, u 191, u 192, u 193, u 194, u 195, u 196, u 197, u 198, u 199, u 200, u 201, u 202, u 203, u 204, u 205, u 206, u 207, u 208, u 209, u 210, u 211, u 212, u 213, u 214, u 215, u 216, u 217, u 218, u 219], []⟩
set_option maxRecDepth 1000000 in
theorem Pr.frm_of (F : Array Value) (h : F.size = 220) : (⟨F, []⟩ : Act) = Pr.frm (fun n => F.getD n undef) := by
 have e : Pr.frm (fun n => F.getD n undef) = ⟨(Array.ofFn (n := 220) fun i => F.getD i.val undef), []⟩ := by
  kernel_rfl
 rw [e]
 refine congrArg (fun A => (⟨A, []⟩ : Act)) ?_
 apply Array.ext
 ·rw [h, Array.size_ofFn]
 ·intro i h1 h2
  rw [Array.getElem_ofFn]
  simp [Array.getD, h1]
def Pr.NAt (w : World) (g mr mk : Nat) (raw : ByteArray → Option ByteArray) (cnt : Nat) (kn : ByteArray → Option (ByteArray × Int)) : Prop :=
 ∃ nr Dr Dk, w.heap[g]? = some (.cells #[.map (some mr), .map (some mk)] 64 (0, 0)) ∧ w.ownsMap Try.prog 9 (plainElem (H := Unit) Try.prog 9) mr nr Dr ∧ Pr.RawIs Dr raw ∧ w.ownsMap Try.prog 9 Pr.foundR mk cnt Dk ∧ Pr.KnownIs Dk kn ∧ mr ≠ mk
theorem Pr.own_at {P : Program} {k m n : Nat} {R : Value → Option (DataW Unit × List MemPlace)} {D : DataW Unit} {w w1 : World} (h : w.ownsMap P k R m n D) (e : w1.heap[m]? = w.heap[m]?) : w1.ownsMap P k R m n D := by
 obtain ⟨es, clock, hb, r⟩ := h
 exact ⟨es, clock, e.trans hb, r⟩
theorem Pr.NAt.step {w w1 : World} {g mr mk cnt : Nat} {raw : ByteArray → Option ByteArray} {kn : ByteArray → Option (ByteArray × Int)} {B : Nat} (h : Pr.NAt w g mr mk raw cnt kn) (hb : Below B w w1) (h1 : g < B) (h2 : mr < B) (h3 : mk < B) : Pr.NAt w1 g mr mk raw cnt kn := by
 obtain ⟨nr, Dr, Dk, a, b, c, d, e⟩ := h
 exact ⟨nr, Dr, Dk, (hb.block g h1).trans a, Pr.own_at b (hb.block mr h2), c, Pr.own_at d (hb.block mk h3), e⟩
theorem Pr.strInfo : (Try.prog.info? 9).map (fun i => (i.zero, i.size, i.bytes)) = some (some (.string ⟨#[]⟩), 1, 16) := by kernel_rfl
theorem Pr.frInfo : (Try.prog.info? 71).map (fun i => (i.zero, i.size, i.bytes)) = some (some (.agg #[.string ⟨#[]⟩, .bool false, .slice none 0 0, .slice none 0 0, .int .i64 0]), 5, 80) := by kernel_rfl
theorem Pr.pcInfo : (Try.prog.info? 78).map (fun i => (i.zero, i.size, i.bytes)) = some (some (.agg #[.bool false, .string ⟨#[]⟩]), 2, 24) := by kernel_rfl
theorem Pr.M_over {α : Type} {d : Kd α} {e' B : Nat} {W w1 : World} {ok : Nat → Prop} {x : α} {c : List Value} {v : Value} (h : d.M W B ok x c) (hty : ∀ k, v.ownBlock = some k → ∃ cells, W.heap[k]? = some (.cells cells e' (0, 0))) (ht : ∀ q, q ∈ d.E → q ≠ e') (hg : W.grownBy w1 v.ownBlock) : d.M w1 B ok x c := by
 refine d.M_mono (fun k hk => hk.1) (d.M_move (w1 := w1) (fun k hk => hg.block k hk.2.2.1 (fun he => ?_)) (d.M_bound h))
 obtain ⟨cells, hc⟩ := hty k he.symm
 obtain ⟨q, hq, cells', hc'⟩ := hk.2.2.2
 rw [hc'] at hc
 injection hc with hc
 injection hc with _ hc
 exact ht q hq hc
theorem Pr.view_at {α : Type} {d : Kd α} {e : Nat} {w w1 : World} {B : Nat} {ok : Nat → Prop} {xs : List α} {v : Value} (h : (viewK e d).M w B ok xs [v]) (hm : ∀ k, ok k → k < w.heap.size → w1.heap[k]? = w.heap[k]?) : (viewK e d).M w1 B ok xs [v] :=
 (viewK e d).M_mono (fun k hk => hk.1) ((viewK e d).M_move (w1 := w1) (fun k hk => hm k hk.1 hk.2.2.1) ((viewK e d).M_bound h))
theorem Pr.slice_ok (A1 : Option Addr) (n c : Nat) (hn : n + 1 ≤ c) : ∃ A', (A' = if c = 1 then A1 else A1.map (·.add (1 * 2))) ∧ ∀ W : World, (Instr.slice 66 (.slice A1 (n + 1) c) (some (.int .i64 1)) none none).run Try.prog W = .ok (.slice A' n (c - 1)) W := by
 obtain ⟨i0, hi, hz⟩ := Option.map_eq_some_iff.1 Pr.pcInfo
 simp only [Prod.mk.injEq] at hz
 exact ⟨_, rfl, fun W => by
  have h := cut_from 66 78 .i64 Try.underlying66 hi 2 hz.2.1 A1 (n + 1) c 1 (by decide) (by omega) W
  exact h⟩
theorem Pr.set_last {rest : List Pr.Fr} {t0 x' : Pr.Fr} : (rest.reverse ++ [t0]).set ((rest.length : Nat) : Int).toNat x' = rest.reverse ++ [x'] := by
 rw [Int.toNat_natCast, List.set_append_right _ _ (by simp)]; simp
theorem Pr.close3 {W2 w1 : World} {B gs cs : Nat} {rest : List Pr.Fr} {t0 : Pr.Fr} {nm : ByteArray} {nd : Bool} {lf : List S78} {need : Int} {lv ov v1 : Value} {out out2 : List ByteArray} {oki : Nat → Prop}
 (hH : Kd.H Pr.frK 71 W2 B (fun _ => True) (.slice (some ⟨gs, 0, none⟩) (rest.length + 1) cs) (rest.reverse ++ [t0]) ((rest.length : Nat) : Int) oki [.string nm, .bool nd, lv, ov, .int .i64 need]) (hg : W2.grownBy w1 ov.ownBlock) (hov : Kd.R Kd.string 9 W2 B oki ov out) (hv : (viewK 78 k78).M W2 B oki lf [lv]) (hr : Kd.R Kd.string 9 w1 B oki v1 out2) :
 Kd.S Pr.frK 71 (w1.setCell ⟨gs, rest.length * 5 + 3, none⟩ v1) B (fun _ => True) (.slice (some ⟨gs, 0, none⟩) (rest.length + 1) cs) (rest.reverse ++ [⟨nm, nd, lf, out2, need⟩]) := by
 have h1 := Kd.H_mono (ok' := fun k => True ∧ ¬ False) (Kd.H_grown hH hg (fun k hk => hov.1 k hk)) (fun k _ => ⟨trivial, fun h => h⟩)
 have hv1 := Pr.M_over hv (fun k hk => Kd.R_typed hov k hk) (by intro q hq; simp [viewK] at hq; subst hq; decide) hg
 have hM := Pr.fr_mk ⟨nm, nd, lf, out2, need⟩ hv1 hr
 obtain ⟨r1, _⟩ := Kd.S_seg (okg := fun _ => False) (okp := oki) h1 (by omega) (by omega) (seg := [v1]) (j := 3) (by show 3 + 1 ≤ 5; omega) (x' := ⟨nm, nd, lf, out2, need⟩) hM (fun k hk => .inl hk) (fun _ h => h.elim)
 rw [Pr.set_last] at r1
 exact r1
theorem Pr.close34 {W2 w1 : World} {B gs cs : Nat} {rest : List Pr.Fr} {t0 : Pr.Fr} {nm : ByteArray} {nd : Bool} {lf : List S78} {need need2 : Int} {lv ov v1 : Value} {out out2 : List ByteArray} {oki : Nat → Prop}
 (hH : Kd.H Pr.frK 71 W2 B (fun _ => True) (.slice (some ⟨gs, 0, none⟩) (rest.length + 1) cs) (rest.reverse ++ [t0]) ((rest.length : Nat) : Int) oki [.string nm, .bool nd, lv, ov, .int .i64 need]) (hg : W2.grownBy w1 ov.ownBlock) (hov : Kd.R Kd.string 9 W2 B oki ov out) (hv : (viewK 78 k78).M W2 B oki lf [lv]) (hr : Kd.R Kd.string 9 w1 B oki v1 out2) (hne : ∀ k, oki k → k ≠ gs) :
 Kd.S Pr.frK 71 ((w1.setCell ⟨gs, rest.length * 5 + 3, none⟩ v1).setCell ⟨gs, rest.length * 5 + 4, none⟩ (.int .i64 need2)) B (fun _ => True) (.slice (some ⟨gs, 0, none⟩) (rest.length + 1) cs) (rest.reverse ++ [⟨nm, nd, lf, out2, need2⟩]) := by
 obtain ⟨Av, cv, rfl⟩ := Kd.R_slice hr
 have h1 := Kd.H_mono (ok' := fun k => True ∧ ¬ False) (Kd.H_grown hH hg (fun k hk => hov.1 k hk)) (fun k _ => ⟨trivial, fun h => h⟩)
 have hv1 := Pr.M_over hv (fun k hk => Kd.R_typed hov k hk) (by intro q hq; simp [viewK] at hq; subst hq; decide) hg
 obtain ⟨h2, _⟩ := Kd.H_seg h1 (by omega) (by omega) (seg := [.slice Av out2.length cv]) (j := 3) (by show 3 + 1 ≤ 5; omega) (by simp [Value.oneCell'])
 have same : ∀ k, oki k → k < w1.heap.size → (w1.setCells gs (((rest.length : Nat) : Int).toNat * Pr.frK.sz + 3) [.slice Av out2.length cv]).heap[k]? = w1.heap[k]? := fun k hk _ => by
  have e : w1.setCells gs (((rest.length : Nat) : Int).toNat * Pr.frK.sz + 3) [.slice Av out2.length cv] = w1.setCell ⟨gs, rest.length * 5 + 3, none⟩ (.slice Av out2.length cv) := rfl
  rw [e]
  exact Below.heap_setCell w1 _ _ k (hne k hk)
 have hM := Pr.fr_mk ⟨nm, nd, lf, out2, need2⟩ (Pr.view_at hv1 same) (Kd.R_step hr same)
 obtain ⟨r1, _⟩ := Kd.S_seg (okg := fun _ => False) (okp := oki) h2 (by omega) (by omega) (seg := [.int .i64 need2]) (j := 4) (by show 4 + 1 ≤ 5; omega) (x' := ⟨nm, nd, lf, out2, need2⟩) hM (fun k hk => .inl hk) (fun _ h => h.elim)
 rw [Pr.set_last] at r1
 exact r1
theorem map_ne' {P : Program} {k m n g t : Nat} {R : Value → Option (DataW Unit × List MemPlace)} {D : DataW Unit} {w : World} {cells : Array Value} {fr : Nat × Nat} (h : w.ownsMap P k R m n D) (hb : w.heap[g]? = some (.cells cells t fr)) : m ≠ g := by
 rintro rfl
 obtain ⟨es, clock, hb', r⟩ := h
 rw [hb] at hb'
 cases hb'
structure Pr.But (B mk : Nat) (w w' : World) : Prop where
 os : w'.os = w.os
 tape : w'.tape = w.tape
 output : w'.output = w.output
 size : w.heap.size ≤ w'.heap.size
 block : ∀ k, k < B → k ≠ mk → w'.heap[k]? = w.heap[k]?
theorem Pr.But.trans {B mk : Nat} {w w1 w2 : World} (h : Pr.But B mk w w1) (k : Pr.But B mk w1 w2) : Pr.But B mk w w2 := ⟨k.os.trans h.os, k.tape.trans h.tape, k.output.trans h.output, Nat.le_trans h.size k.size, fun i hi hn => (k.block i hi hn).trans (h.block i hi hn)⟩
theorem Pr.But.below {B mk : Nat} {w w1 : World} (h : Below B w w1) : Pr.But B mk w w1 := ⟨h.os, h.tape, h.output, h.size, fun i hi _ => h.block i hi⟩
theorem Pr.But.grown {B mk : Nat} {w w1 : World} (h : w.grownBy w1 (some mk)) (hB : B ≤ w.heap.size) : Pr.But B mk w w1 := ⟨h.os, h.tape, h.output, h.size, fun i hi hn => h.block i (Nat.lt_of_lt_of_le hi hB) (fun he => hn (by injection he))⟩
theorem Pr.But.of {mk : Nat} {w w1 : World} (h : Pr.But w.heap.size mk w w1) : w.grownBy w1 (some mk) := ⟨h.os, h.tape, h.output, h.size, fun i hi hn => h.block i hi (fun he => hn (by rw [he]))⟩
theorem Pr.S_map {B mk : Nat} {w w1 : World} {v : Value} {xs : List Pr.Fr} (h : Kd.S Pr.frK 71 w B (fun _ => True) v xs) (hg : w.grownBy w1 (some mk)) (hmk : mk < B) : Kd.S Pr.frK 71 w1 B (fun _ => True) v xs :=
 Kd.S_mono (Kd.S_grown (Kd.S_mono (Kd.S_bound h) (fun k hk => hk.2.1)) hg (fun k hk he => by injection he with he; omega)) (fun _ _ => trivial)
theorem Pr.fr_cut (gs n c j : Nat) (hj : j ≤ n) (hc : n ≤ c) : ∀ W : World, (Instr.slice 72 (.slice (some ⟨gs, 0, none⟩) n c) none (some (.int .i64 (j : Int))) none).run Try.prog W = .ok (.slice (some ⟨gs, 0, none⟩) j c) W := by
 obtain ⟨i0, hi, hz⟩ := Option.map_eq_some_iff.1 Pr.frInfo
 intro W
 have h := cut_to 72 71 .i64 Try.underlying72 hi (some ⟨gs, 0, none⟩) n c (j : Int) (by omega) (by omega) hc W
 simpa using h
set_option maxRecDepth 1000000 in
theorem props_Names_Value.text (u : Nat → Value) (B gs cs : Nat) (rest : List Pr.Fr) (nm : ByteArray) (nd : Bool) (p : S78) (lf : List S78) (out : List ByteArray) (need : Int) (w : World) (J : Act → World → Prop) (POST : Ending → World → Prop)
 (h12 : u 12 = .slice (some ⟨gs, 0, none⟩) (rest.length + 1) cs) (hS : Kd.S Pr.frK 71 w B (fun _ => True) (.slice (some ⟨gs, 0, none⟩) (rest.length + 1) cs) (rest.reverse ++ [⟨nm, nd, p :: lf, out, need⟩]))
 (hlen : rest.length ≤ 20) (hout : out.length < 1000000) (hp : p.f0 = false) (hB : B ≤ w.heap.size) (hlf : lf.length ≤ 1000000000000)
 (hJ : ∀ (u' : Nat → Value) (w' : World), u' 0 = u 0 → u' 13 = u 13 → (∃ v, u' 12 = v ∧ Kd.S Pr.frK 71 w' B (fun _ => True) v (rest.reverse ++ [⟨nm, nd, lf, out ++ [p.f1], need⟩])) → Below B w w' → J (Pr.frm u') w') :
 Code.wp Try.prog Pr.rest (Exit.jump 0 J (bodyPost Try.prog Try.f25 POST)) (Pr.frm u) w := by
 have hu := Try.underlying71
 have hup := Try.underlying78
 have htop : (rest.reverse ++ [(⟨nm, nd, p :: lf, out, need⟩ : Pr.Fr)]).getD (rest.length : Int).toNat Pr.zfr = ⟨nm, nd, p :: lf, out, need⟩ := by
  rw [Int.toNat_natCast, List.getD_eq_getElem?_getD, List.getElem?_append_right (by simp)]; simp
 obtain ⟨oki, cc, hcl, hM, hcc, hfr, hoki, hH⟩ := Kd.S_elem hS Pr.zfr (rest.length : Int) (by omega) (by omega)
 rw [htop] at hM
 obtain ⟨lv, ov, rfl, hlv, hov⟩ := Pr.fr_M hM
 have hgs := Kd.S_lt hS gs (by simp [Value.ownBlock])
 have hgB := Kd.S_base hS gs (by simp [Value.ownBlock])
 obtain ⟨A1, c1, e1, hl1, hF⟩ := hlv
 obtain rfl := (List.cons.inj e1).1
 obtain ⟨A2, c2, rfl⟩ := Kd.R_slice hov
 obtain ⟨ad, e_, y0, y1⟩ := at_T78 (Kd.F_now hF) 0 (by omega) (by simp)
 cases e_
 have e0 : ad.add (Int.toNat 0 * 2) = ad := by simp [Addr.add]
 have e1_ : rd_T78 (p :: lf) 0 = p := rfl
 rw [e0, e1_] at y0 y1
 rw [hp] at y0
 clear e0 e1_ hp e1
 simp only [Int.toNat_natCast] at hcc hfr
 obtain ⟨A1', hA1, hsl⟩ := Pr.slice_ok (some ad) lf.length c1 hl1
 have hview := view_cut (m := 1) hl1 hF (by simp)
 have hview2 : (viewK 78 k78).M w B oki lf [.slice A1' lf.length (c1 - 1)] := by rw [hA1]; exact hview
 have frame_sz : Pr.frK.sz = 5 := rfl
 rw [frame_sz] at hcc hfr
 have q0 : w.cell? ⟨gs, rest.length * 5, none⟩ = some (.string nm) := hcc 0 _ rfl
 have q1 : w.cell? ⟨gs, rest.length * 5 + 1, none⟩ = some (.bool nd) := hcc 1 _ rfl
 have q2 : w.cell? ⟨gs, rest.length * 5 + 2, none⟩ = some (.slice (some ad) (lf.length + 1) c1) := hcc 2 _ rfl
 have q3 : w.cell? ⟨gs, rest.length * 5 + 3, none⟩ = some (.slice A2 out.length c2) := hcc 3 _ rfl
 have q4 : w.cell? ⟨gs, rest.length * 5 + 4, none⟩ = some (.int .i64 need) := hcc 4 _ rfl
 have f2 := hfr 2
 have ew : wrap64 (((rest.length + 1 : Nat) : Int) - 1) = (rest.length : Int) := by unfold wrap64; omega
 have ew' : wrap64 ((rest.length : Int) + 1 - 1) = (rest.length : Int) := by unfold wrap64; omega
 have p1 := eq_true (show (0 : Int) ≤ (rest.length : Int) by omega)
 have p2 := eq_true (show (rest.length : Int) < ((rest.length + 1 : Nat) : Int) by omega)
 have p3 := eq_true (show rest.length < rest.length + 1 by omega)
 have b0 : (((lf.length + 1 : Nat) : Int) == 0) = false := beq_eq_false_iff_ne.mpr (by omega)
 have b0' : ((lf.length + 1) == 0) = false := beq_eq_false_iff_ne.mpr (by omega)
 have b0'' : ((lf.length : Int) + 1 == 0) = false := beq_eq_false_iff_ne.mpr (by omega)
 obtain ⟨W1, hW1⟩ : ∃ W1, W1 = w.alloc (.cells #[.bool false, .string p.f1] 78) := ⟨_, rfl⟩
 have hB1 : Below w.heap.size w W1 := by rw [hW1]; exact below_alloc (Below.refl _ _) _
 have hX1 : W1.heap[w.heap.size]? = some (.cells #[.bool false, .string p.f1] 78 (0, 0)) := by rw [hW1]; exact heap_alloc_new w _
 have q2a := pw_cell_below hB1 q2
 have f2a : W1.frozen? ⟨gs, rest.length * 5 + 2, none⟩ = false := (hB1.frozen hgs).trans f2
 obtain ⟨W2, hW2⟩ : ∃ W2, W2 = W1.setCell ⟨gs, rest.length * 5 + 2, none⟩ (.slice A1' lf.length (c1 - 1)) := ⟨_, rfl⟩
 have hX2 : W2.heap[w.heap.size]? = some (.cells #[.bool false, .string p.f1] 78 (0, 0)) := by rw [hW2]; exact blk_far hX1 (by show w.heap.size ≠ gs; omega) _
 obtain ⟨hH2, hG2⟩ := Kd.H_seg (Kd.H_below hH hB1) (by omega) (by omega) (seg := [.slice A1' lf.length (c1 - 1)]) (j := 2) (by show 2 + 1 ≤ 5; omega) (by simp [Value.oneCell'])
 have ec : W1.setCells gs ((rest.length : Int).toNat * Pr.frK.sz + 2) [.slice A1' lf.length (c1 - 1)] = W2 := by rw [hW2]; rfl
 rw [ec] at hH2 hG2
 have hBB : Below B w W2 := by rw [hW2]; exact (hB1.mono hB).setCell (p := ⟨gs, rest.length * 5 + 2, none⟩) hgB _
 have same2 : ∀ k, oki k → k < w.heap.size → W2.heap[k]? = w.heap[k]? := fun k hk hlt => by
  rw [hW2]
  exact (Below.heap_setCell W1 _ _ k (hoki k hk).2).trans (hB1.block k hlt)
 have hview3 := Pr.view_at hview2 same2
 have hov3 := Kd.R_step hov same2
 have s3 : W2.cell? ⟨gs, rest.length * 5 + 3, none⟩ = some (.slice A2 out.length c2) := by
  rw [hW2]; exact (World.cell?_setCell_other (w := W1) (a := ⟨gs, rest.length * 5 + 2, none⟩) (b := ⟨gs, rest.length * 5 + 3, none⟩) (v := .slice A1' lf.length (c1 - 1)) (fun h => by injection h with _ h; omega)).trans (pw_cell_below hB1 q3)
 have s4 : W2.cell? ⟨gs, rest.length * 5 + 4, none⟩ = some (.int .i64 need) := by
  rw [hW2]; exact (World.cell?_setCell_other (w := W1) (a := ⟨gs, rest.length * 5 + 2, none⟩) (b := ⟨gs, rest.length * 5 + 4, none⟩) (v := .slice A1' lf.length (c1 - 1)) (fun h => by injection h with _ h; omega)).trans (pw_cell_below hB1 q4)
 have t3 : W2.frozen? ⟨gs, rest.length * 5 + 3, none⟩ = false := by rw [hW2, World.frozen?_setCell]; exact (hB1.frozen hgs).trans (hfr 3)
 have t4 : W2.frozen? ⟨gs, rest.length * 5 + 4, none⟩ = false := by rw [hW2, World.frozen?_setCell]; exact (hB1.frozen hgs).trans (hfr 4)
 have HT := Aside0.mk (And.intro t3 t4)
 have HS := Aside0.mk (And.intro s3 s4)
 clear s3 s4 t3 t4
 have hS2 := Kd.H_back hH2 (x' := ⟨nm, nd, lf, out, need⟩) (Pr.fr_mk _ hview3 hov3) (fun k hk => hk)
 rw [Pr.set_last] at hS2
 have HS2 := Aside0.mk hS2
 clear hS2
 have z0 := (blk_cell hX2 0).trans rfl
 have z1 := (blk_cell hX2 1).trans rfl
 rw [hW2, hW1] at z0 z1
 rw [hW1] at q2a f2a
 have HW2 := Lib.hid hW2
 have HW1 := Lib.hid hW1
 have HX2 := Aside0.mk hX2
 have HH2 := Aside0.mk (Kd.H_widen hH2)
 have HV3 := Aside0.mk hview3
 have HO3 := Aside0.mk (Kd.R_mono hov3 (ok' := fun k => oki k ∨ True ∧ W2.heap.size ≤ k) (fun k hk => .inl hk))
 have HBB := Aside0.mk hBB
 have HSZ := Lib.hid (show w.heap.size ≤ W2.heap.size ∧ B ≤ W2.heap.size ∧ gs < W2.heap.size ∧ B ≤ gs ∧ gs < w.heap.size from by
  have h1 := hBB.size
  have h2 := hG2
  obtain ⟨_, _, _, h3, _⟩ := hG2
  have := hB1.size
  exact ⟨by omega, by omega, by omega, hgB, hgs⟩)
 have HOKI := Lib.hid hoki
 clear hS hM hcc hfr hoki htop hH hF hview hview2 hview3 hov hov3 hB1 hX1 hX2 hH2 hG2 hBB same2 ec hA1 hcl hl1 frame_sz f2 hW2 hW1 hgs hgB
 have HJ := Aside0.mk hJ
 clear hJ
 conv => arg 2; whnf
 unfold Pr.frm
 rw [h12]
 go_wp2_with (fail)
 rw [← HW1.out, ← HW2.out]
 have z1 := (blk_cell HX2.out 1).trans rfl
 clear q2a f2a q0 q1 q2 q4 y0 y1 z0 hsl p1 p2 p3 ew ew' b0 b0' b0''
 have WF : ∀ (v : Value) (w1 : World), W2.drew.grownBy w1 v.ownBlock → Kd.R Kd.string 9 W2 B (fun k => oki k ∨ True ∧ W2.heap.size ≤ k) v out → w1.cell? ⟨gs, rest.length * 5 + 3, none⟩ = some (.slice A2 out.length c2) ∧ w1.cell? ⟨gs, rest.length * 5 + 4, none⟩ = some (.int .i64 need) ∧ w1.frozen? ⟨gs, rest.length * 5 + 3, none⟩ = false ∧ w1.frozen? ⟨gs, rest.length * 5 + 4, none⟩ = false := fun v w1 gg hr => by
  have hne : some gs ≠ v.ownBlock := fun he => by
   rcases hr.1 gs he.symm with h | h
   ·exact (HOKI.out gs h).2 rfl
   ·have := HSZ.out.2.2.1; omega
  exact ⟨(gg.cell_far ⟨gs, rest.length * 5 + 3, none⟩ HSZ.out.2.2.1 hne).trans HS.out.1, (gg.cell_far ⟨gs, rest.length * 5 + 4, none⟩ HSZ.out.2.2.1 hne).trans HS.out.2, (gg.frozen_far ⟨gs, rest.length * 5 + 3, none⟩ HSZ.out.2.2.1 hne).trans HT.out.1, (gg.frozen_far ⟨gs, rest.length * 5 + 4, none⟩ HSZ.out.2.2.1 hne).trans HT.out.2⟩
 have q3 := HS.out.1
 have WF := Aside0.mk WF
 have q3a := fun o => pw_cell_below (below_alloc (Below.refl W2.heap.size W2) o) q3
 have z1a := fun o => pw_cell_below (below_alloc (Below.refl W2.heap.size W2) o) z1
 go_region_law (refine Kd.R_append_step Kd.string (w0 := w) (W := W2.drew) B (by rfl) (.tmp 134) (.tmp 137) 69 9 _ 16 rfl Try.underlying69 Pr.strInfo rfl (by decide) (by decide) (.slice A2 out.length c2) out p.f1 [.string p.f1] (fun k => oki k ∨ True ∧ W2.heap.size ≤ k) (fun _ => False) rfl rfl rfl (fun _ h => h.elim) (fun k hk => .inr ⟨trivial, hk⟩) (Kd.R_drew HO3.out) (below_drew HBB.out) HSZ.out.2.1 (by omega) ?_; intro v1 w1 r1 bw gg at1; have FA := (WF.out (.slice A2 out.length c2) w1 gg HO3.out); have j3 := FA.1; have j4 := FA.2.1; have k3 := FA.2.2.1; have k4 := FA.2.2.2; obtain ⟨A3, c3, rfl⟩ := Kd.R_slice r1; have R1 := Aside0.mk r1; have BW := Aside0.mk bw; have GG := Aside0.mk gg; clear FA r1 bw gg at1)
 all_goals
  (try go_wp2)
 all_goals
  refine wp_goto (And.intro rfl ?_)
  rw [Pr.frm_of _ rfl]
  have el : (out ++ [p.f1]).length = out.length + 1 := by simp
  have r1 := R1.out
  rw [el] at r1
  have S := Pr.close3 (Kd.H_drew HH2.out) GG.out (Kd.R_drew HO3.out) ((viewK 78 k78).M_mono (fun k hk => .inl hk) (Pr.view_at HV3.out (w1 := W2.drew) (fun _ _ _ => rfl))) r1
  exact HJ.out _ _ rfl rfl ⟨_, rfl, S⟩ (BW.out.setCell (p := ⟨gs, rest.length * 5 + 3, none⟩) HSZ.out.2.2.2.1 _)
set_option maxRecDepth 1000000 in
theorem props_Names_Value.fin (u : Nat → Value) (B gs cs k : Nat) (rest : List Pr.Fr) (nm : ByteArray) (nd : Bool) (out : List ByteArray) (need : Int) (r1 : ByteArray) (r2 : Int) (w : World) (J : Act → World → Prop) (POST : Ending → World → Prop)
 (h12 : u 12 = .slice (some ⟨gs, 0, none⟩) (rest.length + 1) cs) (hS : Kd.S Pr.frK 71 w B (fun _ => True) (.slice (some ⟨gs, 0, none⟩) (rest.length + 1) cs) (rest.reverse ++ [⟨nm, nd, [], out, need⟩]))
 (hlen : rest.length ≤ 20) (hG : Glob w) (hd : props_done.f k out = some (r1, r2)) (hr : r2 ≠ 0 ∨ r2 = 0 ∧ rest = [])
 (hP : ∀ w' : World, Below w.heap.size w w' → POST (.returned (.tuple #[.string (if r2 = 0 then r1 else ⟨#[]⟩), .int .i64 r2])) w') :
 Code.wp Try.prog Pr.rest (Exit.jump 0 J (bodyPost Try.prog Try.f25 POST)) (Pr.frm u) w := by
 have hu := Try.underlying71
 have htop : (rest.reverse ++ [(⟨nm, nd, [], out, need⟩ : Pr.Fr)]).getD (rest.length : Int).toNat Pr.zfr = ⟨nm, nd, [], out, need⟩ := by
  rw [Int.toNat_natCast, List.getD_eq_getElem?_getD, List.getElem?_append_right (by simp)]; simp
 obtain ⟨oki, cc, hcl, hM, hcc, hfr, hoki, hH⟩ := Kd.S_elem hS Pr.zfr (rest.length : Int) (by omega) (by omega)
 rw [htop] at hM
 obtain ⟨lv, ov, rfl, hlv, hov⟩ := Pr.fr_M hM
 have hgs := Kd.S_lt hS gs (by simp [Value.ownBlock])
 have hgB := Kd.S_base hS gs (by simp [Value.ownBlock])
 obtain ⟨A1, c1, e1, hl1, hF⟩ := hlv
 obtain rfl := (List.cons.inj e1).1
 obtain ⟨A2, c2, rfl⟩ := Kd.R_slice hov
 simp only [Int.toNat_natCast] at hcc hfr
 have frame_sz : Pr.frK.sz = 5 := rfl
 rw [frame_sz] at hcc hfr
 have q0 : w.cell? ⟨gs, rest.length * 5, none⟩ = some (.string nm) := hcc 0 _ rfl
 have q2 : w.cell? ⟨gs, rest.length * 5 + 2, none⟩ = some (.slice A1 0 c1) := hcc 2 _ rfl
 have q3 : w.cell? ⟨gs, rest.length * 5 + 3, none⟩ = some (.slice A2 out.length c2) := hcc 3 _ rfl
 have q4 : w.cell? ⟨gs, rest.length * 5 + 4, none⟩ = some (.int .i64 need) := hcc 4 _ rfl
 have ew : wrap64 (((rest.length + 1 : Nat) : Int) - 1) = (rest.length : Int) := by unfold wrap64; omega
 have ew' : wrap64 ((rest.length : Int) + 1 - 1) = (rest.length : Int) := by unfold wrap64; omega
 have p1 := eq_true (show (0 : Int) ≤ (rest.length : Int) by omega)
 have p2 := eq_true (show (rest.length : Int) < ((rest.length + 1 : Nat) : Int) by omega)
 have p3 := eq_true (show rest.length < rest.length + 1 by omega)
 have CD := Aside0.mk (props_done.calls k A2 c2 out r1 r2 w (Kd.R_reads' hov).2.2 (Kd.R_reads' hov).2.1 hG hd)
 have HS := Aside0.mk hS
 have HG := Aside0.mk hG
 clear hS hM hcc hfr htop hH hF hov e1 hl1 hcl frame_sz hG hd
 have HP := Aside0.mk hP
 clear hP
 conv => arg 2; whnf
 unfold Pr.frm
 rw [h12]
 rcases hr with hr | ⟨rfl, hr⟩
 ·have b1 : (r2 != 0) = true := bne_iff_ne.mpr hr
  rw [if_neg hr] at HP
  clear hr
  go_wp2_with (first | (go_at_call 37; (with_reducible refine (CD.out).mono ?_); rintro e w3 ⟨rfl, hb3⟩; have HB3 := Aside0.mk hb3; clear hb3))
  (try simp only [Exit.inBlock, Exit.then, jump_ret])
  (try go_ret2)
  exact HP.out _ HB3.out
 ·rw [if_pos rfl] at HP
  have c1_ : ((rest.length : Int) + 1 == 1) = true := by rw [hr]; rfl
  have c2_ : (((rest.length + 1 : Nat) : Int) == 1) = true := by rw [hr]; rfl
  have c3_ : (rest.length + 1 == 1) = true := by rw [hr]; rfl
  have c4_ : (rest.length == 0) = true := by rw [hr]; rfl
  clear hr
  go_wp2_with (first | (go_at_call 37; (with_reducible refine (CD.out).mono ?_); rintro e w3 ⟨rfl, hb3⟩; have HB3 := Aside0.mk hb3; clear hb3))
  (try simp only [Exit.inBlock, Exit.then, jump_ret])
  (try go_ret2)
  exact HP.out _ HB3.out
attribute [local go_sem] max2_int
set_option maxRecDepth 1000000 in
theorem props_Names_Value.pop (u : Nat → Value) (B gs cs k g mr mk cnt : Nat) (raw : ByteArray → Option ByteArray) (kn : ByteArray → Option (ByteArray × Int)) (rest rest' : List Pr.Fr) (up : Pr.Fr) (nm : ByteArray) (nd : Bool) (out : List ByteArray) (need r2 : Int) (r1 : ByteArray) (w : World) (J : Act → World → Prop) (POST : Ending → World → Prop)
 (hu0 : u 0 = .pointer (some ⟨g, 0, none⟩)) (h12 : u 12 = .slice (some ⟨gs, 0, none⟩) (rest.length + 1) cs) (hS : Kd.S Pr.frK 71 w B (fun _ => True) (.slice (some ⟨gs, 0, none⟩) (rest.length + 1) cs) (rest.reverse ++ [⟨nm, nd, [], out, need⟩])) (hrest : rest = up :: rest')
 (hN : Pr.NAt w g mr mk raw cnt kn) (hcnt : cnt < 1000000) (hkey : nm.size ≤ maxLen) (hneed : -1000000 ≤ need ∧ need ≤ 1000000) (hup : up.out.length < 1000000) (hg : g < B) (hmr : mr < B) (hmk : mk < B)
 (hlen : rest.length ≤ 20) (hG : Glob w) (hB : B ≤ w.heap.size) (hd : props_done.f k out = some (r1, r2)) (hr : r2 = 0)
 (hJ : ∀ (u' : Nat → Value) (w' : World), u' 0 = u 0 → u' 13 = u 13 → (∃ v, u' 12 = v ∧ Kd.S Pr.frK 71 w' B (fun _ => True) v (rest'.reverse ++ [⟨up.nm, up.nd, up.left, up.out ++ [r1], mx up.need (need + 1)⟩])) → Pr.NAt w' g mr mk raw (cnt + 1) (Pr.upd kn nm (r1, need)) → Pr.But B mk w w' → J (Pr.frm u') w') :
 Code.wp Try.prog Pr.rest (Exit.jump 0 J (bodyPost Try.prog Try.f25 POST)) (Pr.frm u) w := by
 have hu := Try.underlying71
 have htop : (rest.reverse ++ [(⟨nm, nd, [], out, need⟩ : Pr.Fr)]).getD (rest.length : Int).toNat Pr.zfr = ⟨nm, nd, [], out, need⟩ := by
  rw [Int.toNat_natCast, List.getD_eq_getElem?_getD, List.getElem?_append_right (by simp)]; simp
 obtain ⟨oki, cc, hcl, hM, hcc, hfr, hoki, hH⟩ := Kd.S_elem hS Pr.zfr (rest.length : Int) (by omega) (by omega)
 rw [htop] at hM
 obtain ⟨lv, ov, rfl, hlv, hov⟩ := Pr.fr_M hM
 have hgs := Kd.S_lt hS gs (by simp [Value.ownBlock])
 have hgB := Kd.S_base hS gs (by simp [Value.ownBlock])
 obtain ⟨A1, c1, e1, hl1, hF⟩ := hlv
 obtain rfl := (List.cons.inj e1).1
 obtain ⟨A2, c2, rfl⟩ := Kd.R_slice hov
 simp only [Int.toNat_natCast] at hcc hfr
 have frame_sz : Pr.frK.sz = 5 := rfl
 rw [frame_sz] at hcc hfr
 have q0 : w.cell? ⟨gs, rest.length * 5, none⟩ = some (.string nm) := hcc 0 _ rfl
 have q2 : w.cell? ⟨gs, rest.length * 5 + 2, none⟩ = some (.slice A1 0 c1) := hcc 2 _ rfl
 have q3 : w.cell? ⟨gs, rest.length * 5 + 3, none⟩ = some (.slice A2 out.length c2) := hcc 3 _ rfl
 have q4 : w.cell? ⟨gs, rest.length * 5 + 4, none⟩ = some (.int .i64 need) := hcc 4 _ rfl
 have ew : wrap64 (((rest.length + 1 : Nat) : Int) - 1) = (rest.length : Int) := by unfold wrap64; omega
 have ew' : wrap64 ((rest.length : Int) + 1 - 1) = (rest.length : Int) := by unfold wrap64; omega
 have p1 := eq_true (show (0 : Int) ≤ (rest.length : Int) by omega)
 have p2 := eq_true (show (rest.length : Int) < ((rest.length + 1 : Nat) : Int) by omega)
 have p3 := eq_true (show rest.length < rest.length + 1 by omega)
 have CD := Aside0.mk (props_done.calls k A2 c2 out r1 r2 w (Kd.R_reads' hov).2.2 (Kd.R_reads' hov).2.1 hG hd)
 have HS := Aside0.mk hS
 have HG := Aside0.mk hG
 have hcs := (Kd.S_reads' hS).2.1
 clear hS hM hcc hfr htop hH hF hov e1 hl1 hcl frame_sz hG hd
 have hun := Try.underlying64
 have hfd := Try.underlying76
 have HJ := Aside0.mk hJ
 have HN := Aside0.mk hN
 obtain ⟨nr, Dr, Dk, n1, n2, n3, n4, n5, n6⟩ := id hN
 have y1 : w.cell? ⟨g, 1, none⟩ = some (.map (some mk)) := (blk_cell n1 1).trans rfl
 have hsl := Pr.fr_cut gs (rest.length + 1) cs rest.length (by omega) hcs
 have hl1 : rest.length = rest'.length + 1 := by rw [hrest]; rfl
 obtain ⟨m, hm⟩ : ∃ m, m = rest'.length := ⟨_, rfl⟩
 have c1_ : ((rest.length : Int) + 1 == 1) = false := beq_eq_false_iff_ne.mpr (by omega)
 have c2_ : (((rest.length + 1 : Nat) : Int) == 1) = false := beq_eq_false_iff_ne.mpr (by omega)
 have c3_ : (rest.length + 1 == 1) = false := beq_eq_false_iff_ne.mpr (by omega)
 have c4_ : (rest.length == 0) = false := beq_eq_false_iff_ne.mpr (by omega)
 obtain ⟨hneed0, hneed1⟩ := hneed
 have o1 := eq_true (show (0 : Int) ≤ (rest.length : Int) - 1 by omega)
 have o2 := eq_true (show (rest.length : Int) - 1 < (rest.length : Int) by omega)
 have o3 := eq_true (show (1 : Int) ≤ (rest.length : Int) by omega)
 have o4 := eq_true (show 1 ≤ rest.length by omega)
 have o5 := eq_true (show 0 < rest.length by omega)
 have o6 := eq_true (show rest.length - 1 < rest.length by omega)
 have hm1 : rest'.length = rest.length - 1 := by omega
 subst hr
 have Q := Aside0.mk (And.intro q0 (And.intro q4 y1))
 have HH := Lib.hid (show (rest'.length = rest.length - 1 ∧ rest = up :: rest') ∧ (g < B ∧ mr < B ∧ mk < B) ∧ (B ≤ gs ∧ gs < w.heap.size) ∧ B ≤ w.heap.size ∧ cnt < 1000000 ∧ up.out.length < 1000000 from ⟨⟨hm1, hrest⟩, ⟨hg, hmr, hmk⟩, ⟨hgB, hgs⟩, hB, hcnt, hup⟩)
 clear hJ hN n1 n2 n3 n4 n5 n6 hm hm1 hrest hl1 hcs hg hmr hmk hgB hgs hB hcnt hup q0 q4 y1 hoki
 conv => arg 2; whnf
 unfold Pr.frm
 rw [h12, hu0]
 go_wp2_with (first | (go_at_call 37; (with_reducible refine (CD.out).mono ?_); rintro e w3 ⟨rfl, hb3⟩; have HB3 := Aside0.mk hb3; have a0 := pw_cell_below hb3 Q.out.1; have a4 := pw_cell_below hb3 Q.out.2.1; have ay := pw_cell_below hb3 Q.out.2.2; clear hb3))
 have HN3 := Aside0.mk (HN.out.step (HB3.out.mono HH.out.2.2.2.1) HH.out.2.1.1 HH.out.2.1.2.1 HH.out.2.1.2.2)
 have HS3 := Aside0.mk (Kd.S_below HS.out HB3.out)
 have hN3 := HN3.out
 obtain ⟨nr, Dr, Dk, n1, n2, n3, n4, n5, n6⟩ := hN3
 have N1 := Aside0.mk n1
 have N2 := Aside0.mk n2
 have N3 := Aside0.mk n3
 have N4 := Aside0.mk n4
 have N5 := Aside0.mk n5
 have N6 := Aside0.mk n6
 clear n1 n2 n3 n4 n5 n6
 go_still_tail 14, (by kernel_rfl)
 go_wp2_with (first | (at_mapUpdate; go_loud (refine wpList_mapUpdate_own _ rfl _ _ _ 62 rfl 9 76 (Maps.string_keyed Try.underlying9) Try.underlying62 _ mk cnt Dk rfl (World.ownsMap.drew N4.out) (by unfold maxLen; have := HH.out.2.2.2.2.1; omega) _ _ (Pr.lit nm) rfl rfl (WideMaps.keyOf_string_mk Try.underlying9 hkey) _ [] (Pr.foundR_mk r1 need) ?_; intro w4 hown4 hgrow4; have a4w := (hgrow4.cell_far ⟨gs, rest.length * 5 + 4, none⟩ (by have := HB3.out.size; have := HH.out.2.2.1.2; show gs < w3.heap.size; omega) (by have := HH.out.2.2.1.1; have := HH.out.2.1.2.2; intro he; injection he with he; have he : gs = mk := he; omega)).trans a4)))
 have HS4 := Aside0.mk (Pr.S_map (Kd.S_drew HS3.out) hgrow4 HH.out.2.1.2.2)
 have HBT := Aside0.mk ((Pr.But.below (mk := mk) (HB3.out.mono HH.out.2.2.2.1)).trans (Pr.But.grown (w := w3) ⟨hgrow4.os, hgrow4.tape, hgrow4.output, hgrow4.size, hgrow4.block⟩ (Nat.le_trans HH.out.2.2.2.1 HB3.out.size)))
 have HBS := Lib.hid (show B ≤ w4.heap.size from Nat.le_trans HH.out.2.2.2.1 (HBT.out.size))
 have HN4 := Aside0.mk (show Pr.NAt w4 g mr mk raw (cnt + 1) (Pr.upd kn nm (r1, need)) from ⟨nr, Dr, _, (hgrow4.block g (Array.getElem?_eq_some_iff.1 N1.out).1 (fun he => map_ne' N4.out N1.out (by injection he with he; exact he.symm))).trans N1.out, N2.out.kept (w := w3.drew) hgrow4 (fun he => N6.out (by injection he)), N3.out, hown4, N5.out.put (World.ownsMap.isMap N4.out) nm r1 need, N6.out⟩)
 clear hown4 hgrow4 a0 a4 ay
 have hS4 := HS4.out
 rw [HH.out.1.2] at hS4
 have hS5 := Kd.S_take hS4 (m := rest.length) (by rw [HH.out.1.2]; simp)
 have htk : ((up :: rest').reverse ++ [(⟨nm, nd, [], out, need⟩ : Pr.Fr)]).take rest.length = rest'.reverse ++ [up] := by
  rw [List.take_append_of_le_length (by rw [HH.out.1.2]; simp), List.take_of_length_le (by rw [HH.out.1.2]; simp), List.reverse_cons]
 rw [htk] at hS5
 have hlm : rest.length = rest'.length + 1 := by rw [HH.out.1.2]; rfl
 rw [hlm] at hS5
 have htop : (rest'.reverse ++ [up]).getD (rest'.length : Int).toNat Pr.zfr = up := by
  rw [Int.toNat_natCast, List.getD_eq_getElem?_getD, List.getElem?_append_right (by simp)]; simp
 obtain ⟨oku, ccu, hclu, hMu, hccu, hfru, hoku, hHu⟩ := Kd.S_elem hS5 Pr.zfr (rest'.length : Int) (by omega) (by omega)
 rw [htop] at hMu
 obtain ⟨lvu, ovu, rfl, hlvu, hovu⟩ := Pr.fr_M hMu
 obtain ⟨A3, c3, rfl⟩ := Kd.R_slice hovu
 simp only [Int.toNat_natCast] at hccu hfru
 have frame_sz : Pr.frK.sz = 5 := rfl
 rw [frame_sz] at hccu hfru
 have v3 : w4.cell? ⟨gs, (rest.length - 1) * 5 + 3, none⟩ = some (.slice A3 up.out.length c3) := by rw [← HH.out.1.1]; exact hccu 3 _ rfl
 have v4 : w4.cell? ⟨gs, (rest.length - 1) * 5 + 4, none⟩ = some (.int .i64 up.need) := by rw [← HH.out.1.1]; exact hccu 4 _ rfl
 have g3 : w4.frozen? ⟨gs, (rest.length - 1) * 5 + 3, none⟩ = false := by rw [← HH.out.1.1]; exact hfru 3
 have g4 : w4.frozen? ⟨gs, (rest.length - 1) * 5 + 4, none⟩ = false := by rw [← HH.out.1.1]; exact hfru 4
 have hgs4 : gs < w4.heap.size := Nat.lt_of_lt_of_le HH.out.2.2.1.2 HBT.out.size
 have WF : ∀ (w5 : World), w4.drew.grownBy w5 (Value.slice A3 up.out.length c3).ownBlock → w5.cell? ⟨gs, (rest.length - 1) * 5 + 3, none⟩ = some (.slice A3 up.out.length c3) ∧ w5.cell? ⟨gs, (rest.length - 1) * 5 + 4, none⟩ = some (.int .i64 up.need) ∧ w5.frozen? ⟨gs, (rest.length - 1) * 5 + 3, none⟩ = false ∧ w5.frozen? ⟨gs, (rest.length - 1) * 5 + 4, none⟩ = false := fun w5 gg => by
  have hne : some gs ≠ (Value.slice A3 up.out.length c3).ownBlock := fun he => (hoku gs (hovu.1 gs he.symm)).2 rfl
  exact ⟨(gg.cell_far ⟨gs, (rest.length - 1) * 5 + 3, none⟩ hgs4 hne).trans v3, (gg.cell_far ⟨gs, (rest.length - 1) * 5 + 4, none⟩ hgs4 hne).trans v4, (gg.frozen_far ⟨gs, (rest.length - 1) * 5 + 3, none⟩ hgs4 hne).trans g3, (gg.frozen_far ⟨gs, (rest.length - 1) * 5 + 4, none⟩ hgs4 hne).trans g4⟩
 have WF := Aside0.mk WF
 have HHU := Aside0.mk (Kd.H_widen hHu)
 have HOU := Aside0.mk (Kd.R_mono hovu (ok' := fun k => oku k ∨ True ∧ w4.heap.size ≤ k) (fun k hk => .inl hk))
 have HVU := Aside0.mk hlvu
 have HKU := Lib.hid (show ∀ k, (oku k ∨ True ∧ w4.heap.size ≤ k) → k ≠ gs from fun k hk => hk.elim (fun h => (hoku k h).2) (fun h he => by have := h.2; omega))
 have v3a := fun o => pw_cell_below (below_alloc (Below.refl w4.heap.size w4) o) v3
 have v4a := fun o => pw_cell_below (below_alloc (Below.refl w4.heap.size w4) o) v4
 clear hS4 hS5 htk hlm htop hMu hccu hfru hoku hHu hlvu hovu hclu frame_sz g3 g4 hgs4 HS4 HS3 HN3 HS HN N1 N2 N3 N4 N5 N6 CD Q
 go_region_law (refine Kd.R_append_step Kd.string (w0 := w4) (W := w4.drew) B (by rfl) (.tmp 99) (.tmp 101) 69 9 _ 16 rfl Try.underlying69 Pr.strInfo rfl (by decide) (by decide) (.slice A3 up.out.length c3) up.out r1 [.string r1] (fun k => oku k ∨ True ∧ w4.heap.size ≤ k) (fun _ => False) rfl rfl rfl (fun _ h => h.elim) (fun k hk => .inr ⟨trivial, hk⟩) (Kd.R_drew HOU.out) (below_drew (Below.refl _ _)) HBS.out (by have := HH.out.2.2.2.2.2; omega) ?_; intro v1 w5 rr bw gg at1; have FA := WF.out w5 gg; have j3 := FA.1; have j4 := FA.2.1; have k3 := FA.2.2.1; have k4 := FA.2.2.2; obtain ⟨A5, c5, rfl⟩ := Kd.R_slice rr; have R1 := Aside0.mk rr; have BW := Aside0.mk bw; have GG := Aside0.mk gg; clear FA rr bw gg at1)
 all_goals
  (try go_wp2)
 all_goals
  refine wp_goto (And.intro rfl ?_)
  rw [Pr.frm_of _ rfl]
  have el : (up.out ++ [r1]).length = up.out.length + 1 := by simp
  have r1' := R1.out
  rw [el] at r1'
  have hll : rest'.length + 1 = rest.length := by rw [HH.out.1.2]; rfl
  by_cases hq : up.need < need + 1
  rotate_left
  ·first
   | (exfalso; omega; done)
   | skip
   all_goals
    have hmx : mx up.need (need + 1) = up.need := if_neg hq
    have S := Pr.close34 (need2 := up.need) (Kd.H_drew HHU.out) GG.out (Kd.R_drew HOU.out) ((viewK 78 k78).M_mono (fun k hk => .inl hk) (Pr.view_at HVU.out (w1 := w4.drew) (fun _ _ _ => rfl))) r1' HKU.out
    rw [hll, HH.out.1.1] at S
    have hb5 := (BW.out.setCell (p := ⟨gs, (rest.length - 1) * 5 + 3, none⟩) HH.out.2.2.1.1 (.slice A5 (up.out.length + 1) c5)).setCell (p := ⟨gs, (rest.length - 1) * 5 + 4, none⟩) HH.out.2.2.1.1 (.int .i64 (up.need))
    exact HJ.out _ _ hu0.symm rfl ⟨_, rfl, by rw [hmx]; exact S⟩ (HN4.out.step hb5 HH.out.2.1.1 HH.out.2.1.2.1 HH.out.2.1.2.2) (HBT.out.trans (Pr.But.below hb5))
  first
  | (exfalso; omega; done)
  | skip
  all_goals
   have hmx : mx up.need (need + 1) = need + 1 := if_pos hq
   have S := Pr.close34 (need2 := need + 1) (Kd.H_drew HHU.out) GG.out (Kd.R_drew HOU.out) ((viewK 78 k78).M_mono (fun k hk => .inl hk) (Pr.view_at HVU.out (w1 := w4.drew) (fun _ _ _ => rfl))) r1' HKU.out
   rw [hll, HH.out.1.1] at S
   have hb5 := (BW.out.setCell (p := ⟨gs, (rest.length - 1) * 5 + 3, none⟩) HH.out.2.2.1.1 (.slice A5 (up.out.length + 1) c5)).setCell (p := ⟨gs, (rest.length - 1) * 5 + 4, none⟩) HH.out.2.2.1.1 (.int .i64 (need + 1))
   exact HJ.out _ _ hu0.symm rfl ⟨_, rfl, by rw [hmx]; exact S⟩ (HN4.out.step hb5 HH.out.2.1.1 HH.out.2.1.2.1 HH.out.2.1.2.2) (HBT.out.trans (Pr.But.below hb5))
theorem Pr.zeroStr (w : World) : (zeroValue 9).run Try.prog w = .ok (.string ⟨#[]⟩) w := by kernel_rfl
theorem Pr.zeroFound (w : World) : (zeroValue 76).run Try.prog w = .ok (.agg #[.string ⟨#[]⟩, .int .i64 0]) w := by kernel_rfl
theorem Pr.raw_run {w : World} {g mr mk cnt : Nat} {raw : ByteArray → Option ByteArray} {kn : ByteArray → Option (ByteArray × Int)} (h : Pr.NAt w g mr mk raw cnt kn) (s : ByteArray) (hs : s.size ≤ maxLen) (n : Nat) :
 (Instr.lookup 61 (.map (some mr)) (.string s) true).run Try.prog (w.drewN n) = .ok (.tuple #[.string ((raw s).getD ⟨#[]⟩), .bool (raw s).isSome]) (w.drewN n) := by
 obtain ⟨nr, Dr, Dk, a, b, c, d, e, f⟩ := h
 have b' : (w.drewN n).ownsMap Try.prog 9 (plainElem (H := Unit) Try.prog 9) mr nr Dr := Pr.own_at b rfl
 obtain ⟨v, ps, hrun, hv⟩ := b'.look_ok (Maps.string_keyed Try.underlying9) Try.underlying61 (Pr.zeroStr _) (zd := .lit (.string [])) (zp := []) (plainElem_string Try.underlying9 (s := ⟨#[]⟩) (Nat.zero_le _)) (WideMaps.keyOf_string_mk Try.underlying9 hs)
 obtain ⟨x, rfl, hx, _⟩ := plainElem_string_inv Try.underlying9 hv
 have hh := (c s).1
 have hx := congrArg Prod.fst hx
 simp only at hx
 rw [show (Maps.has Dr (.string s.data.toList)) = (raw s).isSome from hh] at hrun
 rw [hrun]
 cases hr : raw s with
 | none =>
  rw [hr] at hh
  rw [Maps.atKey_of_not_has (k := .string s.data.toList) hh] at hx
  injection hx with hx
  injection hx with hx
  have : x = ⟨#[]⟩ := ByteArray.ext (Array.toList_inj.1 hx.symm)
  rw [this]; rfl
 | some y =>
  rw [show Dr.atKey (.string s.data.toList) (.lit (.string [])) = _ from (c s).2 y hr _] at hx
  injection hx with hx
  injection hx with hx
  have : x = y := ByteArray.ext (Array.toList_inj.1 hx.symm)
  rw [this]; rfl
theorem Pr.kn_run {w : World} {g mr mk cnt : Nat} {raw : ByteArray → Option ByteArray} {kn : ByteArray → Option (ByteArray × Int)} (h : Pr.NAt w g mr mk raw cnt kn) (s : ByteArray) (hs : s.size ≤ maxLen) (n : Nat) :
 (Instr.lookup 62 (.map (some mk)) (.string s) true).run Try.prog (w.drewN n) = .ok (.tuple #[.agg #[.string ((kn s).getD (⟨#[]⟩, 0)).1, .int .i64 ((kn s).getD (⟨#[]⟩, 0)).2], .bool (kn s).isSome]) (w.drewN n) := by
 obtain ⟨nr, Dr, Dk, a, b, c, d, e, f⟩ := h
 have d' : (w.drewN n).ownsMap Try.prog 9 Pr.foundR mk cnt Dk := Pr.own_at d rfl
 obtain ⟨v, ps, hrun, hv⟩ := d'.look_ok (Maps.string_keyed Try.underlying9) Try.underlying62 (Pr.zeroFound _) (Pr.foundR_mk ⟨#[]⟩ 0) (WideMaps.keyOf_string_mk Try.underlying9 hs)
 have hh := (e s).1
 rw [show (Maps.has Dk (.string s.data.toList)) = (kn s).isSome from hh] at hrun
 rw [hrun]
 cases hr : kn s with
 | none =>
  rw [hr] at hh
  rw [Maps.atKey_of_not_has (k := .string s.data.toList) hh] at hv
  have := Pr.foundR_inv (s := ⟨#[]⟩) (n := 0) hv
  rw [this]; rfl
 | some y =>
  rw [show Dk.atKey (.string s.data.toList) _ = _ from (e s).2 y hr _] at hv
  have := Pr.foundR_inv hv
  rw [this]; rfl
set_option maxRecDepth 1000000 in
theorem props_Names_Value.noname (u : Nat → Value) (B gs cs g mr mk cnt : Nat) (raw : ByteArray → Option ByteArray) (kn : ByteArray → Option (ByteArray × Int)) (rest : List Pr.Fr) (nm : ByteArray) (nd : Bool) (p : S78) (lf : List S78) (out : List ByteArray) (need : Int) (deep : Int) (w : World) (J : Act → World → Prop) (POST : Ending → World → Prop)
 (h13 : u 13 = .int .i64 deep) (hdeep0 : 0 ≤ deep) (hdeep1 : deep ≤ 1) (hu0 : u 0 = .pointer (some ⟨g, 0, none⟩)) (h12 : u 12 = .slice (some ⟨gs, 0, none⟩) (rest.length + 1) cs) (hS : Kd.S Pr.frK 71 w B (fun _ => True) (.slice (some ⟨gs, 0, none⟩) (rest.length + 1) cs) (rest.reverse ++ [⟨nm, nd, p :: lf, out, need⟩]))
 (hN : Pr.NAt w g mr mk raw cnt kn) (hkey : p.f1.size ≤ maxLen) (hg : g < B) (hmr : mr < B) (hmk : mk < B)
 (hlen : rest.length ≤ 20) (hp : p.f0 = true) (hB : B ≤ w.heap.size) (hlf : lf.length ≤ 1000000000000) (hraw : raw p.f1 = none)
 (hP : ∀ w' : World, Below B w w' → POST (.returned (.tuple #[.string ⟨#[]⟩, .int .i64 17])) w') :
 Code.wp Try.prog Pr.rest (Exit.jump 0 J (bodyPost Try.prog Try.f25 POST)) (Pr.frm u) w := by
 have hu := Try.underlying71
 have hup := Try.underlying78
 have htop : (rest.reverse ++ [(⟨nm, nd, p :: lf, out, need⟩ : Pr.Fr)]).getD (rest.length : Int).toNat Pr.zfr = ⟨nm, nd, p :: lf, out, need⟩ := by
  rw [Int.toNat_natCast, List.getD_eq_getElem?_getD, List.getElem?_append_right (by simp)]; simp
 obtain ⟨oki, cc, hcl, hM, hcc, hfr, hoki, hH⟩ := Kd.S_elem hS Pr.zfr (rest.length : Int) (by omega) (by omega)
 rw [htop] at hM
 obtain ⟨lv, ov, rfl, hlv, hov⟩ := Pr.fr_M hM
 have hgs := Kd.S_lt hS gs (by simp [Value.ownBlock])
 have hgB := Kd.S_base hS gs (by simp [Value.ownBlock])
 obtain ⟨A1, c1, e1, hl1, hF⟩ := hlv
 obtain rfl := (List.cons.inj e1).1
 obtain ⟨A2, c2, rfl⟩ := Kd.R_slice hov
 obtain ⟨ad, e_, y0, y1⟩ := at_T78 (Kd.F_now hF) 0 (by omega) (by simp)
 cases e_
 have e0 : ad.add (Int.toNat 0 * 2) = ad := by simp [Addr.add]
 have e1_ : rd_T78 (p :: lf) 0 = p := rfl
 rw [e0, e1_] at y0 y1
 rw [hp] at y0
 clear e0 e1_ hp e1
 simp only [Int.toNat_natCast] at hcc hfr
 obtain ⟨A1', hA1, hsl⟩ := Pr.slice_ok (some ad) lf.length c1 hl1
 have hview := view_cut (m := 1) hl1 hF (by simp)
 have hview2 : (viewK 78 k78).M w B oki lf [.slice A1' lf.length (c1 - 1)] := by rw [hA1]; exact hview
 have frame_sz : Pr.frK.sz = 5 := rfl
 rw [frame_sz] at hcc hfr
 have q0 : w.cell? ⟨gs, rest.length * 5, none⟩ = some (.string nm) := hcc 0 _ rfl
 have q1 : w.cell? ⟨gs, rest.length * 5 + 1, none⟩ = some (.bool nd) := hcc 1 _ rfl
 have q2 : w.cell? ⟨gs, rest.length * 5 + 2, none⟩ = some (.slice (some ad) (lf.length + 1) c1) := hcc 2 _ rfl
 have q3 : w.cell? ⟨gs, rest.length * 5 + 3, none⟩ = some (.slice A2 out.length c2) := hcc 3 _ rfl
 have q4 : w.cell? ⟨gs, rest.length * 5 + 4, none⟩ = some (.int .i64 need) := hcc 4 _ rfl
 have f2 := hfr 2
 have ew : wrap64 (((rest.length + 1 : Nat) : Int) - 1) = (rest.length : Int) := by unfold wrap64; omega
 have ew' : wrap64 ((rest.length : Int) + 1 - 1) = (rest.length : Int) := by unfold wrap64; omega
 have p1 := eq_true (show (0 : Int) ≤ (rest.length : Int) by omega)
 have p2 := eq_true (show (rest.length : Int) < ((rest.length + 1 : Nat) : Int) by omega)
 have p3 := eq_true (show rest.length < rest.length + 1 by omega)
 have b0 : (((lf.length + 1 : Nat) : Int) == 0) = false := beq_eq_false_iff_ne.mpr (by omega)
 have b0' : ((lf.length + 1) == 0) = false := beq_eq_false_iff_ne.mpr (by omega)
 have b0'' : ((lf.length : Int) + 1 == 0) = false := beq_eq_false_iff_ne.mpr (by omega)
 obtain ⟨W1, hW1⟩ : ∃ W1, W1 = w.alloc (.cells #[.bool true, .string p.f1] 78) := ⟨_, rfl⟩
 have hB1 : Below w.heap.size w W1 := by rw [hW1]; exact below_alloc (Below.refl _ _) _
 have hX1 : W1.heap[w.heap.size]? = some (.cells #[.bool true, .string p.f1] 78 (0, 0)) := by rw [hW1]; exact heap_alloc_new w _
 have q2a := pw_cell_below hB1 q2
 have f2a : W1.frozen? ⟨gs, rest.length * 5 + 2, none⟩ = false := (hB1.frozen hgs).trans f2
 obtain ⟨W2, hW2⟩ : ∃ W2, W2 = W1.setCell ⟨gs, rest.length * 5 + 2, none⟩ (.slice A1' lf.length (c1 - 1)) := ⟨_, rfl⟩
 have hX2 : W2.heap[w.heap.size]? = some (.cells #[.bool true, .string p.f1] 78 (0, 0)) := by rw [hW2]; exact blk_far hX1 (by show w.heap.size ≠ gs; omega) _
 obtain ⟨hH2, hG2⟩ := Kd.H_seg (Kd.H_below hH hB1) (by omega) (by omega) (seg := [.slice A1' lf.length (c1 - 1)]) (j := 2) (by show 2 + 1 ≤ 5; omega) (by simp [Value.oneCell'])
 have ec : W1.setCells gs ((rest.length : Int).toNat * Pr.frK.sz + 2) [.slice A1' lf.length (c1 - 1)] = W2 := by rw [hW2]; rfl
 rw [ec] at hH2 hG2
 have hBB : Below B w W2 := by rw [hW2]; exact (hB1.mono hB).setCell (p := ⟨gs, rest.length * 5 + 2, none⟩) hgB _
 have same2 : ∀ k, oki k → k < w.heap.size → W2.heap[k]? = w.heap[k]? := fun k hk hlt => by
  rw [hW2]
  exact (Below.heap_setCell W1 _ _ k (hoki k hk).2).trans (hB1.block k hlt)
 have hview3 := Pr.view_at hview2 same2
 have hov3 := Kd.R_step hov same2
 have s3 : W2.cell? ⟨gs, rest.length * 5 + 3, none⟩ = some (.slice A2 out.length c2) := by
  rw [hW2]; exact (World.cell?_setCell_other (w := W1) (a := ⟨gs, rest.length * 5 + 2, none⟩) (b := ⟨gs, rest.length * 5 + 3, none⟩) (v := .slice A1' lf.length (c1 - 1)) (fun h => by injection h with _ h; omega)).trans (pw_cell_below hB1 q3)
 have s4 : W2.cell? ⟨gs, rest.length * 5 + 4, none⟩ = some (.int .i64 need) := by
  rw [hW2]; exact (World.cell?_setCell_other (w := W1) (a := ⟨gs, rest.length * 5 + 2, none⟩) (b := ⟨gs, rest.length * 5 + 4, none⟩) (v := .slice A1' lf.length (c1 - 1)) (fun h => by injection h with _ h; omega)).trans (pw_cell_below hB1 q4)
 have t3 : W2.frozen? ⟨gs, rest.length * 5 + 3, none⟩ = false := by rw [hW2, World.frozen?_setCell]; exact (hB1.frozen hgs).trans (hfr 3)
 have t4 : W2.frozen? ⟨gs, rest.length * 5 + 4, none⟩ = false := by rw [hW2, World.frozen?_setCell]; exact (hB1.frozen hgs).trans (hfr 4)
 have HT := Aside0.mk (And.intro t3 t4)
 have HS := Aside0.mk (And.intro s3 s4)
 clear s3 s4 t3 t4
 have hS2 := Kd.H_back hH2 (x' := ⟨nm, nd, lf, out, need⟩) (Pr.fr_mk _ hview3 hov3) (fun k hk => hk)
 rw [Pr.set_last] at hS2
 have HS2 := Aside0.mk hS2
 clear hS2
 have z0 := (blk_cell hX2 0).trans rfl
 have z1 := (blk_cell hX2 1).trans rfl
 rw [hW2, hW1] at z0 z1
 rw [hW1] at q2a f2a
 have HW2 := Lib.hid hW2
 have HW1 := Lib.hid hW1
 have HX2 := Aside0.mk hX2
 have HH2 := Aside0.mk (Kd.H_widen hH2)
 have HV3 := Aside0.mk hview3
 have HO3 := Aside0.mk (Kd.R_mono hov3 (ok' := fun k => oki k ∨ True ∧ W2.heap.size ≤ k) (fun k hk => .inl hk))
 have HBB := Aside0.mk hBB
 have HSZ := Lib.hid (show w.heap.size ≤ W2.heap.size ∧ B ≤ W2.heap.size ∧ gs < W2.heap.size ∧ B ≤ gs ∧ gs < w.heap.size from by
  have h1 := hBB.size
  have h2 := hG2
  obtain ⟨_, _, _, h3, _⟩ := hG2
  have := hB1.size
  exact ⟨by omega, by omega, by omega, hgB, hgs⟩)
 have HOKI := Lib.hid hoki
 clear hS hM hcc hfr hoki htop hH hF hview hview2 hview3 hov hov3 hB1 hX1 hX2 hH2 hG2 hBB same2 ec hA1 hcl hl1 frame_sz f2 hW2 hW1 hgs hgB
 have hun := Try.underlying64
 have HN := Aside0.mk (hN.step HBB.out hg hmr hmk)
 obtain ⟨nr, Dr, Dk, n1, _⟩ := HN.out
 have x0 : W2.cell? ⟨g, 0, none⟩ = some (.map (some mr)) := (blk_cell n1 0).trans rfl
 have x1 : W2.cell? ⟨g, 1, none⟩ = some (.map (some mk)) := (blk_cell n1 1).trans rfl
 have HGE := Lib.hid (show g < B ∧ mr < B ∧ mk < B ∧ B ≤ w.heap.size from ⟨hg, hmr, hmk, hB⟩)
 clear hN n1 hg hmr hmk
 have HP := Aside0.mk hP
 have hl := Pr.raw_run HN.out p.f1 hkey
 rw [hraw] at hl
 have hl0 := hl 0
 clear hP
 conv => arg 2; whnf
 unfold Pr.frm
 rw [h12, h13, hu0]
 go_wp2_with (fail)
 rw [← HW1.out, ← HW2.out]
 clear q2a f2a q0 q1 q2 q3 q4 y0 y1 z0 hsl
 have z1 := (blk_cell HX2.out 1).trans rfl
 go_quiet (fail)
 go_wp2_with (fail)
 (try simp only [Exit.inBlock, Exit.then, jump_ret])
 (try go_ret2)
 exact HP.out _ (pw_below_drewN HBB.out _)
set_option maxRecDepth 1000000 in
theorem props_Names_Value.loop (u : Nat → Value) (B gs cs g mr mk cnt : Nat) (raw : ByteArray → Option ByteArray) (kn : ByteArray → Option (ByteArray × Int)) (rest : List Pr.Fr) (nm : ByteArray) (nd : Bool) (p : S78) (lf : List S78) (out : List ByteArray) (need : Int) (deep : Int) (w : World) (J : Act → World → Prop) (POST : Ending → World → Prop)
 (h13 : u 13 = .int .i64 deep) (hdeep0 : 0 ≤ deep) (hdeep1 : deep ≤ 1) (hu0 : u 0 = .pointer (some ⟨g, 0, none⟩)) (h12 : u 12 = .slice (some ⟨gs, 0, none⟩) (rest.length + 1) cs) (hS : Kd.S Pr.frK 71 w B (fun _ => True) (.slice (some ⟨gs, 0, none⟩) (rest.length + 1) cs) (rest.reverse ++ [⟨nm, nd, p :: lf, out, need⟩]))
 (hN : Pr.NAt w g mr mk raw cnt kn) (hkey : p.f1.size ≤ maxLen) (hg : g < B) (hmr : mr < B) (hmk : mk < B)
 (hlen : rest.length ≤ 20) (hp : p.f0 = true) (hB : B ≤ w.heap.size) (hlf : lf.length ≤ 1000000000000) (x : ByteArray) (hraw : raw p.f1 = some x) (hG : Glob w) (hhit : (rest.reverse ++ [(⟨nm, nd, lf, out, need⟩ : Pr.Fr)]).any (Pr.hit p.f1) = true)
 (hP : ∀ w' : World, Below B w w' → POST (.returned (.tuple #[.string ⟨#[]⟩, .int .i64 18])) w') :
 Code.wp Try.prog Pr.rest (Exit.jump 0 J (bodyPost Try.prog Try.f25 POST)) (Pr.frm u) w := by
 have hu := Try.underlying71
 have hup := Try.underlying78
 have htop : (rest.reverse ++ [(⟨nm, nd, p :: lf, out, need⟩ : Pr.Fr)]).getD (rest.length : Int).toNat Pr.zfr = ⟨nm, nd, p :: lf, out, need⟩ := by
  rw [Int.toNat_natCast, List.getD_eq_getElem?_getD, List.getElem?_append_right (by simp)]; simp
 obtain ⟨oki, cc, hcl, hM, hcc, hfr, hoki, hH⟩ := Kd.S_elem hS Pr.zfr (rest.length : Int) (by omega) (by omega)
 rw [htop] at hM
 obtain ⟨lv, ov, rfl, hlv, hov⟩ := Pr.fr_M hM
 have hgs := Kd.S_lt hS gs (by simp [Value.ownBlock])
 have hgB := Kd.S_base hS gs (by simp [Value.ownBlock])
 obtain ⟨A1, c1, e1, hl1, hF⟩ := hlv
 obtain rfl := (List.cons.inj e1).1
 obtain ⟨A2, c2, rfl⟩ := Kd.R_slice hov
 obtain ⟨ad, e_, y0, y1⟩ := at_T78 (Kd.F_now hF) 0 (by omega) (by simp)
 cases e_
 have e0 : ad.add (Int.toNat 0 * 2) = ad := by simp [Addr.add]
 have e1_ : rd_T78 (p :: lf) 0 = p := rfl
 rw [e0, e1_] at y0 y1
 rw [hp] at y0
 clear e0 e1_ hp e1
 simp only [Int.toNat_natCast] at hcc hfr
 obtain ⟨A1', hA1, hsl⟩ := Pr.slice_ok (some ad) lf.length c1 hl1
 have hview := view_cut (m := 1) hl1 hF (by simp)
 have hview2 : (viewK 78 k78).M w B oki lf [.slice A1' lf.length (c1 - 1)] := by rw [hA1]; exact hview
 have frame_sz : Pr.frK.sz = 5 := rfl
 rw [frame_sz] at hcc hfr
 have q0 : w.cell? ⟨gs, rest.length * 5, none⟩ = some (.string nm) := hcc 0 _ rfl
 have q1 : w.cell? ⟨gs, rest.length * 5 + 1, none⟩ = some (.bool nd) := hcc 1 _ rfl
 have q2 : w.cell? ⟨gs, rest.length * 5 + 2, none⟩ = some (.slice (some ad) (lf.length + 1) c1) := hcc 2 _ rfl
 have q3 : w.cell? ⟨gs, rest.length * 5 + 3, none⟩ = some (.slice A2 out.length c2) := hcc 3 _ rfl
 have q4 : w.cell? ⟨gs, rest.length * 5 + 4, none⟩ = some (.int .i64 need) := hcc 4 _ rfl
 have f2 := hfr 2
 have ew : wrap64 (((rest.length + 1 : Nat) : Int) - 1) = (rest.length : Int) := by unfold wrap64; omega
 have ew' : wrap64 ((rest.length : Int) + 1 - 1) = (rest.length : Int) := by unfold wrap64; omega
 have p1 := eq_true (show (0 : Int) ≤ (rest.length : Int) by omega)
 have p2 := eq_true (show (rest.length : Int) < ((rest.length + 1 : Nat) : Int) by omega)
 have p3 := eq_true (show rest.length < rest.length + 1 by omega)
 have b0 : (((lf.length + 1 : Nat) : Int) == 0) = false := beq_eq_false_iff_ne.mpr (by omega)
 have b0' : ((lf.length + 1) == 0) = false := beq_eq_false_iff_ne.mpr (by omega)
 have b0'' : ((lf.length : Int) + 1 == 0) = false := beq_eq_false_iff_ne.mpr (by omega)
 obtain ⟨W1, hW1⟩ : ∃ W1, W1 = w.alloc (.cells #[.bool true, .string p.f1] 78) := ⟨_, rfl⟩
 have hB1 : Below w.heap.size w W1 := by rw [hW1]; exact below_alloc (Below.refl _ _) _
 have hX1 : W1.heap[w.heap.size]? = some (.cells #[.bool true, .string p.f1] 78 (0, 0)) := by rw [hW1]; exact heap_alloc_new w _
 have q2a := pw_cell_below hB1 q2
 have f2a : W1.frozen? ⟨gs, rest.length * 5 + 2, none⟩ = false := (hB1.frozen hgs).trans f2
 obtain ⟨W2, hW2⟩ : ∃ W2, W2 = W1.setCell ⟨gs, rest.length * 5 + 2, none⟩ (.slice A1' lf.length (c1 - 1)) := ⟨_, rfl⟩
 have hX2 : W2.heap[w.heap.size]? = some (.cells #[.bool true, .string p.f1] 78 (0, 0)) := by rw [hW2]; exact blk_far hX1 (by show w.heap.size ≠ gs; omega) _
 obtain ⟨hH2, hG2⟩ := Kd.H_seg (Kd.H_below hH hB1) (by omega) (by omega) (seg := [.slice A1' lf.length (c1 - 1)]) (j := 2) (by show 2 + 1 ≤ 5; omega) (by simp [Value.oneCell'])
 have ec : W1.setCells gs ((rest.length : Int).toNat * Pr.frK.sz + 2) [.slice A1' lf.length (c1 - 1)] = W2 := by rw [hW2]; rfl
 rw [ec] at hH2 hG2
 have hBB : Below B w W2 := by rw [hW2]; exact (hB1.mono hB).setCell (p := ⟨gs, rest.length * 5 + 2, none⟩) hgB _
 have same2 : ∀ k, oki k → k < w.heap.size → W2.heap[k]? = w.heap[k]? := fun k hk hlt => by
  rw [hW2]
  exact (Below.heap_setCell W1 _ _ k (hoki k hk).2).trans (hB1.block k hlt)
 have hview3 := Pr.view_at hview2 same2
 have hov3 := Kd.R_step hov same2
 have s3 : W2.cell? ⟨gs, rest.length * 5 + 3, none⟩ = some (.slice A2 out.length c2) := by
  rw [hW2]; exact (World.cell?_setCell_other (w := W1) (a := ⟨gs, rest.length * 5 + 2, none⟩) (b := ⟨gs, rest.length * 5 + 3, none⟩) (v := .slice A1' lf.length (c1 - 1)) (fun h => by injection h with _ h; omega)).trans (pw_cell_below hB1 q3)
 have s4 : W2.cell? ⟨gs, rest.length * 5 + 4, none⟩ = some (.int .i64 need) := by
  rw [hW2]; exact (World.cell?_setCell_other (w := W1) (a := ⟨gs, rest.length * 5 + 2, none⟩) (b := ⟨gs, rest.length * 5 + 4, none⟩) (v := .slice A1' lf.length (c1 - 1)) (fun h => by injection h with _ h; omega)).trans (pw_cell_below hB1 q4)
 have t3 : W2.frozen? ⟨gs, rest.length * 5 + 3, none⟩ = false := by rw [hW2, World.frozen?_setCell]; exact (hB1.frozen hgs).trans (hfr 3)
 have t4 : W2.frozen? ⟨gs, rest.length * 5 + 4, none⟩ = false := by rw [hW2, World.frozen?_setCell]; exact (hB1.frozen hgs).trans (hfr 4)
 have HT := Aside0.mk (And.intro t3 t4)
 have HS := Aside0.mk (And.intro s3 s4)
 clear s3 s4 t3 t4
 have hS2 := Kd.H_back hH2 (x' := ⟨nm, nd, lf, out, need⟩) (Pr.fr_mk _ hview3 hov3) (fun k hk => hk)
 rw [Pr.set_last] at hS2
 have HS2 := Aside0.mk hS2
 clear hS2
 have z0 := (blk_cell hX2 0).trans rfl
 have z1 := (blk_cell hX2 1).trans rfl
 rw [hW2, hW1] at z0 z1
 rw [hW1] at q2a f2a
 have HW2 := Lib.hid hW2
 have HW1 := Lib.hid hW1
 have HX2 := Aside0.mk hX2
 have HH2 := Aside0.mk (Kd.H_widen hH2)
 have HV3 := Aside0.mk hview3
 have HO3 := Aside0.mk (Kd.R_mono hov3 (ok' := fun k => oki k ∨ True ∧ W2.heap.size ≤ k) (fun k hk => .inl hk))
 have HBB := Aside0.mk hBB
 have HSZ := Lib.hid (show w.heap.size ≤ W2.heap.size ∧ B ≤ W2.heap.size ∧ gs < W2.heap.size ∧ B ≤ gs ∧ gs < w.heap.size from by
  have h1 := hBB.size
  have h2 := hG2
  obtain ⟨_, _, _, h3, _⟩ := hG2
  have := hB1.size
  exact ⟨by omega, by omega, by omega, hgB, hgs⟩)
 have HOKI := Lib.hid hoki
 clear hS hM hcc hfr hoki htop hH hF hview hview2 hview3 hov hov3 hB1 hX1 hX2 hH2 hG2 hBB same2 ec hA1 hcl hl1 frame_sz f2 hW2 hW1 hgs hgB
 have hun := Try.underlying64
 have HN := Aside0.mk (hN.step HBB.out hg hmr hmk)
 obtain ⟨nr, Dr, Dk, n1, _⟩ := HN.out
 have x0 : W2.cell? ⟨g, 0, none⟩ = some (.map (some mr)) := (blk_cell n1 0).trans rfl
 have x1 : W2.cell? ⟨g, 1, none⟩ = some (.map (some mk)) := (blk_cell n1 1).trans rfl
 have HGE := Lib.hid (show g < B ∧ mr < B ∧ mk < B ∧ B ≤ w.heap.size from ⟨hg, hmr, hmk, hB⟩)
 clear hN n1 hg hmr hmk
 have HP := Aside0.mk hP
 have hl := Pr.raw_run HN.out p.f1 hkey
 rw [hraw] at hl
 have hl0 := hl 0
 clear hP
 conv => arg 2; whnf
 unfold Pr.frm
 rw [h12, h13, hu0]
 go_wp2_with (fail)
 rw [← HW1.out, ← HW2.out]
 clear q2a f2a q0 q1 q2 q3 q4 y0 y1 z0 hsl
 have z1 := (blk_cell HX2.out 1).trans rfl
 go_quiet (fail)
 have CF := Aside0.mk (fun n => props_frame.calls (some ⟨gs, 0, none⟩) cs (rest.reverse ++ [(⟨nm, nd, lf, out, need⟩ : Pr.Fr)]) p.f1 w.heap.size (W2.drewN n) (Kd.S_reads' (Kd.S_drewN HS2.out n)).2.2 (by rw [List.length_append, List.length_reverse, List.length_singleton]; omega) ((blk_cell (blk_drewN HX2.out n) 1).trans rfl))
 have hll : (rest.reverse ++ [(⟨nm, nd, lf, out, need⟩ : Pr.Fr)]).length = rest.length + 1 := by simp
 rw [hll, hhit] at CF
 clear hll hhit
 go_wp2_with (first | (go_at_call 38; (with_reducible refine (CF.out _).mono ?_); rintro e w4 ⟨rfl, hb4⟩; have HB4 := Aside0.mk (below_step (pw_below_drewN (Below.refl W2.heap.size W2) _) hb4); clear hb4))
 (try simp only [Exit.inBlock, Exit.then, jump_ret])
 (try go_ret2)
 exact HP.out _ (HBB.out.trans (HB4.out.mono HSZ.out.2.1))
set_option maxRecDepth 1000000 in
theorem props_Names_Value.deep (u : Nat → Value) (B gs cs g mr mk cnt : Nat) (raw : ByteArray → Option ByteArray) (kn : ByteArray → Option (ByteArray × Int)) (rest : List Pr.Fr) (nm : ByteArray) (nd : Bool) (p : S78) (lf : List S78) (out : List ByteArray) (need : Int) (deep : Int) (w : World) (J : Act → World → Prop) (POST : Ending → World → Prop)
 (h13 : u 13 = .int .i64 deep) (hdeep0 : 0 ≤ deep) (hdeep1 : deep ≤ 1) (hu0 : u 0 = .pointer (some ⟨g, 0, none⟩)) (h12 : u 12 = .slice (some ⟨gs, 0, none⟩) (rest.length + 1) cs) (hS : Kd.S Pr.frK 71 w B (fun _ => True) (.slice (some ⟨gs, 0, none⟩) (rest.length + 1) cs) (rest.reverse ++ [⟨nm, nd, p :: lf, out, need⟩]))
 (hN : Pr.NAt w g mr mk raw cnt kn) (hkey : p.f1.size ≤ maxLen) (hg : g < B) (hmr : mr < B) (hmk : mk < B)
 (hlen : rest.length ≤ 20) (hp : p.f0 = true) (hB : B ≤ w.heap.size) (hlf : lf.length ≤ 1000000000000) (x : ByteArray) (hraw : raw p.f1 = some x) (hG : Glob w) (hhit : (rest.reverse ++ [(⟨nm, nd, lf, out, need⟩ : Pr.Fr)]).any (Pr.hit p.f1) = false) (hat : 20 ≤ deep + (rest.length : Int))
 (hP : ∀ w' : World, Below B w w' → POST (.returned (.tuple #[.string ⟨#[]⟩, .int .i64 7])) w') :
 Code.wp Try.prog Pr.rest (Exit.jump 0 J (bodyPost Try.prog Try.f25 POST)) (Pr.frm u) w := by
 have hu := Try.underlying71
 have hup := Try.underlying78
 have htop : (rest.reverse ++ [(⟨nm, nd, p :: lf, out, need⟩ : Pr.Fr)]).getD (rest.length : Int).toNat Pr.zfr = ⟨nm, nd, p :: lf, out, need⟩ := by
  rw [Int.toNat_natCast, List.getD_eq_getElem?_getD, List.getElem?_append_right (by simp)]; simp
 obtain ⟨oki, cc, hcl, hM, hcc, hfr, hoki, hH⟩ := Kd.S_elem hS Pr.zfr (rest.length : Int) (by omega) (by omega)
 rw [htop] at hM
 obtain ⟨lv, ov, rfl, hlv, hov⟩ := Pr.fr_M hM
 have hgs := Kd.S_lt hS gs (by simp [Value.ownBlock])
 have hgB := Kd.S_base hS gs (by simp [Value.ownBlock])
 obtain ⟨A1, c1, e1, hl1, hF⟩ := hlv
 obtain rfl := (List.cons.inj e1).1
 obtain ⟨A2, c2, rfl⟩ := Kd.R_slice hov
 obtain ⟨ad, e_, y0, y1⟩ := at_T78 (Kd.F_now hF) 0 (by omega) (by simp)
 cases e_
 have e0 : ad.add (Int.toNat 0 * 2) = ad := by simp [Addr.add]
 have e1_ : rd_T78 (p :: lf) 0 = p := rfl
 rw [e0, e1_] at y0 y1
 rw [hp] at y0
 clear e0 e1_ hp e1
 simp only [Int.toNat_natCast] at hcc hfr
 obtain ⟨A1', hA1, hsl⟩ := Pr.slice_ok (some ad) lf.length c1 hl1
 have hview := view_cut (m := 1) hl1 hF (by simp)
 have hview2 : (viewK 78 k78).M w B oki lf [.slice A1' lf.length (c1 - 1)] := by rw [hA1]; exact hview
 have frame_sz : Pr.frK.sz = 5 := rfl
 rw [frame_sz] at hcc hfr
 have q0 : w.cell? ⟨gs, rest.length * 5, none⟩ = some (.string nm) := hcc 0 _ rfl
 have q1 : w.cell? ⟨gs, rest.length * 5 + 1, none⟩ = some (.bool nd) := hcc 1 _ rfl
 have q2 : w.cell? ⟨gs, rest.length * 5 + 2, none⟩ = some (.slice (some ad) (lf.length + 1) c1) := hcc 2 _ rfl
 have q3 : w.cell? ⟨gs, rest.length * 5 + 3, none⟩ = some (.slice A2 out.length c2) := hcc 3 _ rfl
 have q4 : w.cell? ⟨gs, rest.length * 5 + 4, none⟩ = some (.int .i64 need) := hcc 4 _ rfl
 have f2 := hfr 2
 have ew : wrap64 (((rest.length + 1 : Nat) : Int) - 1) = (rest.length : Int) := by unfold wrap64; omega
 have ew' : wrap64 ((rest.length : Int) + 1 - 1) = (rest.length : Int) := by unfold wrap64; omega
 have p1 := eq_true (show (0 : Int) ≤ (rest.length : Int) by omega)
 have p2 := eq_true (show (rest.length : Int) < ((rest.length + 1 : Nat) : Int) by omega)
 have p3 := eq_true (show rest.length < rest.length + 1 by omega)
 have b0 : (((lf.length + 1 : Nat) : Int) == 0) = false := beq_eq_false_iff_ne.mpr (by omega)
 have b0' : ((lf.length + 1) == 0) = false := beq_eq_false_iff_ne.mpr (by omega)
 have b0'' : ((lf.length : Int) + 1 == 0) = false := beq_eq_false_iff_ne.mpr (by omega)
 obtain ⟨W1, hW1⟩ : ∃ W1, W1 = w.alloc (.cells #[.bool true, .string p.f1] 78) := ⟨_, rfl⟩
 have hB1 : Below w.heap.size w W1 := by rw [hW1]; exact below_alloc (Below.refl _ _) _
 have hX1 : W1.heap[w.heap.size]? = some (.cells #[.bool true, .string p.f1] 78 (0, 0)) := by rw [hW1]; exact heap_alloc_new w _
 have q2a := pw_cell_below hB1 q2
 have f2a : W1.frozen? ⟨gs, rest.length * 5 + 2, none⟩ = false := (hB1.frozen hgs).trans f2
 obtain ⟨W2, hW2⟩ : ∃ W2, W2 = W1.setCell ⟨gs, rest.length * 5 + 2, none⟩ (.slice A1' lf.length (c1 - 1)) := ⟨_, rfl⟩
 have hX2 : W2.heap[w.heap.size]? = some (.cells #[.bool true, .string p.f1] 78 (0, 0)) := by rw [hW2]; exact blk_far hX1 (by show w.heap.size ≠ gs; omega) _
 obtain ⟨hH2, hG2⟩ := Kd.H_seg (Kd.H_below hH hB1) (by omega) (by omega) (seg := [.slice A1' lf.length (c1 - 1)]) (j := 2) (by show 2 + 1 ≤ 5; omega) (by simp [Value.oneCell'])
 have ec : W1.setCells gs ((rest.length : Int).toNat * Pr.frK.sz + 2) [.slice A1' lf.length (c1 - 1)] = W2 := by rw [hW2]; rfl
 rw [ec] at hH2 hG2
 have hBB : Below B w W2 := by rw [hW2]; exact (hB1.mono hB).setCell (p := ⟨gs, rest.length * 5 + 2, none⟩) hgB _
 have same2 : ∀ k, oki k → k < w.heap.size → W2.heap[k]? = w.heap[k]? := fun k hk hlt => by
  rw [hW2]
  exact (Below.heap_setCell W1 _ _ k (hoki k hk).2).trans (hB1.block k hlt)
 have hview3 := Pr.view_at hview2 same2
 have hov3 := Kd.R_step hov same2
 have s3 : W2.cell? ⟨gs, rest.length * 5 + 3, none⟩ = some (.slice A2 out.length c2) := by
  rw [hW2]; exact (World.cell?_setCell_other (w := W1) (a := ⟨gs, rest.length * 5 + 2, none⟩) (b := ⟨gs, rest.length * 5 + 3, none⟩) (v := .slice A1' lf.length (c1 - 1)) (fun h => by injection h with _ h; omega)).trans (pw_cell_below hB1 q3)
 have s4 : W2.cell? ⟨gs, rest.length * 5 + 4, none⟩ = some (.int .i64 need) := by
  rw [hW2]; exact (World.cell?_setCell_other (w := W1) (a := ⟨gs, rest.length * 5 + 2, none⟩) (b := ⟨gs, rest.length * 5 + 4, none⟩) (v := .slice A1' lf.length (c1 - 1)) (fun h => by injection h with _ h; omega)).trans (pw_cell_below hB1 q4)
 have t3 : W2.frozen? ⟨gs, rest.length * 5 + 3, none⟩ = false := by rw [hW2, World.frozen?_setCell]; exact (hB1.frozen hgs).trans (hfr 3)
 have t4 : W2.frozen? ⟨gs, rest.length * 5 + 4, none⟩ = false := by rw [hW2, World.frozen?_setCell]; exact (hB1.frozen hgs).trans (hfr 4)
 have HT := Aside0.mk (And.intro t3 t4)
 have HS := Aside0.mk (And.intro s3 s4)
 clear s3 s4 t3 t4
 have hS2 := Kd.H_back hH2 (x' := ⟨nm, nd, lf, out, need⟩) (Pr.fr_mk _ hview3 hov3) (fun k hk => hk)
 rw [Pr.set_last] at hS2
 have HS2 := Aside0.mk hS2
 clear hS2
 have z0 := (blk_cell hX2 0).trans rfl
 have z1 := (blk_cell hX2 1).trans rfl
 rw [hW2, hW1] at z0 z1
 rw [hW1] at q2a f2a
 have HW2 := Lib.hid hW2
 have HW1 := Lib.hid hW1
 have HX2 := Aside0.mk hX2
 have HH2 := Aside0.mk (Kd.H_widen hH2)
 have HV3 := Aside0.mk hview3
 have HO3 := Aside0.mk (Kd.R_mono hov3 (ok' := fun k => oki k ∨ True ∧ W2.heap.size ≤ k) (fun k hk => .inl hk))
 have HBB := Aside0.mk hBB
 have HSZ := Lib.hid (show w.heap.size ≤ W2.heap.size ∧ B ≤ W2.heap.size ∧ gs < W2.heap.size ∧ B ≤ gs ∧ gs < w.heap.size from by
  have h1 := hBB.size
  have h2 := hG2
  obtain ⟨_, _, _, h3, _⟩ := hG2
  have := hB1.size
  exact ⟨by omega, by omega, by omega, hgB, hgs⟩)
 have HOKI := Lib.hid hoki
 clear hS hM hcc hfr hoki htop hH hF hview hview2 hview3 hov hov3 hB1 hX1 hX2 hH2 hG2 hBB same2 ec hA1 hcl hl1 frame_sz f2 hW2 hW1 hgs hgB
 have hun := Try.underlying64
 have HN := Aside0.mk (hN.step HBB.out hg hmr hmk)
 obtain ⟨nr, Dr, Dk, n1, _⟩ := HN.out
 have x0 : W2.cell? ⟨g, 0, none⟩ = some (.map (some mr)) := (blk_cell n1 0).trans rfl
 have x1 : W2.cell? ⟨g, 1, none⟩ = some (.map (some mk)) := (blk_cell n1 1).trans rfl
 have HGE := Lib.hid (show g < B ∧ mr < B ∧ mk < B ∧ B ≤ w.heap.size from ⟨hg, hmr, hmk, hB⟩)
 clear hN n1 hg hmr hmk
 have HP := Aside0.mk hP
 have hl := Pr.raw_run HN.out p.f1 hkey
 rw [hraw] at hl
 have hl0 := hl 0
 clear hP
 conv => arg 2; whnf
 unfold Pr.frm
 rw [h12, h13, hu0]
 go_wp2_with (fail)
 rw [← HW1.out, ← HW2.out]
 clear q2a f2a q0 q1 q2 q3 q4 y0 y1 z0 hsl
 have z1 := (blk_cell HX2.out 1).trans rfl
 go_quiet (fail)
 have CF := Aside0.mk (fun n => props_frame.calls (some ⟨gs, 0, none⟩) cs (rest.reverse ++ [(⟨nm, nd, lf, out, need⟩ : Pr.Fr)]) p.f1 w.heap.size (W2.drewN n) (Kd.S_reads' (Kd.S_drewN HS2.out n)).2.2 (by rw [List.length_append, List.length_reverse, List.length_singleton]; omega) ((blk_cell (blk_drewN HX2.out n) 1).trans rfl))
 have hll : (rest.reverse ++ [(⟨nm, nd, lf, out, need⟩ : Pr.Fr)]).length = rest.length + 1 := by simp
 rw [hll, hhit] at CF
 clear hll hhit
 go_wp2_with (first | (go_at_call 38; (with_reducible refine (CF.out _).mono ?_); rintro e w4 ⟨rfl, hb4⟩; have HB4 := Aside0.mk (below_step (pw_below_drewN (Below.refl W2.heap.size W2) _) hb4); clear hb4))
 (try simp only [Exit.inBlock, Exit.then, jump_ret])
 (try go_ret2)
 exact HP.out _ (HBB.out.trans (HB4.out.mono HSZ.out.2.1))
set_option maxRecDepth 1000000 in
theorem props_Names_Value.kdeep (u : Nat → Value) (B gs cs g mr mk cnt : Nat) (raw : ByteArray → Option ByteArray) (kn : ByteArray → Option (ByteArray × Int)) (rest : List Pr.Fr) (nm : ByteArray) (nd : Bool) (p : S78) (lf : List S78) (out : List ByteArray) (need : Int) (deep : Int) (w : World) (J : Act → World → Prop) (POST : Ending → World → Prop)
 (h13 : u 13 = .int .i64 deep) (hdeep0 : 0 ≤ deep) (hdeep1 : deep ≤ 1) (hu0 : u 0 = .pointer (some ⟨g, 0, none⟩)) (h12 : u 12 = .slice (some ⟨gs, 0, none⟩) (rest.length + 1) cs) (hS : Kd.S Pr.frK 71 w B (fun _ => True) (.slice (some ⟨gs, 0, none⟩) (rest.length + 1) cs) (rest.reverse ++ [⟨nm, nd, p :: lf, out, need⟩]))
 (hN : Pr.NAt w g mr mk raw cnt kn) (hkey : p.f1.size ≤ maxLen) (hg : g < B) (hmr : mr < B) (hmk : mk < B)
 (hlen : rest.length ≤ 20) (hp : p.f0 = true) (hB : B ≤ w.heap.size) (hlf : lf.length ≤ 1000000000000) (x : ByteArray) (hraw : raw p.f1 = some x) (hG : Glob w) (hhit : (rest.reverse ++ [(⟨nm, nd, lf, out, need⟩ : Pr.Fr)]).any (Pr.hit p.f1) = false) (hat : deep + (rest.length : Int) < 20) (q : ByteArray × Int) (hkn : kn p.f1 = some q) (hq0 : -1000000 ≤ q.2) (hq1 : q.2 ≤ 1000000) (hat2 : 20 < deep + (rest.length : Int) + 1 + q.2)
 (hP : ∀ w' : World, Below B w w' → POST (.returned (.tuple #[.string ⟨#[]⟩, .int .i64 7])) w') :
 Code.wp Try.prog Pr.rest (Exit.jump 0 J (bodyPost Try.prog Try.f25 POST)) (Pr.frm u) w := by
 have hu := Try.underlying71
 have hup := Try.underlying78
 have htop : (rest.reverse ++ [(⟨nm, nd, p :: lf, out, need⟩ : Pr.Fr)]).getD (rest.length : Int).toNat Pr.zfr = ⟨nm, nd, p :: lf, out, need⟩ := by
  rw [Int.toNat_natCast, List.getD_eq_getElem?_getD, List.getElem?_append_right (by simp)]; simp
 obtain ⟨oki, cc, hcl, hM, hcc, hfr, hoki, hH⟩ := Kd.S_elem hS Pr.zfr (rest.length : Int) (by omega) (by omega)
 rw [htop] at hM
 obtain ⟨lv, ov, rfl, hlv, hov⟩ := Pr.fr_M hM
 have hgs := Kd.S_lt hS gs (by simp [Value.ownBlock])
 have hgB := Kd.S_base hS gs (by simp [Value.ownBlock])
 obtain ⟨A1, c1, e1, hl1, hF⟩ := hlv
 obtain rfl := (List.cons.inj e1).1
 obtain ⟨A2, c2, rfl⟩ := Kd.R_slice hov
 obtain ⟨ad, e_, y0, y1⟩ := at_T78 (Kd.F_now hF) 0 (by omega) (by simp)
 cases e_
 have e0 : ad.add (Int.toNat 0 * 2) = ad := by simp [Addr.add]
 have e1_ : rd_T78 (p :: lf) 0 = p := rfl
 rw [e0, e1_] at y0 y1
 rw [hp] at y0
 clear e0 e1_ hp e1
 simp only [Int.toNat_natCast] at hcc hfr
 obtain ⟨A1', hA1, hsl⟩ := Pr.slice_ok (some ad) lf.length c1 hl1
 have hview := view_cut (m := 1) hl1 hF (by simp)
 have hview2 : (viewK 78 k78).M w B oki lf [.slice A1' lf.length (c1 - 1)] := by rw [hA1]; exact hview
 have frame_sz : Pr.frK.sz = 5 := rfl
 rw [frame_sz] at hcc hfr
 have q0 : w.cell? ⟨gs, rest.length * 5, none⟩ = some (.string nm) := hcc 0 _ rfl
 have q1 : w.cell? ⟨gs, rest.length * 5 + 1, none⟩ = some (.bool nd) := hcc 1 _ rfl
 have q2 : w.cell? ⟨gs, rest.length * 5 + 2, none⟩ = some (.slice (some ad) (lf.length + 1) c1) := hcc 2 _ rfl
 have q3 : w.cell? ⟨gs, rest.length * 5 + 3, none⟩ = some (.slice A2 out.length c2) := hcc 3 _ rfl
 have q4 : w.cell? ⟨gs, rest.length * 5 + 4, none⟩ = some (.int .i64 need) := hcc 4 _ rfl
 have f2 := hfr 2
 have ew : wrap64 (((rest.length + 1 : Nat) : Int) - 1) = (rest.length : Int) := by unfold wrap64; omega
 have ew' : wrap64 ((rest.length : Int) + 1 - 1) = (rest.length : Int) := by unfold wrap64; omega
 have p1 := eq_true (show (0 : Int) ≤ (rest.length : Int) by omega)
 have p2 := eq_true (show (rest.length : Int) < ((rest.length + 1 : Nat) : Int) by omega)
 have p3 := eq_true (show rest.length < rest.length + 1 by omega)
 have b0 : (((lf.length + 1 : Nat) : Int) == 0) = false := beq_eq_false_iff_ne.mpr (by omega)
 have b0' : ((lf.length + 1) == 0) = false := beq_eq_false_iff_ne.mpr (by omega)
 have b0'' : ((lf.length : Int) + 1 == 0) = false := beq_eq_false_iff_ne.mpr (by omega)
 obtain ⟨W1, hW1⟩ : ∃ W1, W1 = w.alloc (.cells #[.bool true, .string p.f1] 78) := ⟨_, rfl⟩
 have hB1 : Below w.heap.size w W1 := by rw [hW1]; exact below_alloc (Below.refl _ _) _
 have hX1 : W1.heap[w.heap.size]? = some (.cells #[.bool true, .string p.f1] 78 (0, 0)) := by rw [hW1]; exact heap_alloc_new w _
 have q2a := pw_cell_below hB1 q2
 have f2a : W1.frozen? ⟨gs, rest.length * 5 + 2, none⟩ = false := (hB1.frozen hgs).trans f2
 obtain ⟨W2, hW2⟩ : ∃ W2, W2 = W1.setCell ⟨gs, rest.length * 5 + 2, none⟩ (.slice A1' lf.length (c1 - 1)) := ⟨_, rfl⟩
 have hX2 : W2.heap[w.heap.size]? = some (.cells #[.bool true, .string p.f1] 78 (0, 0)) := by rw [hW2]; exact blk_far hX1 (by show w.heap.size ≠ gs; omega) _
 obtain ⟨hH2, hG2⟩ := Kd.H_seg (Kd.H_below hH hB1) (by omega) (by omega) (seg := [.slice A1' lf.length (c1 - 1)]) (j := 2) (by show 2 + 1 ≤ 5; omega) (by simp [Value.oneCell'])
 have ec : W1.setCells gs ((rest.length : Int).toNat * Pr.frK.sz + 2) [.slice A1' lf.length (c1 - 1)] = W2 := by rw [hW2]; rfl
 rw [ec] at hH2 hG2
 have hBB : Below B w W2 := by rw [hW2]; exact (hB1.mono hB).setCell (p := ⟨gs, rest.length * 5 + 2, none⟩) hgB _
 have same2 : ∀ k, oki k → k < w.heap.size → W2.heap[k]? = w.heap[k]? := fun k hk hlt => by
  rw [hW2]
  exact (Below.heap_setCell W1 _ _ k (hoki k hk).2).trans (hB1.block k hlt)
 have hview3 := Pr.view_at hview2 same2
 have hov3 := Kd.R_step hov same2
 have s3 : W2.cell? ⟨gs, rest.length * 5 + 3, none⟩ = some (.slice A2 out.length c2) := by
  rw [hW2]; exact (World.cell?_setCell_other (w := W1) (a := ⟨gs, rest.length * 5 + 2, none⟩) (b := ⟨gs, rest.length * 5 + 3, none⟩) (v := .slice A1' lf.length (c1 - 1)) (fun h => by injection h with _ h; omega)).trans (pw_cell_below hB1 q3)
 have s4 : W2.cell? ⟨gs, rest.length * 5 + 4, none⟩ = some (.int .i64 need) := by
  rw [hW2]; exact (World.cell?_setCell_other (w := W1) (a := ⟨gs, rest.length * 5 + 2, none⟩) (b := ⟨gs, rest.length * 5 + 4, none⟩) (v := .slice A1' lf.length (c1 - 1)) (fun h => by injection h with _ h; omega)).trans (pw_cell_below hB1 q4)
 have t3 : W2.frozen? ⟨gs, rest.length * 5 + 3, none⟩ = false := by rw [hW2, World.frozen?_setCell]; exact (hB1.frozen hgs).trans (hfr 3)
 have t4 : W2.frozen? ⟨gs, rest.length * 5 + 4, none⟩ = false := by rw [hW2, World.frozen?_setCell]; exact (hB1.frozen hgs).trans (hfr 4)
 have HT := Aside0.mk (And.intro t3 t4)
 have HS := Aside0.mk (And.intro s3 s4)
 clear s3 s4 t3 t4
 have hS2 := Kd.H_back hH2 (x' := ⟨nm, nd, lf, out, need⟩) (Pr.fr_mk _ hview3 hov3) (fun k hk => hk)
 rw [Pr.set_last] at hS2
 have HS2 := Aside0.mk hS2
 clear hS2
 have z0 := (blk_cell hX2 0).trans rfl
 have z1 := (blk_cell hX2 1).trans rfl
 rw [hW2, hW1] at z0 z1
 rw [hW1] at q2a f2a
 have HW2 := Lib.hid hW2
 have HW1 := Lib.hid hW1
 have HX2 := Aside0.mk hX2
 have HH2 := Aside0.mk (Kd.H_widen hH2)
 have HV3 := Aside0.mk hview3
 have HO3 := Aside0.mk (Kd.R_mono hov3 (ok' := fun k => oki k ∨ True ∧ W2.heap.size ≤ k) (fun k hk => .inl hk))
 have HBB := Aside0.mk hBB
 have HSZ := Lib.hid (show w.heap.size ≤ W2.heap.size ∧ B ≤ W2.heap.size ∧ gs < W2.heap.size ∧ B ≤ gs ∧ gs < w.heap.size from by
  have h1 := hBB.size
  have h2 := hG2
  obtain ⟨_, _, _, h3, _⟩ := hG2
  have := hB1.size
  exact ⟨by omega, by omega, by omega, hgB, hgs⟩)
 have HOKI := Lib.hid hoki
 clear hS hM hcc hfr hoki htop hH hF hview hview2 hview3 hov hov3 hB1 hX1 hX2 hH2 hG2 hBB same2 ec hA1 hcl hl1 frame_sz f2 hW2 hW1 hgs hgB
 have hun := Try.underlying64
 have HN := Aside0.mk (hN.step HBB.out hg hmr hmk)
 obtain ⟨nr, Dr, Dk, n1, _⟩ := HN.out
 have x0 : W2.cell? ⟨g, 0, none⟩ = some (.map (some mr)) := (blk_cell n1 0).trans rfl
 have x1 : W2.cell? ⟨g, 1, none⟩ = some (.map (some mk)) := (blk_cell n1 1).trans rfl
 have HGE := Lib.hid (show g < B ∧ mr < B ∧ mk < B ∧ B ≤ w.heap.size from ⟨hg, hmr, hmk, hB⟩)
 clear hN n1 hg hmr hmk
 have HP := Aside0.mk hP
 have hl := Pr.raw_run HN.out p.f1 hkey
 rw [hraw] at hl
 have hl0 := hl 0
 clear hP
 conv => arg 2; whnf
 unfold Pr.frm
 rw [h12, h13, hu0]
 go_wp2_with (fail)
 rw [← HW1.out, ← HW2.out]
 clear q2a f2a q0 q1 q2 q3 q4 y0 y1 z0 hsl
 have z1 := (blk_cell HX2.out 1).trans rfl
 go_quiet (fail)
 have CF := Aside0.mk (fun n => props_frame.calls (some ⟨gs, 0, none⟩) cs (rest.reverse ++ [(⟨nm, nd, lf, out, need⟩ : Pr.Fr)]) p.f1 w.heap.size (W2.drewN n) (Kd.S_reads' (Kd.S_drewN HS2.out n)).2.2 (by rw [List.length_append, List.length_reverse, List.length_singleton]; omega) ((blk_cell (blk_drewN HX2.out n) 1).trans rfl))
 have hll : (rest.reverse ++ [(⟨nm, nd, lf, out, need⟩ : Pr.Fr)]).length = rest.length + 1 := by simp
 rw [hll, hhit] at CF
 clear hll hhit
 go_wp2_with (first | (go_at_call 38; (with_reducible refine (CF.out _).mono ?_); rintro e w4 ⟨rfl, hb4⟩; have HB4 := Aside0.mk (below_step (pw_below_drewN (Below.refl W2.heap.size W2) _) hb4); have y1 := pw_cell_below HB4.out x1; have zz1 := pw_cell_below HB4.out z1; clear hb4))
 have HN4 := Aside0.mk (HN.out.step (HB4.out.mono HSZ.out.2.1) HGE.out.1 HGE.out.2.1 HGE.out.2.2.1)
 have hl4 := Pr.kn_run HN4.out p.f1 hkey 1
 rw [hkn] at hl4
 have hl4 : (Instr.lookup 62 (.map (some mk)) (.string p.f1) true).run Try.prog w4.drew = .ok (.tuple #[.agg #[.string q.1, .int .i64 q.2], .bool true]) w4.drew := hl4
 have y1a := fun o => pw_cell_below (below_alloc (Below.refl w4.heap.size w4) o) y1
 have zz1a := fun o => pw_cell_below (below_alloc (Below.refl w4.heap.size w4) o) zz1
 have hl4a : ∀ o, (Instr.lookup 62 (.map (some mk)) (.string p.f1) true).run Try.prog (w4.alloc o).drew = .ok (.tuple #[.agg #[.string q.1, .int .i64 q.2], .bool true]) (w4.alloc o).drew := fun o => by
  have h := Pr.kn_run (HN4.out.step ((below_alloc (Below.refl w4.heap.size w4) o).mono (Nat.le_trans HGE.out.2.2.2 (Nat.le_trans HSZ.out.1 HB4.out.size))) HGE.out.1 HGE.out.2.1 HGE.out.2.2.1) p.f1 hkey 1
  rw [hkn] at h
  exact h
 clear hkn
 obtain ⟨X, hX⟩ : ∃ X, X = Obj.cells #[.string q.1, .int .i64 q.2] 76 := ⟨_, rfl⟩
 have HXX := Lib.hid hX
 clear hX
 go_cut [23, 24] (fun v23 v24 wc => v23 = .pointer (some ⟨w4.heap.size, 0, none⟩) ∧ v24 = .bool true ∧ wc = (w4.alloc X).drew)
 case first =>
  go_region_law (fail)
  all_goals
   (try go_wp2_with (fail))
   go_meet
   case rel =>
    rw [HXX.out]
    exact ⟨rfl, rfl, rfl⟩
 obtain ⟨rfl, rfl, rfl⟩ := hcut
 have HBX := Aside0.mk (show Below B w (w4.alloc X).drew from below_drew ((HBB.out.trans (HB4.out.mono HSZ.out.2.1)).alloc (Nat.le_trans HSZ.out.2.1 HB4.out.size) X))
 have hXb : (w4.alloc X).drew.heap[w4.heap.size]? = some (.cells #[.string q.1, .int .i64 q.2] 76 (0, 0)) := by rw [HXX.out]; exact heap_alloc_new w4 _
 have d0 := (blk_cell hXb 0).trans rfl
 have d1 := (blk_cell hXb 1).trans rfl
 clear y1 zz1 y1a zz1a hl4 hl4a hXb
 go_wp2_with (fail)
 (try simp only [Exit.inBlock, Exit.then, jump_ret])
 (try go_ret2)
 exact HP.out _ HBX.out
theorem Pr.new_fr {w : World} {B N : Nat} {v : Value} {s : ByteArray} {l : List S78} (h : Kd.R k78 78 w N (fun _ => True) v l) (hB : B ≤ N) : Pr.frK.M w B (fun k => N ≤ k) ⟨s, true, l, [], 0⟩ [.string s, .bool true, v, .slice none 0 0, .int .i64 0] :=
 Pr.fr_mk ⟨s, true, l, [], 0⟩ ((viewK 78 k78).M_lower hB ((viewK 78 k78).M_mono (fun k hk => hk.2.1) ((viewK 78 k78).M_bound (view_of_R (by rfl) h)))) (Kd.R_nil _ _ _ _ _)
set_option maxRecDepth 1000000 in
theorem props_Names_Value.spliterr (u : Nat → Value) (B gs cs k g mr mk cnt : Nat) (raw : ByteArray → Option ByteArray) (kn : ByteArray → Option (ByteArray × Int)) (rest : List Pr.Fr) (nm : ByteArray) (nd : Bool) (p : S78) (lf : List S78) (out : List ByteArray) (need : Int) (deep : Int) (w : World) (J : Act → World → Prop) (POST : Ending → World → Prop)
 (h13 : u 13 = .int .i64 deep) (hdeep0 : 0 ≤ deep) (hdeep1 : deep ≤ 1) (hu0 : u 0 = .pointer (some ⟨g, 0, none⟩)) (h12 : u 12 = .slice (some ⟨gs, 0, none⟩) (rest.length + 1) cs) (hS : Kd.S Pr.frK 71 w B (fun _ => True) (.slice (some ⟨gs, 0, none⟩) (rest.length + 1) cs) (rest.reverse ++ [⟨nm, nd, p :: lf, out, need⟩]))
 (hN : Pr.NAt w g mr mk raw cnt kn) (hkey : p.f1.size ≤ maxLen) (hg : g < B) (hmr : mr < B) (hmk : mk < B)
 (hlen : rest.length ≤ 20) (hp : p.f0 = true) (hB : B ≤ w.heap.size) (hlf : lf.length ≤ 1000000000000) (x : ByteArray) (hraw : raw p.f1 = some x) (hG : Glob w) (hhit : (rest.reverse ++ [(⟨nm, nd, lf, out, need⟩ : Pr.Fr)]).any (Pr.hit p.f1) = false) (hat : deep + (rest.length : Int) < 20) (hkn : kn p.f1 = none) (l : List S78) (r2 : Int) (hsp : expr_Split.f k x = some (l, r2)) (hr : r2 ≠ 0)
 (hP : ∀ w' : World, Below B w w' → POST (.returned (.tuple #[.string ⟨#[]⟩, .int .i64 r2])) w') :
 Code.wp Try.prog Pr.rest (Exit.jump 0 J (bodyPost Try.prog Try.f25 POST)) (Pr.frm u) w := by
 have hu := Try.underlying71
 have hup := Try.underlying78
 have htop : (rest.reverse ++ [(⟨nm, nd, p :: lf, out, need⟩ : Pr.Fr)]).getD (rest.length : Int).toNat Pr.zfr = ⟨nm, nd, p :: lf, out, need⟩ := by
  rw [Int.toNat_natCast, List.getD_eq_getElem?_getD, List.getElem?_append_right (by simp)]; simp
 obtain ⟨oki, cc, hcl, hM, hcc, hfr, hoki, hH⟩ := Kd.S_elem hS Pr.zfr (rest.length : Int) (by omega) (by omega)
 rw [htop] at hM
 obtain ⟨lv, ov, rfl, hlv, hov⟩ := Pr.fr_M hM
 have hgs := Kd.S_lt hS gs (by simp [Value.ownBlock])
 have hgB := Kd.S_base hS gs (by simp [Value.ownBlock])
 obtain ⟨A1, c1, e1, hl1, hF⟩ := hlv
 obtain rfl := (List.cons.inj e1).1
 obtain ⟨A2, c2, rfl⟩ := Kd.R_slice hov
 obtain ⟨ad, e_, y0, y1⟩ := at_T78 (Kd.F_now hF) 0 (by omega) (by simp)
 cases e_
 have e0 : ad.add (Int.toNat 0 * 2) = ad := by simp [Addr.add]
 have e1_ : rd_T78 (p :: lf) 0 = p := rfl
 rw [e0, e1_] at y0 y1
 rw [hp] at y0
 clear e0 e1_ hp e1
 simp only [Int.toNat_natCast] at hcc hfr
 obtain ⟨A1', hA1, hsl⟩ := Pr.slice_ok (some ad) lf.length c1 hl1
 have hview := view_cut (m := 1) hl1 hF (by simp)
 have hview2 : (viewK 78 k78).M w B oki lf [.slice A1' lf.length (c1 - 1)] := by rw [hA1]; exact hview
 have frame_sz : Pr.frK.sz = 5 := rfl
 rw [frame_sz] at hcc hfr
 have q0 : w.cell? ⟨gs, rest.length * 5, none⟩ = some (.string nm) := hcc 0 _ rfl
 have q1 : w.cell? ⟨gs, rest.length * 5 + 1, none⟩ = some (.bool nd) := hcc 1 _ rfl
 have q2 : w.cell? ⟨gs, rest.length * 5 + 2, none⟩ = some (.slice (some ad) (lf.length + 1) c1) := hcc 2 _ rfl
 have q3 : w.cell? ⟨gs, rest.length * 5 + 3, none⟩ = some (.slice A2 out.length c2) := hcc 3 _ rfl
 have q4 : w.cell? ⟨gs, rest.length * 5 + 4, none⟩ = some (.int .i64 need) := hcc 4 _ rfl
 have f2 := hfr 2
 have ew : wrap64 (((rest.length + 1 : Nat) : Int) - 1) = (rest.length : Int) := by unfold wrap64; omega
 have ew' : wrap64 ((rest.length : Int) + 1 - 1) = (rest.length : Int) := by unfold wrap64; omega
 have p1 := eq_true (show (0 : Int) ≤ (rest.length : Int) by omega)
 have p2 := eq_true (show (rest.length : Int) < ((rest.length + 1 : Nat) : Int) by omega)
 have p3 := eq_true (show rest.length < rest.length + 1 by omega)
 have b0 : (((lf.length + 1 : Nat) : Int) == 0) = false := beq_eq_false_iff_ne.mpr (by omega)
 have b0' : ((lf.length + 1) == 0) = false := beq_eq_false_iff_ne.mpr (by omega)
 have b0'' : ((lf.length : Int) + 1 == 0) = false := beq_eq_false_iff_ne.mpr (by omega)
 obtain ⟨W1, hW1⟩ : ∃ W1, W1 = w.alloc (.cells #[.bool true, .string p.f1] 78) := ⟨_, rfl⟩
 have hB1 : Below w.heap.size w W1 := by rw [hW1]; exact below_alloc (Below.refl _ _) _
 have hX1 : W1.heap[w.heap.size]? = some (.cells #[.bool true, .string p.f1] 78 (0, 0)) := by rw [hW1]; exact heap_alloc_new w _
 have q2a := pw_cell_below hB1 q2
 have f2a : W1.frozen? ⟨gs, rest.length * 5 + 2, none⟩ = false := (hB1.frozen hgs).trans f2
 obtain ⟨W2, hW2⟩ : ∃ W2, W2 = W1.setCell ⟨gs, rest.length * 5 + 2, none⟩ (.slice A1' lf.length (c1 - 1)) := ⟨_, rfl⟩
 have hX2 : W2.heap[w.heap.size]? = some (.cells #[.bool true, .string p.f1] 78 (0, 0)) := by rw [hW2]; exact blk_far hX1 (by show w.heap.size ≠ gs; omega) _
 obtain ⟨hH2, hG2⟩ := Kd.H_seg (Kd.H_below hH hB1) (by omega) (by omega) (seg := [.slice A1' lf.length (c1 - 1)]) (j := 2) (by show 2 + 1 ≤ 5; omega) (by simp [Value.oneCell'])
 have ec : W1.setCells gs ((rest.length : Int).toNat * Pr.frK.sz + 2) [.slice A1' lf.length (c1 - 1)] = W2 := by rw [hW2]; rfl
 rw [ec] at hH2 hG2
 have hBB : Below B w W2 := by rw [hW2]; exact (hB1.mono hB).setCell (p := ⟨gs, rest.length * 5 + 2, none⟩) hgB _
 have same2 : ∀ k, oki k → k < w.heap.size → W2.heap[k]? = w.heap[k]? := fun k hk hlt => by
  rw [hW2]
  exact (Below.heap_setCell W1 _ _ k (hoki k hk).2).trans (hB1.block k hlt)
 have hview3 := Pr.view_at hview2 same2
 have hov3 := Kd.R_step hov same2
 have s3 : W2.cell? ⟨gs, rest.length * 5 + 3, none⟩ = some (.slice A2 out.length c2) := by
  rw [hW2]; exact (World.cell?_setCell_other (w := W1) (a := ⟨gs, rest.length * 5 + 2, none⟩) (b := ⟨gs, rest.length * 5 + 3, none⟩) (v := .slice A1' lf.length (c1 - 1)) (fun h => by injection h with _ h; omega)).trans (pw_cell_below hB1 q3)
 have s4 : W2.cell? ⟨gs, rest.length * 5 + 4, none⟩ = some (.int .i64 need) := by
  rw [hW2]; exact (World.cell?_setCell_other (w := W1) (a := ⟨gs, rest.length * 5 + 2, none⟩) (b := ⟨gs, rest.length * 5 + 4, none⟩) (v := .slice A1' lf.length (c1 - 1)) (fun h => by injection h with _ h; omega)).trans (pw_cell_below hB1 q4)
 have t3 : W2.frozen? ⟨gs, rest.length * 5 + 3, none⟩ = false := by rw [hW2, World.frozen?_setCell]; exact (hB1.frozen hgs).trans (hfr 3)
 have t4 : W2.frozen? ⟨gs, rest.length * 5 + 4, none⟩ = false := by rw [hW2, World.frozen?_setCell]; exact (hB1.frozen hgs).trans (hfr 4)
 have HT := Aside0.mk (And.intro t3 t4)
 have HS := Aside0.mk (And.intro s3 s4)
 clear s3 s4 t3 t4
 have hS2 := Kd.H_back hH2 (x' := ⟨nm, nd, lf, out, need⟩) (Pr.fr_mk _ hview3 hov3) (fun k hk => hk)
 rw [Pr.set_last] at hS2
 have HS2 := Aside0.mk hS2
 clear hS2
 have z0 := (blk_cell hX2 0).trans rfl
 have z1 := (blk_cell hX2 1).trans rfl
 rw [hW2, hW1] at z0 z1
 rw [hW1] at q2a f2a
 have HW2 := Lib.hid hW2
 have HW1 := Lib.hid hW1
 have HX2 := Aside0.mk hX2
 have HH2 := Aside0.mk (Kd.H_widen hH2)
 have HV3 := Aside0.mk hview3
 have HO3 := Aside0.mk (Kd.R_mono hov3 (ok' := fun k => oki k ∨ True ∧ W2.heap.size ≤ k) (fun k hk => .inl hk))
 have HBB := Aside0.mk hBB
 have HSZ := Lib.hid (show w.heap.size ≤ W2.heap.size ∧ B ≤ W2.heap.size ∧ gs < W2.heap.size ∧ B ≤ gs ∧ gs < w.heap.size from by
  have h1 := hBB.size
  have h2 := hG2
  obtain ⟨_, _, _, h3, _⟩ := hG2
  have := hB1.size
  exact ⟨by omega, by omega, by omega, hgB, hgs⟩)
 have HOKI := Lib.hid hoki
 clear hS hM hcc hfr hoki htop hH hF hview hview2 hview3 hov hov3 hB1 hX1 hX2 hH2 hG2 hBB same2 ec hA1 hcl hl1 frame_sz f2 hW2 hW1 hgs hgB
 have hun := Try.underlying64
 have HN := Aside0.mk (hN.step HBB.out hg hmr hmk)
 obtain ⟨nr, Dr, Dk, n1, _⟩ := HN.out
 have x0 : W2.cell? ⟨g, 0, none⟩ = some (.map (some mr)) := (blk_cell n1 0).trans rfl
 have x1 : W2.cell? ⟨g, 1, none⟩ = some (.map (some mk)) := (blk_cell n1 1).trans rfl
 have HGE := Lib.hid (show g < B ∧ mr < B ∧ mk < B ∧ B ≤ w.heap.size from ⟨hg, hmr, hmk, hB⟩)
 clear hN n1 hg hmr hmk
 have HP := Aside0.mk hP
 have HG := Aside0.mk (show Glob W2 from hG.below HBB.out (Nat.lt_of_le_of_lt (Nat.zero_le _) HGE.out.1))
 have hl := Pr.raw_run HN.out p.f1 hkey
 rw [hraw] at hl
 have hl0 := hl 0
 clear hP hG
 conv => arg 2; whnf
 unfold Pr.frm
 rw [h12, h13, hu0]
 go_wp2_with (fail)
 rw [← HW1.out, ← HW2.out]
 clear q2a f2a q0 q1 q2 q3 q4 y0 y1 z0 hsl
 have z1 := (blk_cell HX2.out 1).trans rfl
 go_quiet (fail)
 have CF := Aside0.mk (fun n => props_frame.calls (some ⟨gs, 0, none⟩) cs (rest.reverse ++ [(⟨nm, nd, lf, out, need⟩ : Pr.Fr)]) p.f1 w.heap.size (W2.drewN n) (Kd.S_reads' (Kd.S_drewN HS2.out n)).2.2 (by rw [List.length_append, List.length_reverse, List.length_singleton]; omega) ((blk_cell (blk_drewN HX2.out n) 1).trans rfl))
 have hll : (rest.reverse ++ [(⟨nm, nd, lf, out, need⟩ : Pr.Fr)]).length = rest.length + 1 := by simp
 rw [hll, hhit] at CF
 clear hll hhit
 go_wp2_with (first | (go_at_call 38; (with_reducible refine (CF.out _).mono ?_); rintro e w4 ⟨rfl, hb4⟩; have HB4 := Aside0.mk (below_step (pw_below_drewN (Below.refl W2.heap.size W2) _) hb4); have y1 := pw_cell_below HB4.out x1; have zz1 := pw_cell_below HB4.out z1; clear hb4))
 have HN4 := Aside0.mk (HN.out.step (HB4.out.mono HSZ.out.2.1) HGE.out.1 HGE.out.2.1 HGE.out.2.2.1)
 have hl4 := Pr.kn_run HN4.out p.f1 hkey 1
 rw [hkn] at hl4
 have hl4 : (Instr.lookup 62 (.map (some mk)) (.string p.f1) true).run Try.prog w4.drew = .ok (.tuple #[.agg #[.string ⟨#[]⟩, .int .i64 0], .bool false]) w4.drew := hl4
 have y1a := fun o => pw_cell_below (below_alloc (Below.refl w4.heap.size w4) o) y1
 have zz1a := fun o => pw_cell_below (below_alloc (Below.refl w4.heap.size w4) o) zz1
 have hl4a : ∀ o, (Instr.lookup 62 (.map (some mk)) (.string p.f1) true).run Try.prog (w4.alloc o).drew = .ok (.tuple #[.agg #[.string ⟨#[]⟩, .int .i64 0], .bool false]) (w4.alloc o).drew := fun o => by
  have h := Pr.kn_run (HN4.out.step ((below_alloc (Below.refl w4.heap.size w4) o).mono (Nat.le_trans HGE.out.2.2.2 (Nat.le_trans HSZ.out.1 HB4.out.size))) HGE.out.1 HGE.out.2.1 HGE.out.2.2.1) p.f1 hkey 1
  rw [hkn] at h
  exact h
 clear hkn
 obtain ⟨X, hX⟩ : ∃ X, X = Obj.cells #[.string ⟨#[]⟩, .int .i64 0] 76 := ⟨_, rfl⟩
 have HXX := Lib.hid hX
 clear hX
 go_cut [23, 24] (fun v23 v24 wc => v23 = .pointer (some ⟨w4.heap.size, 0, none⟩) ∧ v24 = .bool false ∧ wc = (w4.alloc X).drew)
 case first =>
  go_region_law (fail)
  all_goals
   (try go_wp2_with (fail))
   go_meet
   case rel =>
    rw [HXX.out]
    exact ⟨rfl, rfl, rfl⟩
 obtain ⟨rfl, rfl, rfl⟩ := hcut
 obtain ⟨w6, hw6⟩ : ∃ w6, w6 = (w4.alloc X).drew := ⟨_, rfl⟩
 rw [← hw6]
 have hb46 : Below w4.heap.size w4 w6 := by rw [hw6]; exact below_drew (below_alloc (Below.refl _ _) _)
 have HBX := Aside0.mk ((HBB.out.trans (HB4.out.mono HSZ.out.2.1)).trans (hb46.mono (Nat.le_trans HSZ.out.2.1 HB4.out.size)))
 have zc6 := pw_cell_below hb46 zz1
 have HS6 := Aside0.mk (Kd.S_below (Kd.S_below HS2.out HB4.out) hb46)
 have HZ6 := Lib.hid (show B ≤ w6.heap.size ∧ w.heap.size ≤ w6.heap.size ∧ gs < w6.heap.size from by
  have h1 := hb46.size
  have h2 := HB4.out.size
  have h3 := HSZ.out
  exact ⟨by omega, by omega, by omega⟩)
 have CSP := Aside0.mk (expr_Split.calls k x l r2 w6 ((HG.out.step HB4.out).step hb46) hsp)
 clear y1 zz1 y1a zz1a hl4 hl4a hw6 hb46 hsp
 have b1 : (r2 != 0) = true := bne_iff_ne.mpr hr
 go_wp2_with (first | (go_at_call 36; (with_reducible refine (CSP.out).mono ?_); rintro e w5 ⟨v0, rfl, hr5, hb5⟩; have HB5 := Aside0.mk hb5; clear hr5 hb5))
 (try simp only [Exit.inBlock, Exit.then, jump_ret])
 (try go_ret2)
 exact HP.out _ (HBX.out.trans (HB5.out.mono HZ6.out.1))
set_option maxRecDepth 1000000 in
theorem props_Names_Value.push (u : Nat → Value) (B gs cs k g mr mk cnt : Nat) (raw : ByteArray → Option ByteArray) (kn : ByteArray → Option (ByteArray × Int)) (rest : List Pr.Fr) (nm : ByteArray) (nd : Bool) (p : S78) (lf : List S78) (out : List ByteArray) (need : Int) (deep : Int) (w : World) (J : Act → World → Prop) (POST : Ending → World → Prop)
 (h13 : u 13 = .int .i64 deep) (hdeep0 : 0 ≤ deep) (hdeep1 : deep ≤ 1) (hu0 : u 0 = .pointer (some ⟨g, 0, none⟩)) (h12 : u 12 = .slice (some ⟨gs, 0, none⟩) (rest.length + 1) cs) (hS : Kd.S Pr.frK 71 w B (fun _ => True) (.slice (some ⟨gs, 0, none⟩) (rest.length + 1) cs) (rest.reverse ++ [⟨nm, nd, p :: lf, out, need⟩]))
 (hN : Pr.NAt w g mr mk raw cnt kn) (hkey : p.f1.size ≤ maxLen) (hg : g < B) (hmr : mr < B) (hmk : mk < B)
 (hlen : rest.length ≤ 20) (hp : p.f0 = true) (hB : B ≤ w.heap.size) (hlf : lf.length ≤ 1000000000000) (x : ByteArray) (hraw : raw p.f1 = some x) (hG : Glob w) (hhit : (rest.reverse ++ [(⟨nm, nd, lf, out, need⟩ : Pr.Fr)]).any (Pr.hit p.f1) = false) (hat : deep + (rest.length : Int) < 20) (hkn : kn p.f1 = none) (l : List S78) (r2 : Int) (hsp : expr_Split.f k x = some (l, r2)) (hr : r2 = 0)
 (hJ : ∀ (u' : Nat → Value) (w' : World), u' 0 = u 0 → u' 13 = u 13 → (∃ v, u' 12 = v ∧ Kd.S Pr.frK 71 w' B (fun _ => True) v ((rest.reverse ++ [⟨nm, nd, lf, out, need⟩]) ++ [⟨p.f1, true, l, [], 0⟩])) → Below B w w' → J (Pr.frm u') w') :
 Code.wp Try.prog Pr.rest (Exit.jump 0 J (bodyPost Try.prog Try.f25 POST)) (Pr.frm u) w := by
 have hu := Try.underlying71
 have hup := Try.underlying78
 have htop : (rest.reverse ++ [(⟨nm, nd, p :: lf, out, need⟩ : Pr.Fr)]).getD (rest.length : Int).toNat Pr.zfr = ⟨nm, nd, p :: lf, out, need⟩ := by
  rw [Int.toNat_natCast, List.getD_eq_getElem?_getD, List.getElem?_append_right (by simp)]; simp
 obtain ⟨oki, cc, hcl, hM, hcc, hfr, hoki, hH⟩ := Kd.S_elem hS Pr.zfr (rest.length : Int) (by omega) (by omega)
 rw [htop] at hM
 obtain ⟨lv, ov, rfl, hlv, hov⟩ := Pr.fr_M hM
 have hgs := Kd.S_lt hS gs (by simp [Value.ownBlock])
 have hgB := Kd.S_base hS gs (by simp [Value.ownBlock])
 obtain ⟨A1, c1, e1, hl1, hF⟩ := hlv
 obtain rfl := (List.cons.inj e1).1
 obtain ⟨A2, c2, rfl⟩ := Kd.R_slice hov
 obtain ⟨ad, e_, y0, y1⟩ := at_T78 (Kd.F_now hF) 0 (by omega) (by simp)
 cases e_
 have e0 : ad.add (Int.toNat 0 * 2) = ad := by simp [Addr.add]
 have e1_ : rd_T78 (p :: lf) 0 = p := rfl
 rw [e0, e1_] at y0 y1
 rw [hp] at y0
 clear e0 e1_ hp e1
 simp only [Int.toNat_natCast] at hcc hfr
 obtain ⟨A1', hA1, hsl⟩ := Pr.slice_ok (some ad) lf.length c1 hl1
 have hview := view_cut (m := 1) hl1 hF (by simp)
 have hview2 : (viewK 78 k78).M w B oki lf [.slice A1' lf.length (c1 - 1)] := by rw [hA1]; exact hview
 have frame_sz : Pr.frK.sz = 5 := rfl
 rw [frame_sz] at hcc hfr
 have q0 : w.cell? ⟨gs, rest.length * 5, none⟩ = some (.string nm) := hcc 0 _ rfl
 have q1 : w.cell? ⟨gs, rest.length * 5 + 1, none⟩ = some (.bool nd) := hcc 1 _ rfl
 have q2 : w.cell? ⟨gs, rest.length * 5 + 2, none⟩ = some (.slice (some ad) (lf.length + 1) c1) := hcc 2 _ rfl
 have q3 : w.cell? ⟨gs, rest.length * 5 + 3, none⟩ = some (.slice A2 out.length c2) := hcc 3 _ rfl
 have q4 : w.cell? ⟨gs, rest.length * 5 + 4, none⟩ = some (.int .i64 need) := hcc 4 _ rfl
 have f2 := hfr 2
 have ew : wrap64 (((rest.length + 1 : Nat) : Int) - 1) = (rest.length : Int) := by unfold wrap64; omega
 have ew' : wrap64 ((rest.length : Int) + 1 - 1) = (rest.length : Int) := by unfold wrap64; omega
 have p1 := eq_true (show (0 : Int) ≤ (rest.length : Int) by omega)
 have p2 := eq_true (show (rest.length : Int) < ((rest.length + 1 : Nat) : Int) by omega)
 have p3 := eq_true (show rest.length < rest.length + 1 by omega)
 have b0 : (((lf.length + 1 : Nat) : Int) == 0) = false := beq_eq_false_iff_ne.mpr (by omega)
 have b0' : ((lf.length + 1) == 0) = false := beq_eq_false_iff_ne.mpr (by omega)
 have b0'' : ((lf.length : Int) + 1 == 0) = false := beq_eq_false_iff_ne.mpr (by omega)
 obtain ⟨W1, hW1⟩ : ∃ W1, W1 = w.alloc (.cells #[.bool true, .string p.f1] 78) := ⟨_, rfl⟩
 have hB1 : Below w.heap.size w W1 := by rw [hW1]; exact below_alloc (Below.refl _ _) _
 have hX1 : W1.heap[w.heap.size]? = some (.cells #[.bool true, .string p.f1] 78 (0, 0)) := by rw [hW1]; exact heap_alloc_new w _
 have q2a := pw_cell_below hB1 q2
 have f2a : W1.frozen? ⟨gs, rest.length * 5 + 2, none⟩ = false := (hB1.frozen hgs).trans f2
 obtain ⟨W2, hW2⟩ : ∃ W2, W2 = W1.setCell ⟨gs, rest.length * 5 + 2, none⟩ (.slice A1' lf.length (c1 - 1)) := ⟨_, rfl⟩
 have hX2 : W2.heap[w.heap.size]? = some (.cells #[.bool true, .string p.f1] 78 (0, 0)) := by rw [hW2]; exact blk_far hX1 (by show w.heap.size ≠ gs; omega) _
 obtain ⟨hH2, hG2⟩ := Kd.H_seg (Kd.H_below hH hB1) (by omega) (by omega) (seg := [.slice A1' lf.length (c1 - 1)]) (j := 2) (by show 2 + 1 ≤ 5; omega) (by simp [Value.oneCell'])
 have ec : W1.setCells gs ((rest.length : Int).toNat * Pr.frK.sz + 2) [.slice A1' lf.length (c1 - 1)] = W2 := by rw [hW2]; rfl
 rw [ec] at hH2 hG2
 have hBB : Below B w W2 := by rw [hW2]; exact (hB1.mono hB).setCell (p := ⟨gs, rest.length * 5 + 2, none⟩) hgB _
 have same2 : ∀ k, oki k → k < w.heap.size → W2.heap[k]? = w.heap[k]? := fun k hk hlt => by
  rw [hW2]
  exact (Below.heap_setCell W1 _ _ k (hoki k hk).2).trans (hB1.block k hlt)
 have hview3 := Pr.view_at hview2 same2
 have hov3 := Kd.R_step hov same2
 have s3 : W2.cell? ⟨gs, rest.length * 5 + 3, none⟩ = some (.slice A2 out.length c2) := by
  rw [hW2]; exact (World.cell?_setCell_other (w := W1) (a := ⟨gs, rest.length * 5 + 2, none⟩) (b := ⟨gs, rest.length * 5 + 3, none⟩) (v := .slice A1' lf.length (c1 - 1)) (fun h => by injection h with _ h; omega)).trans (pw_cell_below hB1 q3)
 have s4 : W2.cell? ⟨gs, rest.length * 5 + 4, none⟩ = some (.int .i64 need) := by
  rw [hW2]; exact (World.cell?_setCell_other (w := W1) (a := ⟨gs, rest.length * 5 + 2, none⟩) (b := ⟨gs, rest.length * 5 + 4, none⟩) (v := .slice A1' lf.length (c1 - 1)) (fun h => by injection h with _ h; omega)).trans (pw_cell_below hB1 q4)
 have t3 : W2.frozen? ⟨gs, rest.length * 5 + 3, none⟩ = false := by rw [hW2, World.frozen?_setCell]; exact (hB1.frozen hgs).trans (hfr 3)
 have t4 : W2.frozen? ⟨gs, rest.length * 5 + 4, none⟩ = false := by rw [hW2, World.frozen?_setCell]; exact (hB1.frozen hgs).trans (hfr 4)
 have HT := Aside0.mk (And.intro t3 t4)
 have HS := Aside0.mk (And.intro s3 s4)
 clear s3 s4 t3 t4
 have hS2 := Kd.H_back hH2 (x' := ⟨nm, nd, lf, out, need⟩) (Pr.fr_mk _ hview3 hov3) (fun k hk => hk)
 rw [Pr.set_last] at hS2
 have HS2 := Aside0.mk hS2
 clear hS2
 have z0 := (blk_cell hX2 0).trans rfl
 have z1 := (blk_cell hX2 1).trans rfl
 rw [hW2, hW1] at z0 z1
 rw [hW1] at q2a f2a
 have HW2 := Lib.hid hW2
 have HW1 := Lib.hid hW1
 have HX2 := Aside0.mk hX2
 have HH2 := Aside0.mk (Kd.H_widen hH2)
 have HV3 := Aside0.mk hview3
 have HO3 := Aside0.mk (Kd.R_mono hov3 (ok' := fun k => oki k ∨ True ∧ W2.heap.size ≤ k) (fun k hk => .inl hk))
 have HBB := Aside0.mk hBB
 have HSZ := Lib.hid (show w.heap.size ≤ W2.heap.size ∧ B ≤ W2.heap.size ∧ gs < W2.heap.size ∧ B ≤ gs ∧ gs < w.heap.size from by
  have h1 := hBB.size
  have h2 := hG2
  obtain ⟨_, _, _, h3, _⟩ := hG2
  have := hB1.size
  exact ⟨by omega, by omega, by omega, hgB, hgs⟩)
 have HOKI := Lib.hid hoki
 clear hS hM hcc hfr hoki htop hH hF hview hview2 hview3 hov hov3 hB1 hX1 hX2 hH2 hG2 hBB same2 ec hA1 hcl hl1 frame_sz f2 hW2 hW1 hgs hgB
 have hun := Try.underlying64
 have HN := Aside0.mk (hN.step HBB.out hg hmr hmk)
 obtain ⟨nr, Dr, Dk, n1, _⟩ := HN.out
 have x0 : W2.cell? ⟨g, 0, none⟩ = some (.map (some mr)) := (blk_cell n1 0).trans rfl
 have x1 : W2.cell? ⟨g, 1, none⟩ = some (.map (some mk)) := (blk_cell n1 1).trans rfl
 have HGE := Lib.hid (show g < B ∧ mr < B ∧ mk < B ∧ B ≤ w.heap.size from ⟨hg, hmr, hmk, hB⟩)
 clear hN n1 hg hmr hmk
 have HJ := Aside0.mk hJ
 have HG := Aside0.mk (show Glob W2 from hG.below HBB.out (Nat.lt_of_le_of_lt (Nat.zero_le _) HGE.out.1))
 have hl := Pr.raw_run HN.out p.f1 hkey
 rw [hraw] at hl
 have hl0 := hl 0
 clear hJ hG
 conv => arg 2; whnf
 unfold Pr.frm
 rw [h12, h13, hu0]
 go_wp2_with (fail)
 rw [← HW1.out, ← HW2.out]
 clear q2a f2a q0 q1 q2 q3 q4 y0 y1 z0 hsl
 have z1 := (blk_cell HX2.out 1).trans rfl
 go_quiet (fail)
 have CF := Aside0.mk (fun n => props_frame.calls (some ⟨gs, 0, none⟩) cs (rest.reverse ++ [(⟨nm, nd, lf, out, need⟩ : Pr.Fr)]) p.f1 w.heap.size (W2.drewN n) (Kd.S_reads' (Kd.S_drewN HS2.out n)).2.2 (by rw [List.length_append, List.length_reverse, List.length_singleton]; omega) ((blk_cell (blk_drewN HX2.out n) 1).trans rfl))
 have hll : (rest.reverse ++ [(⟨nm, nd, lf, out, need⟩ : Pr.Fr)]).length = rest.length + 1 := by simp
 rw [hll, hhit] at CF
 clear hll hhit
 go_wp2_with (first | (go_at_call 38; (with_reducible refine (CF.out _).mono ?_); rintro e w4 ⟨rfl, hb4⟩; have HB4 := Aside0.mk (below_step (pw_below_drewN (Below.refl W2.heap.size W2) _) hb4); have y1 := pw_cell_below HB4.out x1; have zz1 := pw_cell_below HB4.out z1; clear hb4))
 have HN4 := Aside0.mk (HN.out.step (HB4.out.mono HSZ.out.2.1) HGE.out.1 HGE.out.2.1 HGE.out.2.2.1)
 have hl4 := Pr.kn_run HN4.out p.f1 hkey 1
 rw [hkn] at hl4
 have hl4 : (Instr.lookup 62 (.map (some mk)) (.string p.f1) true).run Try.prog w4.drew = .ok (.tuple #[.agg #[.string ⟨#[]⟩, .int .i64 0], .bool false]) w4.drew := hl4
 have y1a := fun o => pw_cell_below (below_alloc (Below.refl w4.heap.size w4) o) y1
 have zz1a := fun o => pw_cell_below (below_alloc (Below.refl w4.heap.size w4) o) zz1
 have hl4a : ∀ o, (Instr.lookup 62 (.map (some mk)) (.string p.f1) true).run Try.prog (w4.alloc o).drew = .ok (.tuple #[.agg #[.string ⟨#[]⟩, .int .i64 0], .bool false]) (w4.alloc o).drew := fun o => by
  have h := Pr.kn_run (HN4.out.step ((below_alloc (Below.refl w4.heap.size w4) o).mono (Nat.le_trans HGE.out.2.2.2 (Nat.le_trans HSZ.out.1 HB4.out.size))) HGE.out.1 HGE.out.2.1 HGE.out.2.2.1) p.f1 hkey 1
  rw [hkn] at h
  exact h
 clear hkn
 obtain ⟨X, hX⟩ : ∃ X, X = Obj.cells #[.string ⟨#[]⟩, .int .i64 0] 76 := ⟨_, rfl⟩
 have HXX := Lib.hid hX
 clear hX
 go_cut [23, 24] (fun v23 v24 wc => v23 = .pointer (some ⟨w4.heap.size, 0, none⟩) ∧ v24 = .bool false ∧ wc = (w4.alloc X).drew)
 case first =>
  go_region_law (fail)
  all_goals
   (try go_wp2_with (fail))
   go_meet
   case rel =>
    rw [HXX.out]
    exact ⟨rfl, rfl, rfl⟩
 obtain ⟨rfl, rfl, rfl⟩ := hcut
 obtain ⟨w6, hw6⟩ : ∃ w6, w6 = (w4.alloc X).drew := ⟨_, rfl⟩
 rw [← hw6]
 have hb46 : Below w4.heap.size w4 w6 := by rw [hw6]; exact below_drew (below_alloc (Below.refl _ _) _)
 have HBX := Aside0.mk ((HBB.out.trans (HB4.out.mono HSZ.out.2.1)).trans (hb46.mono (Nat.le_trans HSZ.out.2.1 HB4.out.size)))
 have zc6 := pw_cell_below hb46 zz1
 have HS6 := Aside0.mk (Kd.S_below (Kd.S_below HS2.out HB4.out) hb46)
 have HZ6 := Lib.hid (show B ≤ w6.heap.size ∧ w.heap.size ≤ w6.heap.size ∧ gs < w6.heap.size from by
  have h1 := hb46.size
  have h2 := HB4.out.size
  have h3 := HSZ.out
  exact ⟨by omega, by omega, by omega⟩)
 have CSP := Aside0.mk (expr_Split.calls k x l r2 w6 ((HG.out.step HB4.out).step hb46) hsp)
 clear y1 zz1 y1a zz1a hl4 hl4a hw6 hb46 hsp
 subst hr
 go_wp2_with (first | (go_at_call 36; (with_reducible refine (CSP.out).mono ?_); rintro e w5 ⟨v0, rfl, hr5, hb5⟩; obtain ⟨A5, c5, rfl⟩ := Kd.R_slice hr5; have HR5 := Aside0.mk hr5; have HB5 := Aside0.mk hb5; have zc5 := pw_cell_below hb5 zc6; clear hr5 hb5) | ((with_reducible refine gate_builtin (b := .append) (xs := #[.tmp 213, .tmp 218]) rfl ?_); at_builtin; go_loud (refine Kd.S_append Pr.frK (w0 := w) (W := w5) B rfl (.tmp 213) (.tmp 218) 72 71 (.agg #[.string ⟨#[]⟩, .bool false, .slice none 0 0, .slice none 0 0, .int .i64 0]) 80 rfl Try.underlying72 Pr.frInfo rfl (by decide) (by decide) (.slice (some ⟨gs, 0, none⟩) (rest.length + 1) cs) (rest.reverse ++ [(⟨nm, nd, lf, out, need⟩ : Pr.Fr)]) ⟨p.f1, true, l, [], 0⟩ [.string p.f1, .bool true, .slice A5 l.length c5, .slice none 0 0, .int .i64 0] (fun _ => True) (fun k => w6.heap.size ≤ k) rfl rfl (Pr.new_fr HR5.out HZ6.out.1) (fun k hk => ⟨trivial, fun he => by injection he with he; have he : k = gs := he; have := HZ6.out.2.2; omega⟩) (fun _ _ => trivial) (Kd.S_mono (Kd.S_below (Kd.S_bound HS6.out) HB5.out) (fun k hk => ⟨trivial, by have := hk.2.2.1; omega⟩)) (HBX.out.trans (HB5.out.mono HZ6.out.1)) (Nat.le_trans HZ6.out.1 HB5.out.size) (by rw [List.length_append, List.length_reverse, List.length_singleton]; omega) ?_; intro v1 w7 r1 bw gg at1; have R1 := Aside0.mk r1; have BW := Aside0.mk bw; clear r1 bw gg at1)))
 refine wp_goto (And.intro rfl ?_)
 rw [Pr.frm_of _ rfl]
 exact HJ.out _ _ hu0.symm h13.symm ⟨_, rfl, R1.out⟩ BW.out
theorem Pr.ready_of {md : Region.Mode} {ops : Array Oper} {T : Bool × List (List Nat × List Nat)} {l : Array Bool} {rs : List Nat} (hT : rtab md ops = T) (h : (readyT T.2 l.toList == rs) = true) : Region.ready md ops l = rs := by
 rw [ready_eq, hT]; simpa using h
theorem Pr.fork {P : Program} {md : Region.Mode} {ops : Array Oper} {Q : Exit → Act → World → Prop} {S : World → Prop} {ds : List Nat} {i j : Nat} {Ni Nj : Option Tmp} {oi oj : Oper} {v : Value} {fuel : Nat} {l : Array Bool} {a a' : Act} {w : World} (rs : List Nat) (li lj : Array Bool) (hr : Region.ready md ops l = rs) (hne : rs ≠ []) (hm : ∀ x, x ∈ rs → x = i ∨ x = j) (hi : ops[i]? = some oi) (hj : ops[j]? = some oj) (hNi : oi.dst = Ni) (hNj : oj.dst = Nj) (hli : l.setIfInBounds i true = li) (hlj : l.setIfInBounds j true = lj)
 (hy : YieldsIf P ops (fun w' => w' = w) oi v a) (ha : a.put Ni v = a') (h1 : wpAnyLast P md ops Q S ds fuel li a' w)
 (h2 : ∀ K : Act → World → Prop, Shut (∀ a' w', (j ∉ ds → S w → S w') → wpAnyLast P md ops Q S ds fuel lj a' w' → K a' w') → if Region.wanted oj (yielded ops a.tmps) = true then Oper.wp P oj a w K Q else K (a.put Nj undef) w) : wpAnyLast P md ops Q S ds (fuel + 1) l a w := by
 subst hNi hNj hli hlj ha
 refine wpAnyLast_all hr hne (fun x hx => ?_)
 rcases hm x hx with rfl | rfl
 ·exact hy.wpOp hi rfl ⟨fun _ h => h, h1⟩
 ·exact wpOp_step hj (fun K' hK => h2 K' (fun a w hS hW => hK a w ⟨hS, hW⟩))
theorem Pr.solo {P : Program} {md : Region.Mode} {ops : Array Oper} {Q : Exit → Act → World → Prop} {S : World → Prop} {ds : List Nat} {i : Nat} {Ni : Option Tmp} {oi : Oper} {v : Value} {fuel : Nat} {l : Array Bool} {a a' : Act} {w : World} (li : Array Bool) (hr : Region.ready md ops l = [i]) (hi : ops[i]? = some oi) (hNi : oi.dst = Ni) (hli : l.setIfInBounds i true = li)
 (hy : YieldsIf P ops (fun w' => w' = w) oi v a) (ha : a.put Ni v = a') (h1 : wpAnyLast P md ops Q S ds fuel li a' w) : wpAnyLast P md ops Q S ds (fuel + 1) l a w := by
 subst hNi hli ha
 exact wpAnyLast_all hr (by simp) (fun x hx => by obtain rfl := List.mem_singleton.1 hx; exact hy.wpOp hi rfl ⟨fun _ h => h, h1⟩)
def Pr.T36 : Bool × List (List Nat × List Nat) := (true, [([], []), ([], []), ([], []), ([2], [2]), ([3], [3]), ([4], [4]), ([], []), ([6], [6]), ([7], [7]), ([5, 8], [5, 8]), ([], []), ([10], [10]), ([11], [11]), ([12], [12]), ([], []), ([14], [14]), ([15], [15]), ([13, 16], [13, 16]), ([0, 0, 2, 3, 4, 5, 6, 7, 8, 9, 13], [0]), ([18, 0, 2, 3, 4, 5, 6, 7, 8, 9, 13], [18]), ([19, 9, 9, 0, 2, 3, 4, 5, 6, 7, 8, 9, 13], [9, 19]), ([1, 0, 1, 2, 3, 4, 5, 6, 7, 8, 9, 10, 11, 12, 13, 14, 15, 16, 17, 18, 19, 20], [1]), ([21, 0, 1, 2, 3, 4, 5, 6, 7, 8, 9, 10, 11, 12, 13, 14, 15, 16, 17, 18, 19, 20], [21]), ([22, 17, 20, 0, 1, 2, 3, 4, 5, 6, 7, 8, 9, 10, 11, 12, 13, 14, 15, 16, 17, 18, 19, 20], [17, 22])])
def Pr.B36 : List Nat := [0, 0, 0, 4, 12, 28, 0, 64, 192, 508, 0, 1024, 3072, 7168, 0, 16384, 49152, 130048, 16381, 278525, 802813, 2097151, 4194303, 8388607]
theorem Pr.tab36 : rtab .any (opsOf Try.f25 36) = Pr.T36 := by kernel_rfl
theorem Pr.bits36 : waitsOk Pr.T36.2 Pr.B36 = true := by kernel_rfl
set_option maxRecDepth 1000000 in
theorem props_Names_Value.known (u : Nat → Value) (B gs cs g mr mk cnt : Nat) (raw : ByteArray → Option ByteArray) (kn : ByteArray → Option (ByteArray × Int)) (rest : List Pr.Fr) (nm : ByteArray) (nd : Bool) (p : S78) (lf : List S78) (out : List ByteArray) (need : Int) (deep : Int) (w : World) (J : Act → World → Prop) (POST : Ending → World → Prop)
 (h13 : u 13 = .int .i64 deep) (hdeep0 : 0 ≤ deep) (hdeep1 : deep ≤ 1) (hu0 : u 0 = .pointer (some ⟨g, 0, none⟩)) (h12 : u 12 = .slice (some ⟨gs, 0, none⟩) (rest.length + 1) cs) (hS : Kd.S Pr.frK 71 w B (fun _ => True) (.slice (some ⟨gs, 0, none⟩) (rest.length + 1) cs) (rest.reverse ++ [⟨nm, nd, p :: lf, out, need⟩]))
 (hN : Pr.NAt w g mr mk raw cnt kn) (hkey : p.f1.size ≤ maxLen) (hg : g < B) (hmr : mr < B) (hmk : mk < B)
 (hlen : rest.length ≤ 20) (hp : p.f0 = true) (hB : B ≤ w.heap.size) (hlf : lf.length ≤ 1000000000000) (x : ByteArray) (hraw : raw p.f1 = some x) (hG : Glob w) (hhit : (rest.reverse ++ [(⟨nm, nd, lf, out, need⟩ : Pr.Fr)]).any (Pr.hit p.f1) = false) (hat : deep + (rest.length : Int) < 20) (q : ByteArray × Int) (hkn : kn p.f1 = some q) (hq0 : -1000000 ≤ q.2) (hq1 : q.2 ≤ 1000000) (hat2 : deep + (rest.length : Int) + 1 + q.2 ≤ 20) (hout : out.length < 1000000)
 (hJ : ∀ (u' : Nat → Value) (w' : World), u' 0 = u 0 → u' 13 = u 13 → (∃ v, u' 12 = v ∧ Kd.S Pr.frK 71 w' B (fun _ => True) v (rest.reverse ++ [⟨nm, nd, lf, out ++ [q.1], mx need (q.2 + 1)⟩])) → Below B w w' → J (Pr.frm u') w') :
 Code.wp Try.prog Pr.rest (Exit.jump 0 J (bodyPost Try.prog Try.f25 POST)) (Pr.frm u) w := by
 have hu := Try.underlying71
 have hup := Try.underlying78
 have htop : (rest.reverse ++ [(⟨nm, nd, p :: lf, out, need⟩ : Pr.Fr)]).getD (rest.length : Int).toNat Pr.zfr = ⟨nm, nd, p :: lf, out, need⟩ := by
  rw [Int.toNat_natCast, List.getD_eq_getElem?_getD, List.getElem?_append_right (by simp)]; simp
 obtain ⟨oki, cc, hcl, hM, hcc, hfr, hoki, hH⟩ := Kd.S_elem hS Pr.zfr (rest.length : Int) (by omega) (by omega)
 rw [htop] at hM
 obtain ⟨lv, ov, rfl, hlv, hov⟩ := Pr.fr_M hM
 have hgs := Kd.S_lt hS gs (by simp [Value.ownBlock])
 have hgB := Kd.S_base hS gs (by simp [Value.ownBlock])
 obtain ⟨A1, c1, e1, hl1, hF⟩ := hlv
 obtain rfl := (List.cons.inj e1).1
 obtain ⟨A2, c2, rfl⟩ := Kd.R_slice hov
 obtain ⟨ad, e_, y0, y1⟩ := at_T78 (Kd.F_now hF) 0 (by omega) (by simp)
 cases e_
 have e0 : ad.add (Int.toNat 0 * 2) = ad := by simp [Addr.add]
 have e1_ : rd_T78 (p :: lf) 0 = p := rfl
 rw [e0, e1_] at y0 y1
 rw [hp] at y0
 clear e0 e1_ hp e1
 simp only [Int.toNat_natCast] at hcc hfr
 obtain ⟨A1', hA1, hsl⟩ := Pr.slice_ok (some ad) lf.length c1 hl1
 have hview := view_cut (m := 1) hl1 hF (by simp)
 have hview2 : (viewK 78 k78).M w B oki lf [.slice A1' lf.length (c1 - 1)] := by rw [hA1]; exact hview
 have frame_sz : Pr.frK.sz = 5 := rfl
 rw [frame_sz] at hcc hfr
 have q0 : w.cell? ⟨gs, rest.length * 5, none⟩ = some (.string nm) := hcc 0 _ rfl
 have q1 : w.cell? ⟨gs, rest.length * 5 + 1, none⟩ = some (.bool nd) := hcc 1 _ rfl
 have q2 : w.cell? ⟨gs, rest.length * 5 + 2, none⟩ = some (.slice (some ad) (lf.length + 1) c1) := hcc 2 _ rfl
 have q3 : w.cell? ⟨gs, rest.length * 5 + 3, none⟩ = some (.slice A2 out.length c2) := hcc 3 _ rfl
 have q4 : w.cell? ⟨gs, rest.length * 5 + 4, none⟩ = some (.int .i64 need) := hcc 4 _ rfl
 have f2 := hfr 2
 have ew : wrap64 (((rest.length + 1 : Nat) : Int) - 1) = (rest.length : Int) := by unfold wrap64; omega
 have ew' : wrap64 ((rest.length : Int) + 1 - 1) = (rest.length : Int) := by unfold wrap64; omega
 have p1 := eq_true (show (0 : Int) ≤ (rest.length : Int) by omega)
 have p2 := eq_true (show (rest.length : Int) < ((rest.length + 1 : Nat) : Int) by omega)
 have p3 := eq_true (show rest.length < rest.length + 1 by omega)
 have b0 : (((lf.length + 1 : Nat) : Int) == 0) = false := beq_eq_false_iff_ne.mpr (by omega)
 have b0' : ((lf.length + 1) == 0) = false := beq_eq_false_iff_ne.mpr (by omega)
 have b0'' : ((lf.length : Int) + 1 == 0) = false := beq_eq_false_iff_ne.mpr (by omega)
 obtain ⟨W1, hW1⟩ : ∃ W1, W1 = w.alloc (.cells #[.bool true, .string p.f1] 78) := ⟨_, rfl⟩
 have hB1 : Below w.heap.size w W1 := by rw [hW1]; exact below_alloc (Below.refl _ _) _
 have hX1 : W1.heap[w.heap.size]? = some (.cells #[.bool true, .string p.f1] 78 (0, 0)) := by rw [hW1]; exact heap_alloc_new w _
 have q2a := pw_cell_below hB1 q2
 have f2a : W1.frozen? ⟨gs, rest.length * 5 + 2, none⟩ = false := (hB1.frozen hgs).trans f2
 obtain ⟨W2, hW2⟩ : ∃ W2, W2 = W1.setCell ⟨gs, rest.length * 5 + 2, none⟩ (.slice A1' lf.length (c1 - 1)) := ⟨_, rfl⟩
 have hX2 : W2.heap[w.heap.size]? = some (.cells #[.bool true, .string p.f1] 78 (0, 0)) := by rw [hW2]; exact blk_far hX1 (by show w.heap.size ≠ gs; omega) _
 obtain ⟨hH2, hG2⟩ := Kd.H_seg (Kd.H_below hH hB1) (by omega) (by omega) (seg := [.slice A1' lf.length (c1 - 1)]) (j := 2) (by show 2 + 1 ≤ 5; omega) (by simp [Value.oneCell'])
 have ec : W1.setCells gs ((rest.length : Int).toNat * Pr.frK.sz + 2) [.slice A1' lf.length (c1 - 1)] = W2 := by rw [hW2]; rfl
 rw [ec] at hH2 hG2
 have hBB : Below B w W2 := by rw [hW2]; exact (hB1.mono hB).setCell (p := ⟨gs, rest.length * 5 + 2, none⟩) hgB _
 have same2 : ∀ k, oki k → k < w.heap.size → W2.heap[k]? = w.heap[k]? := fun k hk hlt => by
  rw [hW2]
  exact (Below.heap_setCell W1 _ _ k (hoki k hk).2).trans (hB1.block k hlt)
 have hview3 := Pr.view_at hview2 same2
 have hov3 := Kd.R_step hov same2
 have s3 : W2.cell? ⟨gs, rest.length * 5 + 3, none⟩ = some (.slice A2 out.length c2) := by
  rw [hW2]; exact (World.cell?_setCell_other (w := W1) (a := ⟨gs, rest.length * 5 + 2, none⟩) (b := ⟨gs, rest.length * 5 + 3, none⟩) (v := .slice A1' lf.length (c1 - 1)) (fun h => by injection h with _ h; omega)).trans (pw_cell_below hB1 q3)
 have s4 : W2.cell? ⟨gs, rest.length * 5 + 4, none⟩ = some (.int .i64 need) := by
  rw [hW2]; exact (World.cell?_setCell_other (w := W1) (a := ⟨gs, rest.length * 5 + 2, none⟩) (b := ⟨gs, rest.length * 5 + 4, none⟩) (v := .slice A1' lf.length (c1 - 1)) (fun h => by injection h with _ h; omega)).trans (pw_cell_below hB1 q4)
 have t3 : W2.frozen? ⟨gs, rest.length * 5 + 3, none⟩ = false := by rw [hW2, World.frozen?_setCell]; exact (hB1.frozen hgs).trans (hfr 3)
 have t4 : W2.frozen? ⟨gs, rest.length * 5 + 4, none⟩ = false := by rw [hW2, World.frozen?_setCell]; exact (hB1.frozen hgs).trans (hfr 4)
 have HT := Aside0.mk (And.intro t3 t4)
 have HS := Aside0.mk (And.intro s3 s4)
 clear s3 s4 t3 t4
 have hS2 := Kd.H_back hH2 (x' := ⟨nm, nd, lf, out, need⟩) (Pr.fr_mk _ hview3 hov3) (fun k hk => hk)
 rw [Pr.set_last] at hS2
 have HS2 := Aside0.mk hS2
 clear hS2
 have z0 := (blk_cell hX2 0).trans rfl
 have z1 := (blk_cell hX2 1).trans rfl
 rw [hW2, hW1] at z0 z1
 rw [hW1] at q2a f2a
 have HW2 := Lib.hid hW2
 have HW1 := Lib.hid hW1
 have HX2 := Aside0.mk hX2
 have HH2 := Aside0.mk (Kd.H_widen hH2)
 have HV3 := Aside0.mk hview3
 have HO3 := Aside0.mk (Kd.R_mono hov3 (ok' := fun k => oki k ∨ True ∧ W2.heap.size ≤ k) (fun k hk => .inl hk))
 have HBB := Aside0.mk hBB
 have HSZ := Lib.hid (show w.heap.size ≤ W2.heap.size ∧ B ≤ W2.heap.size ∧ gs < W2.heap.size ∧ B ≤ gs ∧ gs < w.heap.size from by
  have h1 := hBB.size
  have h2 := hG2
  obtain ⟨_, _, _, h3, _⟩ := hG2
  have := hB1.size
  exact ⟨by omega, by omega, by omega, hgB, hgs⟩)
 have HOKI := Lib.hid hoki
 clear hS hM hcc hfr hoki htop hH hF hview hview2 hview3 hov hov3 hB1 hX1 hX2 hH2 hG2 hBB same2 ec hA1 hcl hl1 frame_sz f2 hW2 hW1 hgs hgB
 have hun := Try.underlying64
 have HN := Aside0.mk (hN.step HBB.out hg hmr hmk)
 obtain ⟨nr, Dr, Dk, n1, _⟩ := HN.out
 have x0 : W2.cell? ⟨g, 0, none⟩ = some (.map (some mr)) := (blk_cell n1 0).trans rfl
 have x1 : W2.cell? ⟨g, 1, none⟩ = some (.map (some mk)) := (blk_cell n1 1).trans rfl
 have HGE := Lib.hid (show g < B ∧ mr < B ∧ mk < B ∧ B ≤ w.heap.size from ⟨hg, hmr, hmk, hB⟩)
 clear hN n1 hg hmr hmk
 have HJ := Aside0.mk hJ
 have hl := Pr.raw_run HN.out p.f1 hkey
 rw [hraw] at hl
 have hl0 := hl 0
 clear hJ
 conv => arg 2; whnf
 unfold Pr.frm
 rw [h12, h13, hu0]
 go_wp2_with (fail)
 rw [← HW1.out, ← HW2.out]
 clear q2a f2a q0 q1 q2 q3 q4 y0 y1 z0 hsl
 have z1 := (blk_cell HX2.out 1).trans rfl
 go_quiet (fail)
 have CF := Aside0.mk (fun n => props_frame.calls (some ⟨gs, 0, none⟩) cs (rest.reverse ++ [(⟨nm, nd, lf, out, need⟩ : Pr.Fr)]) p.f1 w.heap.size (W2.drewN n) (Kd.S_reads' (Kd.S_drewN HS2.out n)).2.2 (by rw [List.length_append, List.length_reverse, List.length_singleton]; omega) ((blk_cell (blk_drewN HX2.out n) 1).trans rfl))
 have hll : (rest.reverse ++ [(⟨nm, nd, lf, out, need⟩ : Pr.Fr)]).length = rest.length + 1 := by simp
 rw [hll, hhit] at CF
 clear hll hhit
 go_wp2_with (first | (go_at_call 38; (with_reducible refine (CF.out _).mono ?_); rintro e w4 ⟨rfl, hb4⟩; have HB4 := Aside0.mk (below_step (pw_below_drewN (Below.refl W2.heap.size W2) _) hb4); have y1 := pw_cell_below HB4.out x1; have zz1 := pw_cell_below HB4.out z1; clear hb4))
 have HN4 := Aside0.mk (HN.out.step (HB4.out.mono HSZ.out.2.1) HGE.out.1 HGE.out.2.1 HGE.out.2.2.1)
 have hl4 := Pr.kn_run HN4.out p.f1 hkey 1
 rw [hkn] at hl4
 have hl4 : (Instr.lookup 62 (.map (some mk)) (.string p.f1) true).run Try.prog w4.drew = .ok (.tuple #[.agg #[.string q.1, .int .i64 q.2], .bool true]) w4.drew := hl4
 have y1a := fun o => pw_cell_below (below_alloc (Below.refl w4.heap.size w4) o) y1
 have zz1a := fun o => pw_cell_below (below_alloc (Below.refl w4.heap.size w4) o) zz1
 have hl4a : ∀ o, (Instr.lookup 62 (.map (some mk)) (.string p.f1) true).run Try.prog (w4.alloc o).drew = .ok (.tuple #[.agg #[.string q.1, .int .i64 q.2], .bool true]) (w4.alloc o).drew := fun o => by
  have h := Pr.kn_run (HN4.out.step ((below_alloc (Below.refl w4.heap.size w4) o).mono (Nat.le_trans HGE.out.2.2.2 (Nat.le_trans HSZ.out.1 HB4.out.size))) HGE.out.1 HGE.out.2.1 HGE.out.2.2.1) p.f1 hkey 1
  rw [hkn] at h
  exact h
 clear hkn
 obtain ⟨X, hX⟩ : ∃ X, X = Obj.cells #[.string q.1, .int .i64 q.2] 76 := ⟨_, rfl⟩
 have HXX := Lib.hid hX
 clear hX
 go_cut [23, 24] (fun v23 v24 wc => v23 = .pointer (some ⟨w4.heap.size, 0, none⟩) ∧ v24 = .bool true ∧ wc = (w4.alloc X).drew)
 case first =>
  go_region_law (fail)
  all_goals
   (try go_wp2_with (fail))
   go_meet
   case rel =>
    rw [HXX.out]
    exact ⟨rfl, rfl, rfl⟩
 obtain ⟨rfl, rfl, rfl⟩ := hcut
 have HBX := Aside0.mk (show Below B w (w4.alloc X).drew from below_drew ((HBB.out.trans (HB4.out.mono HSZ.out.2.1)).alloc (Nat.le_trans HSZ.out.2.1 HB4.out.size) X))
 have hXb : (w4.alloc X).drew.heap[w4.heap.size]? = some (.cells #[.string q.1, .int .i64 q.2] 76 (0, 0)) := by rw [HXX.out]; exact heap_alloc_new w4 _
 have d0 := (blk_cell hXb 0).trans rfl
 have d1 := (blk_cell hXb 1).trans rfl
 obtain ⟨w7, hw7⟩ : ∃ w7, w7 = (w4.alloc X).drew.drew := ⟨_, rfl⟩
 have hb27 : Below W2.heap.size W2 w7 := by rw [hw7]; exact below_drew (below_drew (HB4.out.alloc HB4.out.size X))
 have hb47 : Below w4.heap.size w4 w7 := by rw [hw7]; exact below_drew (below_drew (below_alloc (Below.refl _ _) X))
 have hw7s : w4.heap.size < w7.heap.size := by rw [hw7]; show w4.heap.size < (w4.heap.push X).size; simp
 have d0 : w7.cell? ⟨w4.heap.size, 0, none⟩ = some (.string q.1) := by rw [hw7]; exact (blk_cell hXb 0).trans rfl
 have d1 : w7.cell? ⟨w4.heap.size, 1, none⟩ = some (.int .i64 q.2) := by rw [hw7]; exact (blk_cell hXb 1).trans rfl
 have c3 := pw_cell_below hb27 HS.out.1
 have c4 := pw_cell_below hb27 HS.out.2
 have g3 := (hb27.frozen HSZ.out.2.2.1).trans HT.out.1
 have g4 := (hb27.frozen HSZ.out.2.2.1).trans HT.out.2
 have HH7 := Aside0.mk (Kd.H_below HH2.out hb27)
 have HO7 := Aside0.mk (Kd.R_below HO3.out hb27)
 have HV7 := Aside0.mk ((viewK 78 k78).M_mono (ok' := fun k => oki k ∨ True ∧ W2.heap.size ≤ k) (fun k hk => .inl hk) (Pr.view_at HV3.out (w1 := w7) (fun k _ hlt => hb27.block k hlt)))
 have H7 := Lib.hid (show W2.heap.size ≤ w7.heap.size ∧ B ≤ w7.heap.size ∧ gs < w7.heap.size ∧ out.length < 1000000 from ⟨hb27.size, Nat.le_trans HSZ.out.2.1 hb27.size, Nat.lt_of_lt_of_le HSZ.out.2.2.1 hb27.size, hout⟩)
 have H8 := Lib.hid (show gs ≠ w4.heap.size from fun h => by have h1 := HSZ.out.2.2.1; have h2 := HB4.out.size; omega)
 have H8o := Lib.hid (show ∀ k, (oki k ∨ True ∧ W2.heap.size ≤ k) → k ≠ gs from fun k hk => hk.elim (fun h => (HOKI.out k h).2) (fun h he => by have h1 := h.2; have h2 := HSZ.out.2.2.1; omega))
 have HBX7 := Aside0.mk (show Below B w w7 from HBB.out.trans (hb27.mono HSZ.out.2.1))
 have WF7 : ∀ (w8 : World), w7.grownBy w8 (Value.slice A2 out.length c2).ownBlock → w8.cell? ⟨gs, rest.length * 5 + 3, none⟩ = some (.slice A2 out.length c2) ∧ w8.cell? ⟨w4.heap.size, 0, none⟩ = some (.string q.1) ∧ w8.cell? ⟨gs, rest.length * 5 + 4, none⟩ = some (.int .i64 need) ∧ w8.cell? ⟨w4.heap.size, 1, none⟩ = some (.int .i64 q.2) ∧ w8.frozen? ⟨gs, rest.length * 5 + 3, none⟩ = false ∧ w8.frozen? ⟨gs, rest.length * 5 + 4, none⟩ = false := fun w8 gg => by
  have hlt : ∀ k, (Value.slice A2 out.length c2).ownBlock = some k → k < W2.heap.size := fun k hk => ((Kd.R_bound HO3.out).1 k hk).2.2.1
  have hne : some gs ≠ (Value.slice A2 out.length c2).ownBlock := fun he => H8o.out gs (HO3.out.1 gs he.symm) rfl
  have hne2 : some w4.heap.size ≠ (Value.slice A2 out.length c2).ownBlock := fun he => by have h1 := hlt _ he.symm; have h2 := HB4.out.size; omega
  exact ⟨(gg.cell_far ⟨gs, rest.length * 5 + 3, none⟩ H7.out.2.2.1 hne).trans c3, (gg.cell_far ⟨w4.heap.size, 0, none⟩ hw7s hne2).trans d0, (gg.cell_far ⟨gs, rest.length * 5 + 4, none⟩ H7.out.2.2.1 hne).trans c4, (gg.cell_far ⟨w4.heap.size, 1, none⟩ hw7s hne2).trans d1, (gg.frozen_far ⟨gs, rest.length * 5 + 3, none⟩ H7.out.2.2.1 hne).trans g3, (gg.frozen_far ⟨gs, rest.length * 5 + 4, none⟩ H7.out.2.2.1 hne).trans g4⟩
 have WF7 := Aside0.mk WF7
 have D0 := (blk_cell hXb 0).trans rfl
 have D1 := (blk_cell hXb 1).trans rfl
 have c3a := fun o => pw_cell_below (below_alloc (Below.refl w7.heap.size w7) o) c3
 have c4a := fun o => pw_cell_below (below_alloc (Below.refl w7.heap.size w7) o) c4
 have cka := fun o => pw_cell_below (below_alloc (Below.refl w7.heap.size w7) o) d0
 have d1a := fun o => pw_cell_below (below_alloc (Below.refl w7.heap.size w7) o) d1
 have HW7 := Lib.hid hw7
 have HMX := Lib.hid (show (need < wrap64 (q.2 + 1) → wrap64 (q.2 + 1) = mx need (q.2 + 1)) ∧ (wrap64 (q.2 + 1) ≤ need → need = mx need (q.2 + 1)) from by
  have hw : wrap64 (q.2 + 1) = q.2 + 1 := by clear d0 d1 c3 c4 c3a c4a cka d1a D0 D1 g3 g4 hl4 y1 zz1 hXb; unfold wrap64; omega
  rw [hw]
  unfold mx
  exact ⟨fun h => (if_pos h).symm, fun h => (if_neg (by omega)).symm⟩)
 clear y1 zz1 y1a zz1a hl4 hl4a hXb hb27 hb47 hw7s g3 g4 hw7
 go_wp2_with (fail)
 clear D0 D1
 refine start_ (n := 24) (S := fun w' => w'.cell? ⟨gs, rest.length * 5 + 3, none⟩ = some (.slice A2 out.length c2) ∧ w'.cell? ⟨w4.heap.size, 0, none⟩ = some (.string q.1) ∧ w'.cell? ⟨gs, rest.length * 5 + 4, none⟩ = some (.int .i64 need)) (ds := [20, 23]) #[false, false, false, false, false, false, false, false, false, false, false, false, false, false, false, false, false, false, false, false, false, false, false, false] (by kernel_rfl) rfl rfl (by rw [← HW7.out]; exact ⟨c3, d0, c4⟩) (fun hHeld => ?_)
 refine with_tabW Pr.tab36 Pr.bits36 (fun HT_ HW_ => ?_)
 rw [← HW7.out] at hHeld ⊢
 refine pz 0 (some 183) HT_ ?_
 refine pz 1 (some 184) HT_ ?_
 refine pz 2 (some 185) HT_ ?_
 refine pz 3 (some 186) HT_ ?_
 refine pz 4 (some 187) HT_ ?_
 refine pz 6 (some 189) HT_ ?_
 refine pz 10 (some 193) HT_ ?_
 refine pz 11 (some 194) HT_ ?_
 refine pz 12 (some 195) HT_ ?_
 refine pz 14 (some 197) HT_ ?_
 refine tm 5 (some 188) HT_ HW_ hHeld ?_
 refine tm 7 (some 190) HT_ HW_ hHeld ?_
 refine tm 13 (some 196) HT_ HW_ hHeld ?_
 refine Pr.fork (i := 15) (j := 8) (Ni := some 198) (Nj := some 191) (v := ?_) (a' := ?_) [8, 15] #[true, true, true, true, true, true, true, true, false, false, true, true, true, true, true, true, false, false, false, false, false, false, false, false] #[true, true, true, true, true, true, true, true, true, false, true, true, true, true, true, false, false, false, false, false, false, false, false, false] (Pr.ready_of HT_.out (by kernel_rfl)) (by decide) (by decide) rfl rfl rfl rfl rfl rfl (Or.inl ⟨by rfl, ?_⟩) ?_ ?_ (fun K hK => ?_)
 rotate_left 2
 ·rintro w' rfl
  go_simp
  with_reducible rfl
 ·simp only [Act.put, List.setIfInBounds_toArray, List.set_cons_zero, List.set_cons_succ, i64_w, i32_w]
  rfl
 ·skip
  refine pz 16 (some 199) HT_ ?_
  refine pz 17 (some 200) HT_ ?_
  refine on 8 (some 191) HT_ (fun K hK => ?_)
  refine value_ (w1 := ?_) (v := ?_) (by rfl) rfl ?_ ?_
  rotate_left 2
  ·go_simp
   constructor
   ·rfl
   ·rfl
  refine hK.out _ _ ⟨c3a _, cka _, c4a _⟩ (fun hHeld => ?_)
  clear hK K
  refine nz (some 191) ?_
  refine on 9 (some 192) HT_ (fun K hK => ?_)
  refine Kd.R_append_step Kd.string (w0 := w7) (W := w7) B (by rfl) (.tmp 188) (.tmp 191) 69 9 _ 16 rfl Try.underlying69 Pr.strInfo rfl (by decide) (by decide) (.slice A2 out.length c2) out q.1 [.string q.1] (fun k => oki k ∨ True ∧ W2.heap.size ≤ k) (fun _ => False) rfl rfl rfl (fun _ h => h.elim) (fun k hk => .inr ⟨trivial, Nat.le_trans H7.out.1 hk⟩) HO7.out (Below.refl _ _) H7.out.2.1 (by have := H7.out.2.2.2; omega) ?_
  intro v1 w8 rr bw gg at1
  have FA := WF7.out w8 gg
  obtain ⟨A5, c5, hv⟩ := Kd.R_slice rr
  have R1 := Aside0.mk rr; have BW := Aside0.mk bw; have GG := Aside0.mk gg
  rw [List.length_append, List.length_singleton] at hv
  subst hv
  obtain ⟨j3, jk, j4, jd, k3, k4⟩ := FA
  have js := fun v => (World.cell?_setCell_other (w := w8) (a := ⟨gs, rest.length * 5 + 3, none⟩) (b := ⟨w4.heap.size, 1, none⟩) (v := v) (fun h => by injection h with h _; exact H8.out h)).trans jd
  clear rr bw gg at1
  refine hK.out _ _ ⟨j3, jk, j4⟩ (fun hHeld => ?_)
  clear hK K
  refine nz (some 192) ?_
  refine pz 18 (some 201) HT_ ?_
  refine pz 19 (some 202) HT_ ?_
  refine last_ (i := 20) (N := none) #[true, true, true, true, true, true, true, true, true, true, true, true, true, true, true, true, true, true, true, true, true, false, false, false] rfl rfl (one_of HT_.out (by kernel_rfl)) (by decide) (fun K hK => ?_)
  refine skip_ (w1 := ?_) (by rfl) rfl ?_ ?_
  rotate_left
  ·go_simp
   rfl
  refine hK.out _ _ ?_
  clear hK K
  refine pz 21 (some 203) HT_ ?_
  refine pz 22 (some 204) HT_ ?_
  refine last_ (i := 23) (N := none) #[true, true, true, true, true, true, true, true, true, true, true, true, true, true, true, true, true, true, true, true, true, true, true, true] rfl rfl (one_of HT_.out (by kernel_rfl)) (by decide) (fun K hK => ?_)
  refine skip_ (w1 := ?_) (by rfl) rfl ?_ ?_
  rotate_left
  ·go_simp
   rfl
  refine hK.out _ _ ?_
  clear hK K
  refine done_ (done_of HT_.out (by kernel_rfl)) ?_
  try go_wp2
  all_goals
   refine wp_goto (And.intro rfl ?_)
   rw [Pr.frm_of _ rfl]
   have el : (out ++ [q.1]).length = out.length + 1 := by simp
   have r1 := R1.out
   (try rw [el] at r1)
   first
   | (have hv : wrap64 (q.2 + 1) = mx need (q.2 + 1) := HMX.out.1 (by assumption)
    have S := Pr.close34 (need2 := wrap64 (q.2 + 1)) HH7.out GG.out HO7.out HV7.out r1 H8o.out
    have hb5 := (BW.out.setCell (p := ⟨gs, rest.length * 5 + 3, none⟩) HSZ.out.2.2.2.1 (.slice A5 (out.length + 1) c5)).setCell (p := ⟨gs, rest.length * 5 + 4, none⟩) HSZ.out.2.2.2.1 (.int .i64 (wrap64 (q.2 + 1)))
    exact HJ.out _ _ hu0.symm h13.symm ⟨_, rfl, by rw [← hv]; exact S⟩ (HBX7.out.trans hb5))
   | (have hv : need = mx need (q.2 + 1) := HMX.out.2 (by assumption)
    have S := Pr.close34 (need2 := need) HH7.out GG.out HO7.out HV7.out r1 H8o.out
    have hb5 := (BW.out.setCell (p := ⟨gs, rest.length * 5 + 3, none⟩) HSZ.out.2.2.2.1 (.slice A5 (out.length + 1) c5)).setCell (p := ⟨gs, rest.length * 5 + 4, none⟩) HSZ.out.2.2.2.1 (.int .i64 (need))
    exact HJ.out _ _ hu0.symm h13.symm ⟨_, rfl, by rw [← hv]; exact S⟩ (HBX7.out.trans hb5))
 ·skip
  refine value_ (w1 := ?_) (v := ?_) (by rfl) rfl ?_ ?_
  rotate_left 2
  ·go_simp
   constructor
   ·rfl
   ·rfl
  refine hK.out _ _ (fun _ _ => ⟨c3a _, cka _, c4a _⟩) ?_
  clear hK K
  refine nz (some 191) ?_
  refine Pr.fork (i := 15) (j := 9) (Ni := some 198) (Nj := some 192) (v := ?_) (a' := ?_) [9, 15] #[true, true, true, true, true, true, true, true, true, false, true, true, true, true, true, true, false, false, false, false, false, false, false, false] #[true, true, true, true, true, true, true, true, true, true, true, true, true, true, true, false, false, false, false, false, false, false, false, false] (Pr.ready_of HT_.out (by kernel_rfl)) (by decide) (by decide) rfl rfl rfl rfl rfl rfl (Or.inl ⟨by rfl, ?_⟩) ?_ ?_ (fun K hK => ?_)
  rotate_left 2
  ·rintro w' rfl
   go_simp
   with_reducible rfl
  ·simp only [Act.put, List.setIfInBounds_toArray, List.set_cons_zero, List.set_cons_succ, i64_w, i32_w]
   rfl
  ·skip
   refine pz 16 (some 199) HT_ ?_
   refine pz 17 (some 200) HT_ ?_
   refine on 9 (some 192) HT_ (fun K hK => ?_)
   refine Kd.R_append_step Kd.string (w0 := w7) (W := w7) B (by rfl) (.tmp 188) (.tmp 191) 69 9 _ 16 rfl Try.underlying69 Pr.strInfo rfl (by decide) (by decide) (.slice A2 out.length c2) out q.1 [.string q.1] (fun k => oki k ∨ True ∧ W2.heap.size ≤ k) (fun _ => False) rfl rfl rfl (fun _ h => h.elim) (fun k hk => .inr ⟨trivial, Nat.le_trans H7.out.1 hk⟩) HO7.out (Below.refl _ _) H7.out.2.1 (by have := H7.out.2.2.2; omega) ?_
   intro v1 w8 rr bw gg at1
   have FA := WF7.out w8 gg
   obtain ⟨A5, c5, hv⟩ := Kd.R_slice rr
   have R1 := Aside0.mk rr; have BW := Aside0.mk bw; have GG := Aside0.mk gg
   rw [List.length_append, List.length_singleton] at hv
   subst hv
   obtain ⟨j3, jk, j4, jd, k3, k4⟩ := FA
   have js := fun v => (World.cell?_setCell_other (w := w8) (a := ⟨gs, rest.length * 5 + 3, none⟩) (b := ⟨w4.heap.size, 1, none⟩) (v := v) (fun h => by injection h with h _; exact H8.out h)).trans jd
   clear rr bw gg at1
   refine hK.out _ _ ⟨j3, jk, j4⟩ (fun hHeld => ?_)
   clear hK K
   refine nz (some 192) ?_
   refine pz 18 (some 201) HT_ ?_
   refine pz 19 (some 202) HT_ ?_
   refine last_ (i := 20) (N := none) #[true, true, true, true, true, true, true, true, true, true, true, true, true, true, true, true, true, true, true, true, true, false, false, false] rfl rfl (one_of HT_.out (by kernel_rfl)) (by decide) (fun K hK => ?_)
   refine skip_ (w1 := ?_) (by rfl) rfl ?_ ?_
   rotate_left
   ·go_simp
    rfl
   refine hK.out _ _ ?_
   clear hK K
   refine pz 21 (some 203) HT_ ?_
   refine pz 22 (some 204) HT_ ?_
   refine last_ (i := 23) (N := none) #[true, true, true, true, true, true, true, true, true, true, true, true, true, true, true, true, true, true, true, true, true, true, true, true] rfl rfl (one_of HT_.out (by kernel_rfl)) (by decide) (fun K hK => ?_)
   refine skip_ (w1 := ?_) (by rfl) rfl ?_ ?_
   rotate_left
   ·go_simp
    rfl
   refine hK.out _ _ ?_
   clear hK K
   refine done_ (done_of HT_.out (by kernel_rfl)) ?_
   try go_wp2
   all_goals
    refine wp_goto (And.intro rfl ?_)
    rw [Pr.frm_of _ rfl]
    have el : (out ++ [q.1]).length = out.length + 1 := by simp
    have r1 := R1.out
    (try rw [el] at r1)
    first
    | (have hv : wrap64 (q.2 + 1) = mx need (q.2 + 1) := HMX.out.1 (by assumption)
     have S := Pr.close34 (need2 := wrap64 (q.2 + 1)) HH7.out GG.out HO7.out HV7.out r1 H8o.out
     have hb5 := (BW.out.setCell (p := ⟨gs, rest.length * 5 + 3, none⟩) HSZ.out.2.2.2.1 (.slice A5 (out.length + 1) c5)).setCell (p := ⟨gs, rest.length * 5 + 4, none⟩) HSZ.out.2.2.2.1 (.int .i64 (wrap64 (q.2 + 1)))
     exact HJ.out _ _ hu0.symm h13.symm ⟨_, rfl, by rw [← hv]; exact S⟩ (HBX7.out.trans hb5))
    | (have hv : need = mx need (q.2 + 1) := HMX.out.2 (by assumption)
     have S := Pr.close34 (need2 := need) HH7.out GG.out HO7.out HV7.out r1 H8o.out
     have hb5 := (BW.out.setCell (p := ⟨gs, rest.length * 5 + 3, none⟩) HSZ.out.2.2.2.1 (.slice A5 (out.length + 1) c5)).setCell (p := ⟨gs, rest.length * 5 + 4, none⟩) HSZ.out.2.2.2.1 (.int .i64 (need))
     exact HJ.out _ _ hu0.symm h13.symm ⟨_, rfl, by rw [← hv]; exact S⟩ (HBX7.out.trans hb5))
  ·skip
   refine Kd.R_append_step Kd.string (w0 := w7) (W := w7) B (by rfl) (.tmp 188) (.tmp 191) 69 9 _ 16 rfl Try.underlying69 Pr.strInfo rfl (by decide) (by decide) (.slice A2 out.length c2) out q.1 [.string q.1] (fun k => oki k ∨ True ∧ W2.heap.size ≤ k) (fun _ => False) rfl rfl rfl (fun _ h => h.elim) (fun k hk => .inr ⟨trivial, Nat.le_trans H7.out.1 hk⟩) HO7.out (Below.refl _ _) H7.out.2.1 (by have := H7.out.2.2.2; omega) ?_
   intro v1 w8 rr bw gg at1
   have FA := WF7.out w8 gg
   obtain ⟨A5, c5, hv⟩ := Kd.R_slice rr
   have R1 := Aside0.mk rr; have BW := Aside0.mk bw; have GG := Aside0.mk gg
   rw [List.length_append, List.length_singleton] at hv
   subst hv
   obtain ⟨j3, jk, j4, jd, k3, k4⟩ := FA
   have js := fun v => (World.cell?_setCell_other (w := w8) (a := ⟨gs, rest.length * 5 + 3, none⟩) (b := ⟨w4.heap.size, 1, none⟩) (v := v) (fun h => by injection h with h _; exact H8.out h)).trans jd
   clear rr bw gg at1
   refine hK.out _ _ (fun _ _ => ⟨j3, jk, j4⟩) ?_
   clear hK K
   refine nz (some 192) ?_
   refine pz 18 (some 201) HT_ ?_
   refine pz 19 (some 202) HT_ ?_
   refine Pr.fork (i := 15) (j := 20) (Ni := some 198) (Nj := none) (v := ?_) (a' := ?_) [15, 20] #[true, true, true, true, true, true, true, true, true, true, true, true, true, true, true, true, false, false, true, true, false, false, false, false] #[true, true, true, true, true, true, true, true, true, true, true, true, true, true, true, false, false, false, true, true, true, false, false, false] (Pr.ready_of HT_.out (by kernel_rfl)) (by decide) (by decide) rfl rfl rfl rfl rfl rfl (Or.inl ⟨by rfl, ?_⟩) ?_ ?_ (fun K hK => ?_)
   rotate_left 2
   ·rintro w' rfl
    go_simp
    with_reducible rfl
   ·simp only [Act.put, List.setIfInBounds_toArray, List.set_cons_zero, List.set_cons_succ, i64_w, i32_w]
    rfl
   ·skip
    refine pz 16 (some 199) HT_ ?_
    refine pz 17 (some 200) HT_ ?_
    refine last_ (i := 20) (N := none) #[true, true, true, true, true, true, true, true, true, true, true, true, true, true, true, true, true, true, true, true, true, false, false, false] rfl rfl (one_of HT_.out (by kernel_rfl)) (by decide) (fun K hK => ?_)
    refine skip_ (w1 := ?_) (by rfl) rfl ?_ ?_
    rotate_left
    ·go_simp
     rfl
    refine hK.out _ _ ?_
    clear hK K
    refine pz 21 (some 203) HT_ ?_
    refine pz 22 (some 204) HT_ ?_
    refine last_ (i := 23) (N := none) #[true, true, true, true, true, true, true, true, true, true, true, true, true, true, true, true, true, true, true, true, true, true, true, true] rfl rfl (one_of HT_.out (by kernel_rfl)) (by decide) (fun K hK => ?_)
    refine skip_ (w1 := ?_) (by rfl) rfl ?_ ?_
    rotate_left
    ·go_simp
     rfl
    refine hK.out _ _ ?_
    clear hK K
    refine done_ (done_of HT_.out (by kernel_rfl)) ?_
    try go_wp2
    all_goals
     refine wp_goto (And.intro rfl ?_)
     rw [Pr.frm_of _ rfl]
     have el : (out ++ [q.1]).length = out.length + 1 := by simp
     have r1 := R1.out
     (try rw [el] at r1)
     first
     | (have hv : wrap64 (q.2 + 1) = mx need (q.2 + 1) := HMX.out.1 (by assumption)
      have S := Pr.close34 (need2 := wrap64 (q.2 + 1)) HH7.out GG.out HO7.out HV7.out r1 H8o.out
      have hb5 := (BW.out.setCell (p := ⟨gs, rest.length * 5 + 3, none⟩) HSZ.out.2.2.2.1 (.slice A5 (out.length + 1) c5)).setCell (p := ⟨gs, rest.length * 5 + 4, none⟩) HSZ.out.2.2.2.1 (.int .i64 (wrap64 (q.2 + 1)))
      exact HJ.out _ _ hu0.symm h13.symm ⟨_, rfl, by rw [← hv]; exact S⟩ (HBX7.out.trans hb5))
     | (have hv : need = mx need (q.2 + 1) := HMX.out.2 (by assumption)
      have S := Pr.close34 (need2 := need) HH7.out GG.out HO7.out HV7.out r1 H8o.out
      have hb5 := (BW.out.setCell (p := ⟨gs, rest.length * 5 + 3, none⟩) HSZ.out.2.2.2.1 (.slice A5 (out.length + 1) c5)).setCell (p := ⟨gs, rest.length * 5 + 4, none⟩) HSZ.out.2.2.2.1 (.int .i64 (need))
      exact HJ.out _ _ hu0.symm h13.symm ⟨_, rfl, by rw [← hv]; exact S⟩ (HBX7.out.trans hb5))
   ·skip
    refine skip_ (w1 := ?_) (by rfl) rfl ?_ ?_
    rotate_left
    ·go_simp
     rfl
    refine hK.out _ _ (fun h => absurd (show (20 : Nat) ∈ [20, 23] by decide) h) ?_
    clear hK K
    refine Pr.solo (i := 15) (Ni := some 198) (v := ?_) (a' := ?_) #[true, true, true, true, true, true, true, true, true, true, true, true, true, true, true, true, false, false, true, true, true, false, false, false] (Pr.ready_of HT_.out (by kernel_rfl)) rfl rfl rfl (Or.inl ⟨by rfl, ?_⟩) ?_ ?_
    rotate_left 2
    ·rintro w' rfl
     go_simp
     with_reducible rfl
    ·simp only [Act.put, List.setIfInBounds_toArray, List.set_cons_zero, List.set_cons_succ, i64_w, i32_w]
     rfl
    refine pz 16 (some 199) HT_ ?_
    refine pz 17 (some 200) HT_ ?_
    refine pz 21 (some 203) HT_ ?_
    refine pz 22 (some 204) HT_ ?_
    refine last_ (i := 23) (N := none) #[true, true, true, true, true, true, true, true, true, true, true, true, true, true, true, true, true, true, true, true, true, true, true, true] rfl rfl (one_of HT_.out (by kernel_rfl)) (by decide) (fun K hK => ?_)
    refine skip_ (w1 := ?_) (by rfl) rfl ?_ ?_
    rotate_left
    ·go_simp
     rfl
    refine hK.out _ _ ?_
    clear hK K
    refine done_ (done_of HT_.out (by kernel_rfl)) ?_
    try go_wp2
    all_goals
     refine wp_goto (And.intro rfl ?_)
     rw [Pr.frm_of _ rfl]
     have el : (out ++ [q.1]).length = out.length + 1 := by simp
     have r1 := R1.out
     (try rw [el] at r1)
     first
     | (have hv : wrap64 (q.2 + 1) = mx need (q.2 + 1) := HMX.out.1 (by assumption)
      have S := Pr.close34 (need2 := wrap64 (q.2 + 1)) HH7.out GG.out HO7.out HV7.out r1 H8o.out
      have hb5 := (BW.out.setCell (p := ⟨gs, rest.length * 5 + 3, none⟩) HSZ.out.2.2.2.1 (.slice A5 (out.length + 1) c5)).setCell (p := ⟨gs, rest.length * 5 + 4, none⟩) HSZ.out.2.2.2.1 (.int .i64 (wrap64 (q.2 + 1)))
      exact HJ.out _ _ hu0.symm h13.symm ⟨_, rfl, by rw [← hv]; exact S⟩ (HBX7.out.trans hb5))
     | (have hv : need = mx need (q.2 + 1) := HMX.out.2 (by assumption)
      have S := Pr.close34 (need2 := need) HH7.out GG.out HO7.out HV7.out r1 H8o.out
      have hb5 := (BW.out.setCell (p := ⟨gs, rest.length * 5 + 3, none⟩) HSZ.out.2.2.2.1 (.slice A5 (out.length + 1) c5)).setCell (p := ⟨gs, rest.length * 5 + 4, none⟩) HSZ.out.2.2.2.1 (.int .i64 (need))
      exact HJ.out _ _ hu0.symm h13.symm ⟨_, rfl, by rw [← hv]; exact S⟩ (HBX7.out.trans hb5))
def Pr.go (k : Nat) (raw : ByteArray → Option ByteArray) (deep : Int) : Nat → Nat → (ByteArray → Option (ByteArray × Int)) → List Pr.Fr → Pr.Fr → Option (ByteArray × Int × Nat × (ByteArray → Option (ByteArray × Int)))
 | 0, _, _, _, _ => none
 | f + 1, cnt, kn, rest, t =>
  if rest.length ≤ 20 ∧ t.out.length < 1000000 ∧ t.left.length ≤ 1000000000000 then
   match t.left with
   | [] => match props_done.f k t.out with
    | none => none
    | some r => if r.2 ≠ 0 then some (⟨#[]⟩, r.2, cnt, kn) else match rest with
     | [] => some (r.1, 0, cnt, kn)
     | up :: rest' => if cnt < 1000000 ∧ t.nm.size ≤ maxLen ∧ (-1000000 ≤ t.need ∧ t.need ≤ 1000000) ∧ up.out.length < 1000000 then Pr.go k raw deep f (cnt + 1) (Pr.upd kn t.nm (r.1, t.need)) rest' ⟨up.nm, up.nd, up.left, up.out ++ [r.1], mx up.need (t.need + 1)⟩ else none
   | p :: lf =>
    if p.f0 = false then Pr.go k raw deep f cnt kn rest ⟨t.nm, t.nd, lf, t.out ++ [p.f1], t.need⟩
    else if p.f1.size ≤ maxLen then match raw p.f1 with
     | none => some (⟨#[]⟩, 17, cnt, kn)
     | some x => if (rest.reverse ++ [(⟨t.nm, t.nd, lf, t.out, t.need⟩ : Pr.Fr)]).any (Pr.hit p.f1) = true then some (⟨#[]⟩, 18, cnt, kn)
      else if 20 ≤ deep + (rest.length : Int) then some (⟨#[]⟩, 7, cnt, kn)
      else match kn p.f1 with
       | some q => if -1000000 ≤ q.2 ∧ q.2 ≤ 1000000 then if 20 < deep + (rest.length : Int) + 1 + q.2 then some (⟨#[]⟩, 7, cnt, kn) else Pr.go k raw deep f cnt kn rest ⟨t.nm, t.nd, lf, t.out ++ [q.1], mx t.need (q.2 + 1)⟩ else none
       | none => match expr_Split.f k x with
        | none => none
        | some r => if r.2 ≠ 0 then some (⟨#[]⟩, r.2, cnt, kn) else Pr.go k raw deep f cnt kn (⟨t.nm, t.nd, lf, t.out, t.need⟩ :: rest) ⟨p.f1, true, r.1, [], 0⟩
    else none
  else none
set_option maxRecDepth 1000000 in
theorem props_Names_Value.round (u : Nat → Value) (B g mr mk k n cnt : Nat) (raw : ByteArray → Option ByteArray) (kn : ByteArray → Option (ByteArray × Int)) (rest : List Pr.Fr) (t : Pr.Fr) (deep : Int) (w : World) (J : Act → World → Prop) (POST : Ending → World → Prop) (r1 : ByteArray) (r2 : Int) (cnt' : Nat) (kn' : ByteArray → Option (ByteArray × Int))
 (h13 : u 13 = .int .i64 deep) (hdeep0 : 0 ≤ deep) (hdeep1 : deep ≤ 1) (hu0 : u 0 = .pointer (some ⟨g, 0, none⟩)) (h12 : ∃ v, u 12 = v ∧ Kd.S Pr.frK 71 w B (fun _ => True) v (rest.reverse ++ [t]))
 (hN : Pr.NAt w g mr mk raw cnt kn) (hg : g < B) (hmr : mr < B) (hmk : mk < B) (hB : B ≤ w.heap.size) (hG : Glob w) (h : Pr.go k raw deep (n + 1) cnt kn rest t = some (r1, r2, cnt', kn'))
 (hP : ∀ w' : World, Pr.NAt w' g mr mk raw cnt' kn' → Pr.But B mk w w' → POST (.returned (.tuple #[.string r1, .int .i64 r2])) w')
 (hJ : ∀ (u' : Nat → Value) (w' : World) (cnt2 : Nat) (kn2 : ByteArray → Option (ByteArray × Int)) (rest2 : List Pr.Fr) (t2 : Pr.Fr), u' 0 = u 0 → u' 13 = u 13 → (∃ v, u' 12 = v ∧ Kd.S Pr.frK 71 w' B (fun _ => True) v (rest2.reverse ++ [t2])) → Pr.NAt w' g mr mk raw cnt2 kn2 → Pr.But B mk w w' → Pr.go k raw deep n cnt2 kn2 rest2 t2 = some (r1, r2, cnt', kn') → J (Pr.frm u') w') :
 Code.wp Try.prog Pr.rest (Exit.jump 0 J (bodyPost Try.prog Try.f25 POST)) (Pr.frm u) w := by
 obtain ⟨v, h12, hS⟩ := h12
 obtain ⟨gs, cs, rfl, hgs, _⟩ := Kd.S_form hS (by simp)
 have hll : (rest.reverse ++ [t]).length = rest.length + 1 := by simp
 rw [hll] at hS h12
 obtain ⟨nm, nd, left, out, need⟩ := t
 have below : ∀ w', Below B w w' → Pr.NAt w' g mr mk raw cnt kn := fun w' hb => hN.step hb hg hmr hmk
 have but : ∀ w', Below B w w' → Pr.But B mk w w' := fun w' hb => Pr.But.below hb
 unfold Pr.go at h
 by_cases hq : rest.length ≤ 20 ∧ out.length < 1000000 ∧ left.length ≤ 1000000000000
 case neg => rw [if_neg hq] at h; cases h
 rw [if_pos hq] at h
 obtain ⟨hlen, hout, hlf⟩ := hq
 cases left with
 | nil =>
  dsimp only at h
  cases hd : props_done.f k out with
  | none => rw [hd] at h; cases h
  | some r =>
   obtain ⟨v1, v2⟩ := r
   rw [hd] at h
   dsimp only at h
   by_cases hr : v2 ≠ 0
   ·rw [if_pos hr] at h
    cases h
    refine props_Names_Value.fin u B gs cs k rest nm nd out need _ _ w J POST h12 hS hlen hG hd (.inl hr) (fun w' hb => ?_)
    rw [if_neg hr]
    exact hP w' (below w' (hb.mono hB)) (but w' (hb.mono hB))
   rw [if_neg hr] at h
   have hr : v2 = 0 := Classical.not_not.1 hr
   cases rest with
   | nil =>
    cases h
    refine props_Names_Value.fin u B gs cs k [] nm nd out need _ _ w J POST h12 hS hlen hG hd (.inr ⟨hr, rfl⟩) (fun w' hb => ?_)
    rw [if_pos hr, hr]
    exact hP w' (below w' (hb.mono hB)) (but w' (hb.mono hB))
   | cons up rest' =>
    dsimp only at h
    by_cases hq : cnt < 1000000 ∧ nm.size ≤ maxLen ∧ (-1000000 ≤ need ∧ need ≤ 1000000) ∧ up.out.length < 1000000
    case neg => rw [if_neg hq] at h; cases h
    rw [if_pos hq] at h
    exact props_Names_Value.pop u B gs cs k g mr mk cnt raw kn (up :: rest') rest' up nm nd out need v2 v1 w J POST hu0 h12 hS rfl hN hq.1 hq.2.1 hq.2.2.1 hq.2.2.2 hg hmr hmk hlen hG hB hd hr (fun u' w' e0 e13 hS' hN' hb => hJ u' w' _ _ _ _ e0 e13 hS' hN' hb h)
 | cons p lf =>
  have hlf : lf.length ≤ 1000000000000 := by simp at hlf; omega
  dsimp only at h
  by_cases hp : p.f0 = false
  ·rw [if_pos hp] at h
   exact props_Names_Value.text u B gs cs rest nm nd p lf out need w J POST h12 hS hlen hout hp hB hlf (fun u' w' e0 e13 hS' hb => hJ u' w' _ _ _ _ e0 e13 hS' (below w' hb) (but w' hb) h)
  rw [if_neg hp] at h
  have hp : p.f0 = true := by simpa using hp
  by_cases hkey : p.f1.size ≤ maxLen
  case neg => rw [if_neg hkey] at h; cases h
  rw [if_pos hkey] at h
  cases hraw : raw p.f1 with
  | none =>
   rw [hraw] at h
   cases h
   exact props_Names_Value.noname u B gs cs g mr mk cnt raw kn rest nm nd p lf out need deep w J POST h13 hdeep0 hdeep1 hu0 h12 hS hN hkey hg hmr hmk hlen hp hB hlf hraw (fun w' hb => hP w' (below w' hb) (but w' hb))
  | some x =>
   rw [hraw] at h
   dsimp only at h
   by_cases hhit : (rest.reverse ++ [(⟨nm, nd, lf, out, need⟩ : Pr.Fr)]).any (Pr.hit p.f1) = true
   ·rw [if_pos hhit] at h
    cases h
    exact props_Names_Value.loop u B gs cs g mr mk cnt raw kn rest nm nd p lf out need deep w J POST h13 hdeep0 hdeep1 hu0 h12 hS hN hkey hg hmr hmk hlen hp hB hlf x hraw hG hhit (fun w' hb => hP w' (below w' hb) (but w' hb))
   rw [if_neg hhit] at h
   have hhit : (rest.reverse ++ [(⟨nm, nd, lf, out, need⟩ : Pr.Fr)]).any (Pr.hit p.f1) = false := by simpa using hhit
   by_cases hat : 20 ≤ deep + (rest.length : Int)
   ·rw [if_pos hat] at h
    cases h
    exact props_Names_Value.deep u B gs cs g mr mk cnt raw kn rest nm nd p lf out need deep w J POST h13 hdeep0 hdeep1 hu0 h12 hS hN hkey hg hmr hmk hlen hp hB hlf x hraw hG hhit hat (fun w' hb => hP w' (below w' hb) (but w' hb))
   rw [if_neg hat] at h
   have hat : deep + (rest.length : Int) < 20 := by omega
   cases hkn : kn p.f1 with
   | some q =>
    rw [hkn] at h
    dsimp only at h
    by_cases hq : -1000000 ≤ q.2 ∧ q.2 ≤ 1000000
    case neg => rw [if_neg hq] at h; cases h
    rw [if_pos hq] at h
    by_cases hat2 : 20 < deep + (rest.length : Int) + 1 + q.2
    ·rw [if_pos hat2] at h
     cases h
     exact props_Names_Value.kdeep u B gs cs g mr mk cnt raw kn rest nm nd p lf out need deep w J POST h13 hdeep0 hdeep1 hu0 h12 hS hN hkey hg hmr hmk hlen hp hB hlf x hraw hG hhit hat q hkn hq.1 hq.2 hat2 (fun w' hb => hP w' (below w' hb) (but w' hb))
    ·rw [if_neg hat2] at h
     exact props_Names_Value.known u B gs cs g mr mk cnt raw kn rest nm nd p lf out need deep w J POST h13 hdeep0 hdeep1 hu0 h12 hS hN hkey hg hmr hmk hlen hp hB hlf x hraw hG hhit hat q hkn hq.1 hq.2 (by omega) hout (fun u' w' e0 e13 hS' hb => hJ u' w' _ _ _ _ e0 e13 hS' (below w' hb) (but w' hb) h)
   | none =>
    rw [hkn] at h
    dsimp only at h
    cases hsp : expr_Split.f k x with
    | none => rw [hsp] at h; cases h
    | some r =>
     obtain ⟨l, v2⟩ := r
     rw [hsp] at h
     dsimp only at h
     by_cases hr : v2 ≠ 0
     ·rw [if_pos hr] at h
      cases h
      exact props_Names_Value.spliterr u B gs cs k g mr mk cnt raw kn rest nm nd p lf out need deep w J POST h13 hdeep0 hdeep1 hu0 h12 hS hN hkey hg hmr hmk hlen hp hB hlf x hraw hG hhit hat hkn l _ hsp hr (fun w' hb => hP w' (below w' hb) (but w' hb))
     ·rw [if_neg hr] at h
      have hr : v2 = 0 := Classical.not_not.1 hr
      refine props_Names_Value.push u B gs cs k g mr mk cnt raw kn rest nm nd p lf out need deep w J POST h13 hdeep0 hdeep1 hu0 h12 hS hN hkey hg hmr hmk hlen hp hB hlf x hraw hG hhit hat hkn l v2 hsp hr (fun u' w' e0 e13 hS' hb => hJ u' w' _ _ (⟨nm, nd, lf, out, need⟩ :: rest) _ e0 e13 ?_ (below w' hb) (but w' hb) h)
      rw [List.reverse_cons]
      exact hS'
theorem Pr.M_one {w : World} {B : Nat} {v : Value} (s : ByteArray) {l : List S78} (h : Kd.R k78 78 w B (fun _ => True) v l) (b : Bool) : Pr.frK.M w B (fun _ => True) ⟨s, b, l, [], 0⟩ [.string s, .bool b, v, .slice none 0 0, .int .i64 0] :=
 Pr.fr_mk ⟨s, b, l, [], 0⟩ (view_of_R (by rfl) h) (Kd.R_nil _ _ _ _ _)
theorem Pr.S_lit1 {W : World} {B : Nat} {x : Pr.Fr} {c : List Value} (hM : Pr.frK.M W B (fun _ => True) x c) (hl : c.length = 5) (hB : B ≤ W.heap.size) :
 Kd.S Pr.frK 71 (W.alloc (.cells c.toArray 71)) B (fun _ => True) (.slice (some ⟨W.heap.size, 0, none⟩) 1 1) [x] := by
 obtain ⟨f, hr⟩ := Kd.reps_tag (d := Pr.frK) (w := W) (base := B) (ok := fun _ => True) (xs := [x]) (inner := c) (fun j _ => j = 0) (by intro i j k h1 h2; omega) (fun _ _ _ => trivial) (by rw [hl]; rfl) (by
  intro j y hj
  cases j with
  | zero =>
   simp at hj
   subst hj
   have e : (c.drop (0 * Pr.frK.sz)).take Pr.frK.sz = c := by rw [Nat.zero_mul, List.drop_zero, List.take_of_length_le (by rw [hl]; exact Nat.le_refl _)]
   rw [e]
   exact Pr.frK.M_mono (fun _ _ => rfl) hM
  | succ j => simp at hj)
 refine ⟨f, fun k hk => trivial, c, ?_, ?_⟩
 ·have h2 := World.ownsRow_lit (base := B) (e := 71) (size := (Kd.tag f Pr.frK).sz) W c.toArray 1 hB (by decide) (by show c.toArray.size = 1 * 5; simpa using hl)
  simpa using h2
 ·refine hr.imp_ (fun p c hp => (Kd.tag f Pr.frK).M_mono (fun k hk => ⟨trivial, fun he => ?_⟩) (Kd.M_below ((Kd.tag f Pr.frK).M_bound hp) (below_alloc (Below.refl _ _) _)))
  have h3 : k = W.heap.size := by simpa [Value.ownBlock] using he
  have := hk.2.2.1
  omega
theorem Pr.wp_rest {P : Program} {Q : Exit → Act → World → Prop} {a : Act} {w : World} {c : Code} (e : c = Pr.rest) (h : LoopAt P 0 Pr.rest Q a w) : c.wp P (Exit.jump 0 (LoopAt P 0 Pr.rest Q) Q) a w := by subst e; exact wp_at_label h
theorem Pr.Glob_but {B mk : Nat} {w w' : World} (h : Glob w) (hb : Pr.But B mk w w') (hB : 0 < B) (hmk : mk ≠ 0) : Glob w' := by
 obtain ⟨m, hm⟩ := h
 refine ⟨m, ?_⟩
 have e := hb.block 0 hB (Ne.symm hmk)
 unfold World.cell? at hm ⊢
 simp only [e]
 exact hm
set_option maxRecDepth 1000000 in
theorem props_Names_Value.loopAt (u : Nat → Value) (B g mr mk k n cnt : Nat) (raw : ByteArray → Option ByteArray) (kn : ByteArray → Option (ByteArray × Int)) (rest : List Pr.Fr) (t : Pr.Fr) (deep : Int) (wb w : World) (POST : Ending → World → Prop) (r1 : ByteArray) (r2 : Int) (cnt' : Nat) (kn' : ByteArray → Option (ByteArray × Int))
 (h13 : u 13 = .int .i64 deep) (hdeep0 : 0 ≤ deep) (hdeep1 : deep ≤ 1) (hu0 : u 0 = .pointer (some ⟨g, 0, none⟩)) (h12 : ∃ v, u 12 = v ∧ Kd.S Pr.frK 71 w B (fun _ => True) v (rest.reverse ++ [t]))
 (hN : Pr.NAt w g mr mk raw cnt kn) (hg : g < B) (hmr : mr < B) (hmk : mk < B) (hB : B ≤ wb.heap.size) (hG : Glob wb) (hmk0 : mk ≠ 0) (hb : Pr.But B mk wb w) (h : Pr.go k raw deep n cnt kn rest t = some (r1, r2, cnt', kn'))
 (hP : ∀ w' : World, Pr.NAt w' g mr mk raw cnt' kn' → Pr.But B mk wb w' → POST (.returned (.tuple #[.string r1, .int .i64 r2])) w') :
 LoopAt Try.prog 0 Pr.rest (bodyPost Try.prog Try.f25 POST) (Pr.frm u) w := by
 refine ⟨fun n a w => ∃ (u : Nat → Value) (cnt : Nat) (kn : ByteArray → Option (ByteArray × Int)) (rest : List Pr.Fr) (t : Pr.Fr), a = Pr.frm u ∧ u 0 = .pointer (some ⟨g, 0, none⟩) ∧ u 13 = .int .i64 deep ∧ (∃ v, u 12 = v ∧ Kd.S Pr.frK 71 w B (fun _ => True) v (rest.reverse ++ [t])) ∧ Pr.NAt w g mr mk raw cnt kn ∧ Pr.But B mk wb w ∧ Pr.go k raw deep n cnt kn rest t = some (r1, r2, cnt', kn'), n, ⟨u, cnt, kn, rest, t, rfl, hu0, h13, h12, hN, hb, h⟩, ?_⟩
 intro n a w hI
 obtain ⟨u, cnt, kn, rest, t, rfl, hu0, h13, h12, hN, hb, h⟩ := hI
 cases n with
 | zero => unfold Pr.go at h; cases h
 | succ n =>
  exact props_Names_Value.round u B g mr mk k n cnt raw kn rest t deep w _ POST r1 r2 cnt' kn' h13 hdeep0 hdeep1 hu0 h12 hN hg hmr hmk (Nat.le_trans hB hb.size) (Pr.Glob_but hG hb (Nat.lt_of_le_of_lt (Nat.zero_le _) hg) hmk0) h (fun w' hN' hb' => hP w' hN' (hb.trans hb'))
   (fun u' w' cnt2 kn2 rest2 t2 e0 e13 hS hN' hb' hg' => ⟨n, Nat.lt_succ_self n, u', cnt2, kn2, rest2, t2, rfl, e0.trans hu0, e13.trans h13, hS, hN', hb.trans hb', hg'⟩)
def props_Names_Value.f (k : Nat) (raw : ByteArray → Option ByteArray) (cnt : Nat) (kn : ByteArray → Option (ByteArray × Int)) (s within : ByteArray) (named : Bool) : Option (ByteArray × Int × Nat × (ByteArray → Option (ByteArray × Int))) :=
 match expr_Split.f k s with
 | none => none
 | some r => if r.2 ≠ 0 then some (⟨#[]⟩, r.2, cnt, kn) else Pr.go k raw (if named = true then 1 else 0) k cnt kn [] ⟨within, named, r.1, [], 0⟩
set_option maxRecDepth 1000000 in
theorem props_Names_Value.calls (g mr mk k cnt : Nat) (raw : ByteArray → Option ByteArray) (kn : ByteArray → Option (ByteArray × Int)) (s within : ByteArray) (named : Bool) (r1 : ByteArray) (r2 : Int) (cnt' : Nat) (kn' : ByteArray → Option (ByteArray × Int)) (w : World)
 (hN : Pr.NAt w g mr mk raw cnt kn) (hg : g < w.heap.size) (hmr : mr < w.heap.size) (hmk : mk < w.heap.size) (hmk0 : mk ≠ 0) (hG : Glob w) (h : props_Names_Value.f k raw cnt kn s within named = some (r1, r2, cnt', kn')) :
 Calls Try.prog 25 #[.pointer (some ⟨g, 0, none⟩), .string s, .string within, .bool named] w fun e w' => e = .returned (.tuple #[.string r1, .int .i64 r2]) ∧ Pr.NAt w' g mr mk raw cnt' kn' ∧ w.grownBy w' (some mk) := by
 unfold props_Names_Value.f at h
 have hu := Try.underlying71
 cases hsp : expr_Split.f k s with
 | none => rw [hsp] at h; cases h
 | some r =>
  obtain ⟨l, v2⟩ := r
  rw [hsp] at h
  dsimp only at h
  have CSP := Aside0.mk (expr_Split.calls k s l v2 w hG hsp)
  have HN := Aside0.mk hN
  have HG := Aside0.mk hG
  have HM := Lib.hid (show g < w.heap.size ∧ mr < w.heap.size ∧ mk < w.heap.size ∧ mk ≠ 0 from ⟨hg, hmr, hmk, hmk0⟩)
  clear hN hG hg hmr hmk hmk0 hsp
  by_cases hr : v2 ≠ 0
  ·rw [if_pos hr] at h
   have b1 : (v2 != 0) = true := bne_iff_ne.mpr hr
   have HH := Aside0.mk h
   clear h hr
   go_enter Try.func25, Try.ntmps25
   go_wp2
   refine wp_scope_loop (rest := Pr.rest) 0 (by kernel_rfl) ?_
   go_wp2_with (first | (go_at_call 36; (with_reducible refine (CSP.out).mono ?_); rintro e w1 ⟨v0, rfl, hr1, hb1⟩; have HB1 := Aside0.mk hb1; clear hr1 hb1))
   (try simp only [Exit.inBlock, Exit.then, jump_ret])
   (try go_ret2)
   have hh := HH.out
   cases hh
   exact ⟨rfl, HN.out.step HB1.out HM.out.1 HM.out.2.1 HM.out.2.2.1, Pr.But.of (Pr.But.below HB1.out)⟩
  rw [if_neg hr] at h
  have hr : v2 = 0 := Classical.not_not.1 hr
  subst hr
  have HH := Aside0.mk h
  clear h
  cases named
  all_goals
   go_enter Try.func25, Try.ntmps25
   go_wp2
   refine wp_scope_loop (rest := Pr.rest) 0 (by kernel_rfl) ?_
   go_wp2_with (first | (go_at_call 36; (with_reducible refine (CSP.out).mono ?_); rintro e w1 ⟨v0, rfl, hr1, hb1⟩; obtain ⟨A1, c1, rfl⟩ := Kd.R_slice hr1; have HB1 := Aside0.mk hb1; have HR1 := Aside0.mk hr1; clear hr1 hb1))
   refine wp_label ?_
   rename_i hlb
   refine hlb _ _ ?_
   refine Pr.wp_rest (by kernel_rfl) ?_
   rw [Pr.frm_of _ rfl]
   have hbs := HB1.out.size
   have hM1 := Pr.M_one (w := w1) (B := w.heap.size) within HR1.out
   refine props_Names_Value.loopAt _ w.heap.size g mr mk k k cnt raw kn [] ⟨within, _, l, [], 0⟩ _ w _ _ r1 r2 cnt' kn' rfl (by decide) (by decide) rfl ⟨_, rfl, Pr.S_lit1 (hM1 _) rfl hbs⟩ (HN.out.step (HB1.out.alloc hbs _) HM.out.1 HM.out.2.1 HM.out.2.2.1) HM.out.1 HM.out.2.1 HM.out.2.2.1 (Nat.le_refl _) HG.out HM.out.2.2.2 (Pr.But.below (HB1.out.alloc hbs _)) HH.out (fun w' hN' hb' => ⟨rfl, hN', Pr.But.of hb'⟩)
end
def Pr.rawAll : (ByteArray → Option ByteArray) → List S27 → ByteArray → Option ByteArray
 | f, [] => f
 | f, p :: l => Pr.rawAll (if (f p.f0).isSome = true then f else Pr.upd f p.f0 p.f1) l
theorem Pr.map_lt {P : Program} {k m n : Nat} {R : Value → Option (DataW Unit × List MemPlace)} {D : DataW Unit} {w : World} (h : w.ownsMap P k R m n D) : m < w.heap.size := by
 obtain ⟨es, clock, hb, r⟩ := h
 exact (Array.getElem?_eq_some_iff.1 hb).1
theorem Pr.at_lt {w : World} {g mr mk cnt : Nat} {raw : ByteArray → Option ByteArray} {kn : ByteArray → Option (ByteArray × Int)} (h : Pr.NAt w g mr mk raw cnt kn) : g < w.heap.size ∧ mr < w.heap.size ∧ mk < w.heap.size := by
 obtain ⟨nr, Dr, Dk, a, b, c, d, e, f⟩ := h
 exact ⟨(Array.getElem?_eq_some_iff.1 a).1, Pr.map_lt b, Pr.map_lt d⟩
theorem Pr.below_grown {B m : Nat} {w W w4 : World} (h : Below B w W) (e : W.grownBy w4 (some m)) (hm : B ≤ m) (hB : B ≤ w.heap.size := by omega) : Below B w w4 :=
 h.trans ⟨e.os, e.tape, e.output, e.size, fun k hk => e.block k (Nat.lt_of_lt_of_le hk (Nat.le_trans hB h.size)) (fun he => by injection he with he; omega)⟩
theorem props_Of.calls (A0 : Option Addr) (c0 : Nat) (l0 : List S27) (w : World) (hr0 : Kd.C k27 w A0 l0.length l0) (hlen : l0.length ≤ 1000000) (hkey : ∀ p ∈ l0, p.f0.size ≤ maxLen ∧ p.f1.size ≤ maxLen) :
 Calls Try.prog 24 #[.slice A0 l0.length c0] w fun e w' => e = .returned (.pointer (some ⟨w.heap.size + 2, 0, none⟩)) ∧ Pr.NAt w' (w.heap.size + 2) w.heap.size (w.heap.size + 1) (Pr.rawAll (fun _ => none) l0) 0 (fun _ => none) ∧ Below w.heap.size w w' := by
 have hu := Try.underlying27
 have hun := Try.underlying64
 have HR := Aside0.mk hr0
 have HK := Aside0.mk hkey
 clear hr0 hkey
 have hm1 : (Instr.makeMap 61 none).run Try.prog w = .ok (.map (some w.heap.size)) (w.alloc (.map #[] 0)) := run_makeMap 61 w
 have hm2 : (Instr.makeMap 62 none).run Try.prog (w.alloc (.map #[] 0)) = .ok (.map (some (w.heap.size + 1))) ((w.alloc (.map #[] 0)).alloc (.map #[] 0)) := by
  have h := run_makeMap (P := Try.prog) 62 (w.alloc (.map #[] 0))
  have e : (w.alloc (.map #[] 0)).heap.size = w.heap.size + 1 := by show Array.size (Array.push _ _) = _; exact Array.size_push _
  rw [e] at h
  exact h
 go_enter Try.func24, Try.ntmps24
 go_wp2_with (fail)
 obtain ⟨W, hW⟩ : ∃ W, W = ((w.alloc (.map #[] 0)).alloc (.map #[] 0)).alloc (.cells #[.map (some w.heap.size), .map (some (w.heap.size + 1))] 64) := ⟨_, rfl⟩
 have e1 : (w.alloc (.map #[] 0)).heap.size = w.heap.size + 1 := by show Array.size (Array.push _ _) = _; exact Array.size_push _
 have e2 : ((w.alloc (.map #[] 0)).alloc (.map #[] 0)).heap.size = w.heap.size + 2 := by show Array.size (Array.push _ _) = _; rw [Array.size_push]; omega
 have hB0 : Below w.heap.size w W := by rw [hW]; exact below_alloc (below_alloc (below_alloc (Below.refl _ _) _) _) _
 have hX0 : W.heap[w.heap.size + 2]? = some (.cells #[.map (some w.heap.size), .map (some (w.heap.size + 1))] 64 (0, 0)) := by rw [hW, ← e2]; exact heap_alloc_new _ _
 have hM0 : W.ownsMap Try.prog 9 (plainElem (H := Unit) Try.prog 9) w.heap.size 0 (.map []) := by rw [hW]; exact ((World.ownsMap_made w Try.prog 9 _).alloc _).alloc _
 have hK0 : W.ownsMap Try.prog 9 Pr.foundR (w.heap.size + 1) 0 (.map []) := by rw [hW, ← e1]; exact (World.ownsMap_made (w.alloc (.map #[] 0)) Try.prog 9 _).alloc _
 have HX0 := Aside0.mk hX0
 have HM0 := Aside0.mk hM0
 have HK0 := Aside0.mk hK0
 have HB0 := Aside0.mk hB0
 rw [← hW]
 clear hW e1 e2 hB0 hX0 hM0 hK0 hm1 hm2
 go_loopg [14] (l0.length + 1) (fun kq v14 w' => ∃ (i : Nat) (raw : ByteArray → Option ByteArray) (n : Nat) (D : DataW Unit), v14 = .int .i64 (i : Int) ∧ (i ≤ l0.length ∧ i + kq = l0.length + 1 ∧ n ≤ i) ∧ Aside0 (Pr.rawAll raw (l0.drop i) = Pr.rawAll (fun _ => none) l0) ∧ Aside0 (w'.heap[w.heap.size + 2]? = some (.cells #[.map (some w.heap.size), .map (some (w.heap.size + 1))] 64 (0, 0))) ∧ Aside0 (w'.ownsMap Try.prog 9 (plainElem (H := Unit) Try.prog 9) w.heap.size n D) ∧ Aside0 (Pr.RawIs D raw) ∧ Aside0 (w'.ownsMap Try.prog 9 Pr.foundR (w.heap.size + 1) 0 (.map [])) ∧ Aside0 (Below w.heap.size w w'))
 case atStart => exact ⟨0, fun _ => none, 0, .map [], rfl, ⟨by omega, by omega, by omega⟩, ⟨by rw [List.drop_zero]⟩, HX0, HM0, ⟨Pr.RawIs.none⟩, HK0, HB0⟩
 clear HX0 HM0 HK0 HB0
 obtain ⟨i, raw, n, D, rfl, ⟨hi, hk, hn⟩, HA, HX, HM, HD, HO, HB⟩ := hrel
 obtain ⟨k1, rfl⟩ : ∃ k1, gk = k1 + 1 := ⟨gk - 1, by omega⟩
 by_cases hlt : i < l0.length
 rotate_left
 ·have d1 : decide ((i : Int) < (l0.length : Int)) = false := decide_eq_false (by omega)
  have d1' : decide (i < l0.length) = false := decide_eq_false hlt
  have hil : i = l0.length := by omega
  have HA1 := HA.out
  rw [hil, List.drop_length] at HA1
  have HA1 : raw = Pr.rawAll (fun _ => none) l0 := HA1
  go_wp2
  go_ret
  exact ⟨rfl, ⟨n, D, .map [], HX.out, HM.out, by rw [← HA1]; exact HD.out, HO.out, Pr.KnownIs.none, by omega⟩, HB.out⟩
 have d1 : decide ((i : Int) < (l0.length : Int)) = true := decide_eq_true (by omega)
 have d1' : decide (i < l0.length) = true := decide_eq_true hlt
 have p1 := eq_true (show (0 : Int) ≤ (i : Int) by omega)
 have p2 := eq_true (show (i : Int) < (l0.length : Int) by omega)
 have p3 := eq_true hlt
 obtain ⟨ad, e_, q0, q1⟩ := at_T27 HR.out (i : Int) (by omega) (by omega)
 cases e_
 simp only [Int.toNat_natCast] at q0 q1
 have x0 := (blk_cell HX.out 0).trans rfl
 replace q0 := pw_cell_below HB.out q0
 replace q1 := pw_cell_below HB.out q1
 obtain ⟨p, hp⟩ : ∃ p, p = rd_T27 l0 (i : Int) := ⟨_, rfl⟩
 have hpi : p = l0[i] := by rw [hp]; simp [rd_T27, List.getD, hlt]
 have hps := HK.out p (by rw [hpi]; exact List.getElem_mem hlt)
 rw [← hp] at q0 q1
 have HPI := Lib.hid hpi
 have HPS := Lib.hid hps
 clear hp hpi hps
 go_wp2_with (fail)
 obtain ⟨W1, hW1⟩ : ∃ W1, W1 = wr.alloc (.cells #[.string p.f0, .string p.f1] 27) := ⟨_, rfl⟩
 have HX1 := Aside0.mk (show W1.heap[w.heap.size + 2]? = some (.cells #[.map (some w.heap.size), .map (some (w.heap.size + 1))] 64 (0, 0)) from by rw [hW1]; exact blk_alloc HX.out _)
 have HM1 := Aside0.mk (show W1.ownsMap Try.prog 9 (plainElem (H := Unit) Try.prog 9) w.heap.size n D from by rw [hW1]; exact HM.out.alloc _)
 have HO1 := Aside0.mk (show W1.ownsMap Try.prog 9 Pr.foundR (w.heap.size + 1) 0 (.map []) from by rw [hW1]; exact HO.out.alloc _)
 have HB1 := Aside0.mk (show Below w.heap.size w W1 from by rw [hW1]; exact below_alloc HB.out _)
 have HP1 := Aside0.mk (show W1.heap[wr.heap.size]? = some (.cells #[.string p.f0, .string p.f1] 27 (0, 0)) from by rw [hW1]; exact heap_alloc_new wr _)
 rw [← hW1]
 have HAn := Aside0.mk (show Pr.rawAll (if (raw p.f0).isSome = true then raw else Pr.upd raw p.f0 p.f1) (l0.drop (i + 1)) = Pr.rawAll (fun _ => none) l0 from by
  rw [← HA.out, List.drop_eq_getElem_cons hlt, ← HPI.out]; rfl)
 have HN1 := Aside0.mk (show Pr.NAt W1 (w.heap.size + 2) w.heap.size (w.heap.size + 1) raw 0 (fun _ => none) from ⟨n, D, .map [], HX1.out, HM1.out, HD.out, HO1.out, Pr.KnownIs.none, by omega⟩)
 have hl := Pr.raw_run HN1.out p.f0 HPS.out.1
 have x1 := (blk_cell HX1.out 0).trans rfl
 have z0 := (blk_cell HP1.out 0).trans rfl
 have z1 := (blk_cell HP1.out 1).trans rfl
 clear q0 q1 hW1 x0
 cases hr : raw p.f0 with
 | some x =>
  rw [hr] at hl HAn
  have hl0 := hl 0
  go_quiet (fail)
  go_wp2_with (fail)
  go_roundg k1
  case measure => omega
  case rel => exact ⟨i + 1, raw, n, D, by first | rfl | (simp; done) | (simp; unfold wrap64; omega), ⟨by omega, by omega, by omega⟩, ⟨HAn.out⟩, ⟨by (with_reducible repeat (first | refine blk_drewN ?_ _ | refine blk_drew ?_)); exact HX1.out⟩, ⟨Pr.own_at HM1.out rfl⟩, HD, ⟨Pr.own_at HO1.out rfl⟩, ⟨pw_below_drewN HB1.out _⟩⟩
 | none =>
  rw [hr] at hl HAn
  have hl0 := hl 0
  go_quiet (fail)
  go_wp2_with (fail)
  generalize hW2 : W1.drewN _ = W2
  have x2 : W2.cell? ⟨w.heap.size + 2, 0, none⟩ = some (.map (some w.heap.size)) := by rw [← hW2]; exact x1
  have y0 : W2.cell? ⟨wr.heap.size, 0, none⟩ = some (.string p.f0) := by rw [← hW2]; exact z0
  have y1 : W2.cell? ⟨wr.heap.size, 1, none⟩ = some (.string p.f1) := by rw [← hW2]; exact z1
  have HX2 := Aside0.mk (show W2.heap[w.heap.size + 2]? = some (.cells #[.map (some w.heap.size), .map (some (w.heap.size + 1))] 64 (0, 0)) from by rw [← hW2]; exact HX1.out)
  have HM2 := Aside0.mk (show W2.ownsMap Try.prog 9 (plainElem (H := Unit) Try.prog 9) w.heap.size n D from by rw [← hW2]; exact Pr.own_at HM1.out rfl)
  have HO2 := Aside0.mk (show W2.ownsMap Try.prog 9 Pr.foundR (w.heap.size + 1) 0 (.map []) from by rw [← hW2]; exact Pr.own_at HO1.out rfl)
  have HB2 := Aside0.mk (show Below w.heap.size w W2 from by rw [← hW2]; exact pw_below_drewN HB1.out _)
  clear hW2 x1 z0 z1 hl hl0
  go_still_tail 8, (by kernel_rfl)
  go_wp2_with (first | (at_mapUpdate; go_loud (refine wpList_mapUpdate_own _ rfl _ _ _ 61 rfl 9 9 (Maps.string_keyed Try.underlying9) Try.underlying61 _ w.heap.size n D rfl (World.ownsMap.drew HM2.out) (by unfold maxLen; omega) _ _ (Pr.lit p.f0) rfl rfl (WideMaps.keyOf_string_mk Try.underlying9 HPS.out.1) (.lit (.string p.f1.data.toList)) [] (plainElem_string Try.underlying9 HPS.out.2) ?_; intro w4 hown4 hgrow4; have HW4 := Aside0.mk hown4; have HG4 := Aside0.mk hgrow4; clear hown4 hgrow4)))
  go_roundg k1
  case measure => omega
  case rel => exact ⟨i + 1, Pr.upd raw p.f0 p.f1, n + 1, _, by first | rfl | (simp; done) | (simp; unfold wrap64; omega), ⟨by omega, by omega, by omega⟩, ⟨HAn.out⟩, ⟨(HG4.out.block (w.heap.size + 2) (Array.getElem?_eq_some_iff.1 HX2.out).1 (by intro he; injection he with he; omega)).trans HX2.out⟩, HW4, ⟨HD.out.put (World.ownsMap.isMap HM2.out) p.f0 p.f1⟩, ⟨World.ownsMap.kept (World.ownsMap.drew HO2.out) HG4.out (by intro he; injection he with he; omega)⟩, ⟨Pr.below_grown HB2.out ⟨HG4.out.os, HG4.out.tape, HG4.out.output, HG4.out.size, HG4.out.block⟩ (Nat.le_refl _)⟩⟩
def Pr.fits (l : List S27) : Bool := decide (l.length ≤ 1000000) && l.all (fun p => decide (p.f0.size ≤ maxLen) && decide (p.f1.size ≤ maxLen))
theorem Pr.fits_out {l : List S27} (h : Pr.fits l = true) : l.length ≤ 1000000 ∧ ∀ p ∈ l, p.f0.size ≤ maxLen ∧ p.f1.size ≤ maxLen := by
 unfold Pr.fits at h
 simp only [Bool.and_eq_true, decide_eq_true_eq, List.all_eq_true] at h
 exact h
def props_Value.f (k : Nat) (l : List S27) (s : ByteArray) : Option (ByteArray × Int) :=
 if Pr.fits l = true then (props_Names_Value.f k (Pr.rawAll (fun _ => none) l) 0 (fun _ => none) s ⟨#[]⟩ false).map (fun r => (r.1, r.2.1)) else none
theorem props_Value.calls (k : Nat) (A0 : Option Addr) (c0 : Nat) (l0 : List S27) (a1 : ByteArray) (r1 : ByteArray) (r2 : Int) (w : World) (hr0 : Kd.C k27 w A0 l0.length l0) (hc0 : l0.length ≤ c0) (hG : Glob w) (h : props_Value.f k l0 a1 = some (r1, r2)) :
 Calls Try.prog 11 #[.slice A0 l0.length c0, .string a1] w fun e w' => e = .returned (.tuple #[.string r1, .int .i64 r2]) ∧ Below w.heap.size w w' := by
 unfold props_Value.f at h
 by_cases hf : Pr.fits l0 = true
 case neg => rw [if_neg hf] at h; cases h
 rw [if_pos hf] at h
 obtain ⟨hlen, hkey⟩ := Pr.fits_out hf
 obtain ⟨⟨q1, q2, cnt', kn'⟩, hv, he⟩ := Option.map_eq_some_iff.1 h
 injection he with e1 e2
 dsimp only at e1 e2
 subst e1 e2
 have HV := Aside0.mk hv
 have HO := Aside0.mk (props_Of.calls A0 c0 l0 w hr0 hlen hkey)
 have HG := Aside0.mk hG
 clear hv h hf hlen hkey hr0 hG
 go_enter Try.func11, Try.ntmps11
 go_wp2_with (first | (go_at_call 24; (with_reducible refine (HO.out).mono ?_); rintro e w1 ⟨rfl, hN, hb⟩; have HN := Aside0.mk hN; have HB := Aside0.mk hb; have HS := Lib.hid hb.size; have HG1 := Aside0.mk (HG.out.step hb); have HC := Aside0.mk (props_Names_Value.calls (w.heap.size + 2) w.heap.size (w.heap.size + 1) k 0 (Pr.rawAll (fun _ => none) l0) (fun _ => none) a1 ⟨#[]⟩ false q1 q2 cnt' kn' w1 hN (Pr.at_lt hN).1 (Pr.at_lt hN).2.1 (Pr.at_lt hN).2.2 (by omega) (HG.out.step hb) HV.out); clear hN hb) | (go_at_call 25; (with_reducible refine (HC.out).mono ?_); rintro e w2 ⟨rfl, hN2, hg2⟩; have HB2 := Aside0.mk (Pr.below_grown HB.out hg2 (Nat.le_succ _) (Nat.le_refl _)); clear hN2 hg2))
 go_ret2
 exact ⟨rfl, HB2.out⟩
end Go.Proofs.Ytomkimifooddpaa.Q
