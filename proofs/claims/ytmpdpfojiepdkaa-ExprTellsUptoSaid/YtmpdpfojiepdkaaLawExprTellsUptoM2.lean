/- Texts put together: what functions of the program compute, and plain words about them. -/
import Derived.Shelf.Strings.Builder1
import Derived.Shelf.Strings.Builder2
import Derived.Shelf.Strings.OnBuilder
import Derived.Shelf.Small.Utf8
import Derived.Shelf.Small.Strs
import Derived.Shelf.Strings.BuilderF
import Derived.Shelf.Strings.BuilderK
import Derived.Shelf.Strings.Builder2Cap
import Derived.Shelf.Strings.Search1
import Derived.Shelf.Strings.Search2
import Derived.Shelf.Strings.Search3
import Derived.Shelf.Strings.Cut
import Derived.Shelf.LaysM
import Derived.Shelf.Strings.Shaped
import Derived.Shelf.Strings.Runes
import Derived.Shelf.Strings.IndexAny
import Derived.Shelf.Strings.AsciiSet
import Derived.Shelf.Strings.IndexAnyAll
import Derived.Shelf.Strings.BuilderCap
import Derived.Test.YtmpdpfojiepdkaaProg
import Derived.Test.YtmpdpfojiepdkaaLawExprTellsUptoM1
import Derived.Lib.OthersKept
import Derived.Lib.Hide
import Derived.LoopN
import Derived.Lib.IndexAny
import Derived.Lib.IndexBytes
import Derived.Laws.RangeString
import Derived.Laws.Strings3
import Derived.Laws.Runes
import Derived.Lib.DecodeN
import Derived.Lib.Builder
import Derived.Lib.AppendStr
import Derived.Lib.UnsafeStr
import Derived.Lib.Walk
import Derived.Lib.Strings
import Derived.Laws.Externs
import Derived.Below
import Derived.Deep.Draws
import Derived.Deep.AppendLies
import Derived.Maps.AppendAt
import Derived.OwnWalk
import Derived.Laws.BytesArg
import Derived.Laws.MakeOwn
import Derived.Laws.OwnMore
import Derived.Deep.OwnRows
import Derived.Tactics
import Derived.Lib.ConvBytes
import Derived.Laws.Slices
import Derived.WalkKit
import Derived.KernelRfl
import Derived.RowKit3
import Derived.Deep.LoopGhost
import Derived.Deep.QuietTactic
import Derived.BigQuiet
import Derived.WideLaws
import Derived.Deep.DeepCutAuto
import Derived.Deep.CutBlock
import Derived.Deep.RegionHeld3
import Derived.Laws.Rows
import Derived.ArgAppend
import Derived.Laws.IdiomCopy
import Derived.OrdersHeld
import Derived.Laws.BitsLemmas
import Derived.RowKit

namespace Go.Proofs
open Go.Shelf
def Try.lays169_ren : Go.Shelf.Ren := ⟨fun | 169 => 43 | n => n, fun | 70 => 65 | 9 => 9 | 0 => 0 | 72 => 68 | 37 => 66 | 127 => 87 | 3 => 3 | 5 => 5 | n => n, fun | n => n⟩
theorem Try.lays169 : Go.Proofs.Lays.n169 Try.prog Try.lays169_ren := {
  mixed := by kernel_rfl
  f169 := Try.func43.trans (congrArg some (by kernel_rfl))
  t0 := Try.underlying0
  a0 := Try.isAgg0
  z0 := Try.sizeOf0
  v0 := Try.zeroValue0
  t3 := Try.underlying3
  a3 := Try.isAgg3
  z3 := Try.sizeOf3
  v3 := Try.zeroValue3
  t9 := Try.underlying9
  a9 := Try.isAgg9
  z9 := Try.sizeOf9
  v9 := Try.zeroValue9
  t37 := Try.underlying66
  a37 := Try.isAgg66
  z37 := Try.sizeOf66
  v37 := Try.zeroValue66
  t70 := Try.underlying65
  a70 := Try.isAgg65
  z70 := Try.sizeOf65
  v70 := Try.zeroValue65
  t72 := Try.underlying68
  a72 := Try.isAgg68
  z72 := Try.sizeOf68
  v72 := Try.zeroValue68
  t127 := Try.underlying87
  a127 := Try.isAgg87
  z127 := Try.sizeOf87
  v127 := Try.zeroValue87 }
theorem Try.Builder_Extra_169 : Builder.Extra Try.prog Try.lays169_ren := {
  sizeBuilder := by kernel_rfl
  liesBuilder := by kernel_rfl
  t5 := Try.underlying5
  a5 := Try.isAgg5
  z5 := Try.sizeOf5
  v5 := Try.zeroValue5
  infoByte := by kernel_rfl
  cellsByte := by kernel_rfl
  sizeByte := by kernel_rfl
  neB5 := by decide }
open Go.RowKit in
theorem Try.Builder_String_any (B b : Nat) (l : List UInt8) (w : World) (h : Lib.IsBuilder 68 5 B b (Lib.byteCells l) w) (hBw : B ≤ w.heap.size) :
    Calls Try.prog 43 #[.pointer (some ⟨b, 0, none⟩)] w fun e w' => e = .returned (.string ⟨l.toArray⟩) ∧ Below B w w' := Any.Builder_String_any Try.lays169 Try.Builder_Extra_169 B b l w h hBw
def Try.lays119_ren : Go.Shelf.Ren := ⟨fun | 119 => 81 | n => n, fun | 21 => 21 | 4 => 4 | n => n, fun | n => n⟩
theorem Try.lays119 : Go.Proofs.Lays.n119 Try.prog Try.lays119_ren := {
  mixed := by kernel_rfl
  f119 := Try.func81.trans (congrArg some (by kernel_rfl))
  t4 := Try.underlying4
  a4 := Try.isAgg4
  z4 := Try.sizeOf4
  v4 := Try.zeroValue4
  t21 := Try.underlying21
  a21 := Try.isAgg21
  z21 := Try.sizeOf21
  v21 := Try.zeroValue21 }
theorem Try.utf8_ValidRune (r : Int) (w : World) :
    Calls Try.prog 81 #[.int .i32 r] w fun e w' => e = .returned (.bool (Lib.validRune r)) ∧ w' = w := Any.utf8_ValidRune Try.lays119 r w
def Try.lays137_ren : Go.Shelf.Ren := ⟨fun | 137 => 80 | 217 => 76 | 266 => 84 | n => n, fun | 9 => 9 | 5 => 5 | 3 => 3 | n => n, fun | n => n⟩
theorem Try.lays137 : Go.Proofs.Lays.n137 Try.prog Try.lays137_ren := {
  mixed := by kernel_rfl
  f137 := Try.func80.trans (congrArg some (by kernel_rfl))
  f217 := Try.func76.trans (congrArg some (by kernel_rfl))
  f266 := Try.func84.trans (congrArg some (by kernel_rfl))
  t3 := Try.underlying3
  a3 := Try.isAgg3
  z3 := Try.sizeOf3
  v3 := Try.zeroValue3
  t5 := Try.underlying5
  a5 := Try.isAgg5
  z5 := Try.sizeOf5
  v5 := Try.zeroValue5
  t9 := Try.underlying9
  a9 := Try.isAgg9
  z9 := Try.sizeOf9
  v9 := Try.zeroValue9 }
open Go.RowKit in
theorem Try.strings_IndexByte (s : ByteArray) (c : Int) (w : World) :
    Calls Try.prog 80 #[.string s, .int .u8 c] w fun e w' => e = .returned (.int .i64 (Lib.indexByte s.data.toList c.toNat.toUInt8)) ∧ w' = w := Any.strings_IndexByte Try.lays137 s c w
def Try.lays144_ren : Go.Shelf.Ren := ⟨fun | 144 => 44 | 143 => 59 | 219 => 65 | 217 => 76 | 225 => 77 | 224 => 78 | 267 => 79 | 266 => 84 | 314 => 85 | n => n, fun | 9 => 9 | 4 => 4 | 3 => 3 | 5 => 5 | 46 => 39 | 146 => 127 | 51 => 126 | n => n, fun | 1 => 0 | n => n⟩
theorem Try.lays144 : Go.Proofs.Lays.n144 Try.prog Try.lays144_ren := {
  mixed := by kernel_rfl
  f143 := Try.func59.trans (congrArg some (by kernel_rfl))
  f144 := Try.func44.trans (congrArg some (by kernel_rfl))
  f217 := Try.func76.trans (congrArg some (by kernel_rfl))
  f219 := Try.func65.trans (congrArg some (by kernel_rfl))
  f224 := Try.func78.trans (congrArg some (by kernel_rfl))
  f225 := Try.func77.trans (congrArg some (by kernel_rfl))
  f266 := Try.func84.trans (congrArg some (by kernel_rfl))
  f267 := Try.func79.trans (congrArg some (by kernel_rfl))
  f314 := Try.func85.trans (congrArg some (by kernel_rfl))
  t3 := Try.underlying3
  a3 := Try.isAgg3
  z3 := Try.sizeOf3
  v3 := Try.zeroValue3
  t4 := Try.underlying4
  a4 := Try.isAgg4
  z4 := Try.sizeOf4
  v4 := Try.zeroValue4
  t5 := Try.underlying5
  a5 := Try.isAgg5
  z5 := Try.sizeOf5
  v5 := Try.zeroValue5
  t9 := Try.underlying9
  a9 := Try.isAgg9
  z9 := Try.sizeOf9
  v9 := Try.zeroValue9
  t46 := Try.underlying39
  a46 := Try.isAgg39
  z46 := Try.sizeOf39
  v46 := Try.zeroValue39
  t51 := Try.underlying126
  a51 := Try.isAgg126
  z51 := Try.sizeOf126
  v51 := Try.zeroValue126
  t146 := Try.underlying127
  a146 := Try.isAgg127
  z146 := Try.sizeOf127
  v146 := Try.zeroValue127
  g1 := by kernel_rfl }
open Go.RowKit Go.Lib in
theorem Try.strings_Contains (s sub : ByteArray) (m : Int) (w : World) (hs : s.size < 4294967281) (hm : w.cell? ⟨0, 0, none⟩ = some (.int .i64 m)) :
    Calls Try.prog 44 #[.string s, .string sub] w fun e w' => e = .returned (.bool (Lib.contains s.data.toList sub.data.toList)) ∧ w' = w := Any.strings_Contains Try.lays144 s sub m w hs hm
def Try.lays145_ren : Go.Shelf.Ren := ⟨fun | 145 => 37 | 220 => 56 | 219 => 65 | 217 => 76 | 225 => 77 | 224 => 78 | 267 => 79 | 266 => 84 | 314 => 85 | n => n, fun | 9 => 9 | 4 => 4 | 59 => 60 | 3 => 3 | 5 => 5 | 46 => 39 | 146 => 127 | 51 => 126 | n => n, fun | 1 => 0 | n => n⟩
theorem Try.lays145 : Go.Proofs.Lays.n145 Try.prog Try.lays145_ren := {
  mixed := by kernel_rfl
  f145 := Try.func37.trans (congrArg some (by kernel_rfl))
  f217 := Try.func76.trans (congrArg some (by kernel_rfl))
  f219 := Try.func65.trans (congrArg some (by kernel_rfl))
  f220 := Try.func56.trans (congrArg some (by kernel_rfl))
  f224 := Try.func78.trans (congrArg some (by kernel_rfl))
  f225 := Try.func77.trans (congrArg some (by kernel_rfl))
  f266 := Try.func84.trans (congrArg some (by kernel_rfl))
  f267 := Try.func79.trans (congrArg some (by kernel_rfl))
  f314 := Try.func85.trans (congrArg some (by kernel_rfl))
  t3 := Try.underlying3
  a3 := Try.isAgg3
  z3 := Try.sizeOf3
  v3 := Try.zeroValue3
  t4 := Try.underlying4
  a4 := Try.isAgg4
  z4 := Try.sizeOf4
  v4 := Try.zeroValue4
  t5 := Try.underlying5
  a5 := Try.isAgg5
  z5 := Try.sizeOf5
  v5 := Try.zeroValue5
  t9 := Try.underlying9
  a9 := Try.isAgg9
  z9 := Try.sizeOf9
  v9 := Try.zeroValue9
  t46 := Try.underlying39
  a46 := Try.isAgg39
  z46 := Try.sizeOf39
  v46 := Try.zeroValue39
  t51 := Try.underlying126
  a51 := Try.isAgg126
  z51 := Try.sizeOf126
  v51 := Try.zeroValue126
  t59 := Try.underlying60
  a59 := Try.isAgg60
  z59 := Try.sizeOf60
  v59 := Try.zeroValue60
  t146 := Try.underlying127
  a146 := Try.isAgg127
  z146 := Try.sizeOf127
  v146 := Try.zeroValue127
  g1 := by kernel_rfl }
open Go.RowKit Go.Lib in
theorem Try.strings_Cut (s sep : ByteArray) (m : Int) (w : World) (hs : s.size < 4294967281) (hm : w.cell? ⟨0, 0, none⟩ = some (.int .i64 m)) :
    Calls Try.prog 37 #[.string s, .string sep] w fun e w' => e = .returned (.tuple #[.string ⟨(Lib.cut s.data.toList sep.data.toList).1.toArray⟩, .string ⟨(Lib.cut s.data.toList sep.data.toList).2.1.toArray⟩, .bool (Lib.cut s.data.toList sep.data.toList).2.2]) ∧ ∃ n, w' = w.drewN n := Any.strings_Cut Try.lays145 s sep m w hs hm
def Try.lays152_ren : Go.Shelf.Ren := ⟨fun | 152 => 66 | 137 => 80 | 119 => 81 | 224 => 78 | 225 => 77 | 217 => 76 | 266 => 84 | n => n, fun | 9 => 9 | 21 => 21 | 3 => 3 | 4 => 4 | 5 => 5 | 0 => 0 | 46 => 39 | n => n, fun | n => n⟩
theorem Try.lays152 : Go.Proofs.Lays.n152 Try.prog Try.lays152_ren := {
  mixed := by kernel_rfl
  f119 := Try.func81.trans (congrArg some (by kernel_rfl))
  f137 := Try.func80.trans (congrArg some (by kernel_rfl))
  f152 := Try.func66.trans (congrArg some (by kernel_rfl))
  f217 := Try.func76.trans (congrArg some (by kernel_rfl))
  f224 := Try.func78.trans (congrArg some (by kernel_rfl))
  f225 := Try.func77.trans (congrArg some (by kernel_rfl))
  f266 := Try.func84.trans (congrArg some (by kernel_rfl))
  t0 := Try.underlying0
  a0 := Try.isAgg0
  z0 := Try.sizeOf0
  v0 := Try.zeroValue0
  t3 := Try.underlying3
  a3 := Try.isAgg3
  z3 := Try.sizeOf3
  v3 := Try.zeroValue3
  t4 := Try.underlying4
  a4 := Try.isAgg4
  z4 := Try.sizeOf4
  v4 := Try.zeroValue4
  t5 := Try.underlying5
  a5 := Try.isAgg5
  z5 := Try.sizeOf5
  v5 := Try.zeroValue5
  t9 := Try.underlying9
  a9 := Try.isAgg9
  z9 := Try.sizeOf9
  v9 := Try.zeroValue9
  t21 := Try.underlying21
  a21 := Try.isAgg21
  z21 := Try.sizeOf21
  v21 := Try.zeroValue21
  t46 := Try.underlying39
  a46 := Try.isAgg39
  z46 := Try.sizeOf39
  v46 := Try.zeroValue39 }
open Go.RowKit Go.Lib in
theorem Try.strings_IndexRune_ascii (s : ByteArray) (r : Int) (w : World) (h0 : 0 ≤ r) (h1 : r < 128) :
    Calls Try.prog 66 #[.string s, .int .i32 r] w fun e w' => e = .returned (.int .i64 (Lib.indexByte s.data.toList r.toNat.toUInt8)) ∧ w' = w := Any.strings_IndexRune_ascii Try.lays152 s r w h0 h1
def Try.lays226_ren : Go.Shelf.Ren := ⟨fun | 226 => 67 | n => n, fun | 3 => 3 | 4 => 4 | n => n, fun | n => n⟩
theorem Try.lays226 : Go.Proofs.Lays.n226 Try.prog Try.lays226_ren := {
  mixed := by kernel_rfl
  f226 := Try.func67.trans (congrArg some (by kernel_rfl))
  t3 := Try.underlying3
  a3 := Try.isAgg3
  z3 := Try.sizeOf3
  v3 := Try.zeroValue3
  t4 := Try.underlying4
  a4 := Try.isAgg4
  z4 := Try.sizeOf4
  v4 := Try.zeroValue4 }
open Go.RowKit Go.Lib in
theorem Try.strings_shouldUseASCIISet (n : Int) (w : World) :
    Calls Try.prog 67 #[.int .i64 n] w fun e w' => e = .returned (.bool (decide (8 < n))) ∧ w' = w := Any.strings_shouldUseASCIISet Try.lays226 n w
def Try.lays153_ren : Go.Shelf.Ren := ⟨fun | 153 => 57 | 152 => 66 | 226 => 67 | 227 => 68 | 228 => 69 | 137 => 80 | 119 => 81 | 224 => 78 | 225 => 77 | 217 => 76 | 266 => 84 | n => n, fun | 9 => 9 | 3 => 3 | 4 => 4 | 5 => 5 | 21 => 21 | 117 => 113 | 116 => 112 | 0 => 0 | 46 => 39 | 124 => 124 | n => n, fun | n => n⟩
theorem Try.lays153 : Go.Proofs.Lays.n153 Try.prog Try.lays153_ren := {
  mixed := by kernel_rfl
  f119 := Try.func81.trans (congrArg some (by kernel_rfl))
  f137 := Try.func80.trans (congrArg some (by kernel_rfl))
  f152 := Try.func66.trans (congrArg some (by kernel_rfl))
  f153 := Try.func57.trans (congrArg some (by kernel_rfl))
  f217 := Try.func76.trans (congrArg some (by kernel_rfl))
  f224 := Try.func78.trans (congrArg some (by kernel_rfl))
  f225 := Try.func77.trans (congrArg some (by kernel_rfl))
  f226 := Try.func67.trans (congrArg some (by kernel_rfl))
  f227 := Try.func68.trans (congrArg some (by kernel_rfl))
  f228 := Try.func69.trans (congrArg some (by kernel_rfl))
  f266 := Try.func84.trans (congrArg some (by kernel_rfl))
  t0 := Try.underlying0
  a0 := Try.isAgg0
  z0 := Try.sizeOf0
  v0 := Try.zeroValue0
  t3 := Try.underlying3
  a3 := Try.isAgg3
  z3 := Try.sizeOf3
  v3 := Try.zeroValue3
  t4 := Try.underlying4
  a4 := Try.isAgg4
  z4 := Try.sizeOf4
  v4 := Try.zeroValue4
  t5 := Try.underlying5
  a5 := Try.isAgg5
  z5 := Try.sizeOf5
  v5 := Try.zeroValue5
  t9 := Try.underlying9
  a9 := Try.isAgg9
  z9 := Try.sizeOf9
  v9 := Try.zeroValue9
  t21 := Try.underlying21
  a21 := Try.isAgg21
  z21 := Try.sizeOf21
  v21 := Try.zeroValue21
  t46 := Try.underlying39
  a46 := Try.isAgg39
  z46 := Try.sizeOf39
  v46 := Try.zeroValue39
  t116 := Try.underlying112
  a116 := Try.isAgg112
  z116 := Try.sizeOf112
  t117 := Try.underlying113
  a117 := Try.isAgg113
  z117 := Try.sizeOf113
  v117 := Try.zeroValue113
  t124 := Try.underlying124
  a124 := Try.isAgg124
  z124 := Try.sizeOf124
  v124 := Try.zeroValue124 }
open Go.RowKit Go.Lib in
theorem Try.strings_IndexAny_long (hv116 : ∀ w, (zeroValue 112).run Try.prog w = .ok (.agg (Array.replicate 256 (.bool false))) w) (s chars : ByteArray) (w : World) (h2 : 2 ≤ chars.size) (h8 : 8 < s.size) (hs : s.size < 4294967281) (hcs : chars.size < 4294967281) (hascii : ∀ (j : Nat) b, chars.data.toList[j]? = some b → b.toNat < 128) :
    Calls Try.prog 57 #[.string s, .string chars] w fun e w' => e = .returned (.int .i64 (Lib.indexAny s.data.toList chars.data.toList)) ∧ w' = ((w.alloc (.cells (Lib.setCells chars.data.toList) 112)).alloc (.cells (Lib.setCells chars.data.toList) 112)) := Any.strings_IndexAny_long Try.lays153 hv116 (by kernel_rfl) s chars w h2 h8 hs hcs hascii
def Try.lays150_ren : Go.Shelf.Ren := ⟨fun | 150 => 38 | 153 => 57 | 152 => 66 | 226 => 67 | 227 => 68 | 228 => 69 | 137 => 80 | 119 => 81 | 224 => 78 | 225 => 77 | 217 => 76 | 266 => 84 | n => n, fun | 9 => 9 | 4 => 4 | 3 => 3 | 5 => 5 | 21 => 21 | 117 => 113 | 116 => 112 | 0 => 0 | 46 => 39 | 124 => 124 | n => n, fun | n => n⟩
theorem Try.lays150 : Go.Proofs.Lays.n150 Try.prog Try.lays150_ren := {
  mixed := by kernel_rfl
  f119 := Try.func81.trans (congrArg some (by kernel_rfl))
  f137 := Try.func80.trans (congrArg some (by kernel_rfl))
  f150 := Try.func38.trans (congrArg some (by kernel_rfl))
  f152 := Try.func66.trans (congrArg some (by kernel_rfl))
  f153 := Try.func57.trans (congrArg some (by kernel_rfl))
  f217 := Try.func76.trans (congrArg some (by kernel_rfl))
  f224 := Try.func78.trans (congrArg some (by kernel_rfl))
  f225 := Try.func77.trans (congrArg some (by kernel_rfl))
  f226 := Try.func67.trans (congrArg some (by kernel_rfl))
  f227 := Try.func68.trans (congrArg some (by kernel_rfl))
  f228 := Try.func69.trans (congrArg some (by kernel_rfl))
  f266 := Try.func84.trans (congrArg some (by kernel_rfl))
  t0 := Try.underlying0
  a0 := Try.isAgg0
  z0 := Try.sizeOf0
  v0 := Try.zeroValue0
  t3 := Try.underlying3
  a3 := Try.isAgg3
  z3 := Try.sizeOf3
  v3 := Try.zeroValue3
  t4 := Try.underlying4
  a4 := Try.isAgg4
  z4 := Try.sizeOf4
  v4 := Try.zeroValue4
  t5 := Try.underlying5
  a5 := Try.isAgg5
  z5 := Try.sizeOf5
  v5 := Try.zeroValue5
  t9 := Try.underlying9
  a9 := Try.isAgg9
  z9 := Try.sizeOf9
  v9 := Try.zeroValue9
  t21 := Try.underlying21
  a21 := Try.isAgg21
  z21 := Try.sizeOf21
  v21 := Try.zeroValue21
  t46 := Try.underlying39
  a46 := Try.isAgg39
  z46 := Try.sizeOf39
  v46 := Try.zeroValue39
  t116 := Try.underlying112
  a116 := Try.isAgg112
  z116 := Try.sizeOf112
  t117 := Try.underlying113
  a117 := Try.isAgg113
  z117 := Try.sizeOf113
  v117 := Try.zeroValue113
  t124 := Try.underlying124
  a124 := Try.isAgg124
  z124 := Try.sizeOf124
  v124 := Try.zeroValue124 }
open Go.RowKit Go.Lib in
theorem Try.strings_ContainsAny (hv116 : ∀ w, (zeroValue 112).run Try.prog w = .ok (.agg (Array.replicate 256 (.bool false))) w) (s chars : ByteArray) (w : World) (hs : s.size < 4294967281) (hcs : chars.size < 4294967281) (has : ∀ (j : Nat) b, s.data.toList[j]? = some b → b.toNat < 128) (hac : ∀ (j : Nat) b, chars.data.toList[j]? = some b → b.toNat < 128) :
    Calls Try.prog 38 #[.string s, .string chars] w fun e w' => e = .returned (.bool (Lib.containsAny s.data.toList chars.data.toList)) ∧ Below w.heap.size w w' := Any.strings_ContainsAny Try.lays150 hv116 (by kernel_rfl) s chars w hs hcs has hac
end Go.Proofs

-- Printed by this session's wip/np.py over the kit's print program. Not trusted: Lean checks it.
namespace Go.Proofs.Ytmpdpfojiepdkaa.Q
open Go.RowKit Go.Proofs.YtmpdpfojiepdkaaW.PrintWords Go.Proofs.YtmpdpfojiepdkaaW.PrintLast Go.Proofs.YtmpdpfojiepdkaaW.Own Go.Proofs.YtmpdpfojiepdkaaW.PrintMore
attribute [local go_sem] max2_int min2_int max_two min_two max_three min_three max_four min_four
set_option linter.unusedVariables false
set_option linter.unusedSimpArgs false

/-! ### strings_Cut: function 37 -/
def strings_Cut.f (a0 a1 : ByteArray) : Option (ByteArray × ByteArray × Bool) := if a0.size < 4294967281 then some (⟨(Lib.cut a0.data.toList a1.data.toList).1.toArray⟩, ⟨(Lib.cut a0.data.toList a1.data.toList).2.1.toArray⟩, (Lib.cut a0.data.toList a1.data.toList).2.2) else none
theorem strings_Cut.calls (a0 a1 : ByteArray) (r1 r2 : ByteArray) (r3 : Bool) (w : World) (hG : Glob w) (h : strings_Cut.f a0 a1 = some (r1, r2, r3)) :
 Calls Try.prog 37 #[.string a0, .string a1] w fun e w' => e = .returned (.tuple #[.string r1, .string r2, .bool r3]) ∧ Drawn0 w w' := by
 unfold strings_Cut.f at h
 split at h
 ·rename_i hs
  simp only [Option.some.injEq, Prod.mk.injEq] at h
  obtain ⟨rfl, rfl, rfl⟩ := h
  obtain ⟨m, hm⟩ := hG
  exact (Try.strings_Cut a0 a1 m w hs hm).mono fun e w' hh => ⟨hh.1, ⟨hh.2⟩⟩
 ·exact absurd h (by simp)



end Go.Proofs.Ytmpdpfojiepdkaa.Q

-- Printed by this session's wip/np.py over the kit's print program. Not trusted: Lean checks it.
namespace Go.Proofs.Ytmpdpfojiepdkaa.Q
open Go.RowKit Go.Proofs.YtmpdpfojiepdkaaW.PrintWords Go.Proofs.YtmpdpfojiepdkaaW.PrintLast Go.Proofs.YtmpdpfojiepdkaaW.Own Go.Proofs.YtmpdpfojiepdkaaW.PrintMore
attribute [local go_sem] max2_int min2_int max_two min_two max_three min_three max_four min_four
set_option linter.unusedVariables false
set_option linter.unusedSimpArgs false

/-! ### strings_ContainsAny: function 38 -/
namespace ContainsAny
open Go Go.RowKit Go.Lib
/-- What 'range' reads at a byte of 128 or more: a rune from 128 on, in bytes from 128 on. -/
theorem dec_hi (s : ByteArray) (i : Nat) (h : i < s.size) (hx : 128 ≤ (s.get! i).toNat) :
    1 ≤ (Utf8.decode s i).2 ∧ i + (Utf8.decode s i).2 ≤ s.size ∧ 128 ≤ (Utf8.decode s i).1 ∧ (Utf8.decode s i).1 ≤ 1114111 ∧ ∀ j, j < (Utf8.decode s i).2 → 128 ≤ (s.get! (i + j)).toNat := by
  have k0 : ∀ j, j < 1 → 128 ≤ (s.get! (i + j)).toNat := fun j hj => by
    obtain rfl : j = 0 := by omega
    exact hx
  have bad : 1 ≤ (Utf8.runeError, 1).2 ∧ i + (Utf8.runeError, 1).2 ≤ s.size ∧ 128 ≤ (Utf8.runeError, 1).1 ∧ (Utf8.runeError, 1).1 ≤ 1114111 ∧ ∀ j, j < (Utf8.runeError, 1).2 → 128 ≤ (s.get! (i + j)).toNat := ⟨Nat.le_refl _, h, by decide, by decide, k0⟩
  have hb : ∀ k, (s.get! (i + k)).toNat < 256 := fun k => UInt8.toNat_lt _
  unfold Utf8.decode
  simp only [Nat.add_zero]
  rw [if_neg (by omega)]
  have c1 : ∀ k, (decide (i + k < s.size) && (s.get! (i + k)).toNat / 64 == 2) = true → i + k < s.size ∧ 128 ≤ (s.get! (i + k)).toNat := fun k hk => by
    simp only [Bool.and_eq_true, decide_eq_true_eq, beq_iff_eq] at hk
    exact ⟨hk.1, by omega⟩
  split
  · rename_i h2
    simp only [Bool.and_eq_true] at h2
    obtain ⟨h21, h22⟩ := h2
    have d1 := c1 1 (by simpa using h22)
    have h21 : (s.get! i).toNat / 32 = 6 := by simpa using h21
    have b0 := hb 0; simp only [Nat.add_zero] at b0
    split
    · rename_i h3
      refine ⟨by show 1 ≤ 2; omega, by show i + 2 ≤ _; omega, by show 128 ≤ _; omega, by show _ ≤ 1114111; omega, fun j hj => ?_⟩
      have hj : j < 2 := hj
      rcases (by omega : j = 0 ∨ j = 1) with rfl | rfl
      · exact hx
      · exact d1.2
    · exact bad
  · split
    · rename_i h2
      simp only [Bool.and_eq_true] at h2
      obtain ⟨⟨h21, h22⟩, h23⟩ := h2
      have d1 := c1 1 (by simpa using h22)
      have d2 := c1 2 (by simpa using h23)
      have h21 : (s.get! i).toNat / 16 = 14 := by simpa using h21
      split
      · rename_i h3
        simp only [Bool.and_eq_true, decide_eq_true_eq] at h3
        refine ⟨by show 1 ≤ 3; omega, by show i + 3 ≤ _; omega, by show 128 ≤ _; omega, by show _ ≤ 1114111; omega, fun j hj => ?_⟩
        have hj : j < 3 := hj
        rcases (by omega : j = 0 ∨ j = 1 ∨ j = 2) with rfl | rfl | rfl
        · exact hx
        · exact d1.2
        · exact d2.2
      · exact bad
    · split
      · rename_i h2
        simp only [Bool.and_eq_true] at h2
        obtain ⟨⟨⟨h21, h22⟩, h23⟩, h24⟩ := h2
        have d1 := c1 1 (by simpa using h22)
        have d2 := c1 2 (by simpa using h23)
        have d3 := c1 3 (by simpa using h24)
        split
        · rename_i h3
          simp only [Bool.and_eq_true, decide_eq_true_eq] at h3
          have hv := h3.2
          refine ⟨by show 1 ≤ 4; omega, by show i + 4 ≤ _; omega, by show 128 ≤ _; omega, ?_, fun j hj => ?_⟩
          · simp only [Utf8.valid] at hv
            show _ ≤ 1114111
            simp at hv
            omega
          · have hj : j < 4 := hj
            rcases (by omega : j = 0 ∨ j = 1 ∨ j = 2 ∨ j = 3) with rfl | rfl | rfl | rfl
            · exact hx
            · exact d1.2
            · exact d2.2
            · exact d3.2
        · exact bad
      · exact bad
theorem run_next_at {P : Program} (w : World) (s : ByteArray) (pos : Nat) (ty : TypeId) (h : pos < s.size) :
    (Instr.next (.pointer (some ⟨w.heap.size, 0, none⟩)) true ty).run P (w.iter s pos) =
      .ok (.tuple #[.bool true, .int .i64 pos, .int .i32 (Utf8.decode s pos).1]) (w.iter s (pos + (Utf8.decode s pos).2)) := by
  simp only [Instr.next, getObj, setObj, Sem.run_bind, Sem.run, World.iter_heap, Result.andThen, h, if_true, World.iter_set]
  simp [goInt]
theorem get_data (s : ByteArray) (i : Nat) (h : i < s.size) : s.data.toList[i]? = some (s.get! i) := by
  have h1 : i < s.data.size := h
  have h2 : s.get! i = s.data[i] := by
    show s.data[i]! = _
    rw [getElem!_pos s.data i h1]
  rw [h2, List.getElem?_eq_getElem (by simpa using h1)]
  simp
theorem indexByte_none (l : List UInt8) (c : UInt8) (h : ∀ b ∈ l, b ≠ c) : Lib.indexByte l c = -1 := by
  rcases Int.lt_or_le (Lib.indexByte l c) 0 with h0 | h0
  · have := Lib.indexByte_ge l c
    omega
  · exfalso
    have := Lib.contains_iff_indexByte l c
    rw [decide_eq_true h0] at this
    exact h c (by simpa using this) rfl
set_option maxHeartbeats 8000000 in
set_option maxRecDepth 1000000 in
/-- A rune from 128 on is in no text of ASCII bytes. -/
theorem indexRune_hi (s : ByteArray) (r : Int) (w : World) (h0 : 128 ≤ r) (h1 : r ≤ 1114111) (hs : s.size < 4294967281) (hascii : ∀ (j : Nat) b, s.data.toList[j]? = some b → b.toNat < 128) :
    Calls Try.prog 66 #[.string s, .int .i32 r] w fun e w' => e = .returned (.int .i64 (-1)) ∧ Below w.heap.size w w' := by
  have HA : Aside (∀ (j : Nat) b, s.data.toList[j]? = some b → b.toNat < 128) := hascii
  clear hascii
  have n128 : decide (r < 128) = false := decide_eq_false (by omega)
  have p0 : decide (0 ≤ r) = true := decide_eq_true (by omega)
  by_cases hE : r = 65533
  · subst hE
    go_enter Try.func66, Try.ntmps66
    go_wp2
    go_loopg [] s.size (fun g wx => ∃ i : Nat, i + g = s.size ∧ wx = w.iter s i)
    case atStart => exact ⟨0, by omega, rfl⟩
    case round =>
      obtain ⟨i, hig, rfl⟩ := hrel
      cases gk with
      | zero =>
        obtain rfl : i = s.size := by omega
        have hnx := run_next_end (P := Try.prog) w s s.size
        go_wp2
        go_ret
        exact ⟨rfl, (Below.refl _ _).alloc (Nat.le_refl _) _⟩
      | succ g =>
        have hi : i < s.size := by omega
        have hx128 : (s[i]'hi).toNat < 128 := HA.out i _ (Lib.data_getElem? s i hi)
        have hnx := fun ty => run_next_ascii (P := Try.prog) w s i ty hi hx128
        obtain ⟨x, hx⟩ : ∃ x : Nat, (s[i]'hi).toNat = x := ⟨_, rfl⟩
        rw [hx] at hnx hx128
        clear hx
        have hne : (((x : Nat) : Int) == 65533) = false := beq_eq_false_iff_ne.2 (by omega)
        go_wp2
        go_roundg g
        case measure => omega
        case rel => exact ⟨i + 1, by omega, rfl⟩
  · have bE : (r == 65533) = false := beq_eq_false_iff_ne.2 hE
    by_cases hv : Lib.validRune r = true
    · have hv' : Utf8.valid r = true := by rw [Go.validRune_eq]; exact hv
      obtain ⟨he2, he4, hlast⟩ := encode_facts r hv' h0
      obtain ⟨t, ht⟩ : ∃ t : ByteArray, Utf8.encode r = t := ⟨_, rfl⟩
      rw [ht] at he2 he4 hlast
      have HT : Aside (Utf8.encode r = t) := ht
      clear ht
      go_enter Try.func66, Try.ntmps66
      go_wp2_with (first | (go_at_call 81; refine (Try.utf8_ValidRune _ _).mono ?_; rintro e w' ⟨rfl, rfl⟩; rw [hv]))
      go_step3
      have hr128 : decide (r < 128) = false := n128
      go_wp2
      obtain ⟨m, hm⟩ : ∃ m, t.size = m + 1 := ⟨t.size - 1, by omega⟩
      have hw : wrap64 ((t.size : Int) - 1) = (m : Int) := by unfold wrap64; omega
      rw [HT.out, hw]
      have hm3 : m ≤ 3 := by omega
      have hmt : m < t.size := by omega
      obtain ⟨c, hc⟩ : ∃ c : UInt8, t[m]'hmt = c := ⟨_, rfl⟩
      have hc128 : 128 ≤ c.toNat := by
        have h1 := hlast (by omega)
        have h2 : t[t.size - 1]'(by omega) = t[m]'hmt := by congr 1; omega
        rw [h2, hc] at h1
        exact h1
      have HM : Aside (t.size = m + 1) := hm
      clear hm hw he2 he4 hlast HT
      refine wp_loop_rounds 1 ?_
      rw [rounds_succ]
      by_cases hlt : m < s.size
      · have hd : decide ((m : Int) < (s.size : Int)) = true := decide_eq_true (by omega)
        have hx128 : (s[m]'hlt).toNat < 128 := HA.out m _ (Lib.data_getElem? s m hlt)
        obtain ⟨x, hx⟩ : ∃ x : UInt8, s[m]'hlt = x := ⟨_, rfl⟩
        rw [hx] at hx128
        have hne : ((x.toNat : Int) != (c.toNat : Int)) = true := bne_iff_ne.2 (by omega)
        have hno : Lib.indexByte (s.extract (m + 1) s.size).data.toList c = -1 := by
          refine indexByte_none _ _ (fun b hb hbc => ?_)
          have hb' := mem_extract hb
          obtain ⟨j, hj⟩ := List.mem_iff_getElem?.1 hb'
          have := HA.out j b hj
          rw [hbc] at this
          omega
        have HN := Lib.hid hno
        clear hno
        have HX := Lib.hid hx
        have HC := Lib.hid hc
        go_wp2_with (fail)
        go_step3
        go_wp2_with (fail)
        have px : (m : Int) < (s.size : Int) := by omega
        have pt : (m : Int) < (t.size : Int) := by omega
        go_quiet (fail)
        generalize hWx : World.drewN _ _ = W2
        have HBW : Aside (Below w'.heap.size w' W2) := by
          rw [← hWx]
          exact pw_below_drewN (Below.refl _ _) _
        clear hWx
        go_wp2_with (fail)
        have e1 : IntKind.i64.wrap ((m : Int) + 1) = (m : Int) + 1 := by rw [i64_w]; unfold wrap64; omega
        have e2 : ((m : Int) + 1).toNat = m + 1 := by omega
        have e3 : (0 : Int) ≤ (m : Int) + 1 := by omega
        have e4 : (m : Int) + 1 ≤ (s.size : Int) := by omega
        go_quiet ((go_at_call 80; exact Calls.quiet_of_same (Try.strings_IndexByte _ _ _)))
        generalize hO : Lib.indexByte _ _ = o
        have ho : o = -1 := by
          rw [← hO]
          simpa using HN.out
        clear hO
        subst ho
        go_wp2_with (fail)
        rw [Exit.noGoto_ret]
        simp only [Exit.inBlock, Exit.then]
        rw [Exit.noGoto_ret]
        simp only [Exit.inBlock]
        go_ret
        exact ⟨rfl, pw_below_drewN HBW.out _⟩
      · have hd : decide ((m : Int) < (s.size : Int)) = false := decide_eq_false (by omega)
        go_wp2
        rw [Exit.noGoto_ret]
        go_ret
        exact ⟨rfl, Below.refl _ _⟩
    · have hv' : Lib.validRune r = false := by simpa using hv
      clear hv
      go_enter Try.func66, Try.ntmps66
      go_wp2_with (first | (go_at_call 81; refine (Try.utf8_ValidRune _ _).mono ?_; rintro e w' ⟨rfl, rfl⟩; rw [hv']))
      go_ret
      exact ⟨rfl, Below.refl _ _⟩
theorem below_iterAt {B : Nat} {a w : World} (h : Below B a w) (k : Nat) (hk : B ≤ k) (s : ByteArray) (pos : Nat) : Below B a (w.iterAt k s pos) :=
  h.trans ⟨rfl, rfl, rfl, by simp [World.iterAt], fun i hi => by simp only [World.iterAt]; rw [Array.getElem?_setIfInBounds_ne (by omega)]⟩
theorem NoAny_step (l chars : List UInt8) (i k : Nat) (h : Lib.NoAny l chars i) (hc : ∀ j, i ≤ j → j < i + k → ∀ b, l[j]? = some b → chars.contains b = false) : Lib.NoAny l chars (i + k) := by
  induction k with
  | zero => exact h
  | succ k ih =>
    have h1 := ih (fun j h1 h2 => hc j h1 (by omega))
    rcases Nat.lt_or_ge (i + k) l.length with hl | hl
    · have hx : l[i + k]? = some l[i + k] := List.getElem?_eq_getElem hl
      exact h1.succ hx (hc (i + k) (by omega) (by omega) _ hx)
    · intro j b hj hb
      have hjl := (List.getElem?_eq_some_iff.1 hb).1
      exact h1 j b (by omega) hb
set_option maxHeartbeats 8000000 in
set_option maxRecDepth 1000000 in
/-- s of at most 8 bytes, of whatever kind; chars of two or more ASCII bytes. -/
theorem indexAny_short (s chars : ByteArray) (w : World) (h2 : 2 ≤ chars.size) (h8 : s.size ≤ 8) (hcs : chars.size < 4294967281) (hac : ∀ (j : Nat) b, chars.data.toList[j]? = some b → b.toNat < 128) :
    Calls Try.prog 57 #[.string s, .string chars] w fun e w' => e = .returned (.int .i64 (Lib.indexAny s.data.toList chars.data.toList)) ∧ Below w.heap.size w w' := by
  have HA : Aside (∀ (j : Nat) b, chars.data.toList[j]? = some b → b.toNat < 128) := hac
  clear hac
  have hemp : chars.toList.isEmpty = false := by
    rw [Lib.toList_data]
    cases h : chars.data.toList with
    | nil => have := Lib.size_eq chars; rw [h, List.length_nil] at this; omega
    | cons _ _ => rfl
  have hn1 : ((chars.size : Int) == 1) = false := beq_eq_false_iff_ne.2 (by omega)
  have h8z : decide ((8 : Int) < (s.size : Int)) = false := decide_eq_false (by omega)
  go_enter Try.func57, Try.ntmps57
  go_wp2_with (go_at_call 67; refine (Try.strings_shouldUseASCIISet _ _).mono ?_; rintro e w' ⟨rfl, rfl⟩; rw [h8z])
  have HB0 : Aside (Below w'.heap.size w' (w'.iter s 0)) := (Below.refl _ _).alloc (Nat.le_refl _) _
  have HI0 : Aside ((w'.iter s 0).heap[w'.heap.size]? = some (.stringIter s 0)) := World.iter_heap _ _ _
  generalize w'.iter s 0 = wi at *
  go_loopg [] s.size (fun g wx => ∃ i : Nat, s.size ≤ i + g ∧ i ≤ s.size ∧ Aside (wx.heap[w'.heap.size]? = some (.stringIter s i)) ∧ Aside (Below w'.heap.size w' wx) ∧ Aside (Lib.NoAny s.data.toList chars.data.toList i))
  case atStart => exact ⟨0, by omega, by omega, HI0, HB0, Lib.NoAny.zero _ _⟩
  case round =>
    clear HB0 HI0
    obtain ⟨i, hig, his, HI, HB, HN⟩ := hrel
    by_cases hi : i < s.size
    · obtain ⟨g, rfl⟩ : ∃ g, gk = g + 1 := ⟨gk - 1, by omega⟩
      have hnx := fun ty => Lib.run_next_any_at (P := Try.prog) wr w'.heap.size s i ty HI.out hi
      have HB2 : Aside (Below w'.heap.size w' (wr.iterAt w'.heap.size s (i + (Utf8.decode s i).2))) := below_iterAt HB.out _ (Nat.le_refl _) _ _
      have HI2 : Aside ((wr.iterAt w'.heap.size s (i + (Utf8.decode s i).2)).heap[w'.heap.size]? = some (.stringIter s (i + (Utf8.decode s i).2))) := Lib.iterAt_heap _ _ _ _ _ HI.out
      obtain ⟨W2, hW2⟩ : ∃ W2, wr.iterAt w'.heap.size s (i + (Utf8.decode s i).2) = W2 := ⟨_, rfl⟩
      rw [hW2] at hnx HB2 HI2
      clear hW2
      have hsz : w'.heap.size < W2.heap.size := by
        rcases Nat.lt_or_ge w'.heap.size W2.heap.size with h | h
        · exact h
        · have := HI2.out
          rw [Array.getElem?_eq_none h] at this
          exact absurd this (by simp)
      by_cases hx : 128 ≤ (s.get! i).toNat
      · obtain ⟨d1, d2, d3, d4, d5⟩ := dec_hi s i hi hx
        obtain ⟨c, hc⟩ : ∃ c, (Utf8.decode s i).1 = c := ⟨_, rfl⟩
        obtain ⟨k, hk⟩ : ∃ k, (Utf8.decode s i).2 = k := ⟨_, rfl⟩
        rw [hc] at hnx d3 d4
        rw [hk] at d1 d2 d5 HI2
        clear hc hk hx
        have HN2 : Aside (Lib.NoAny s.data.toList chars.data.toList (i + k)) := NoAny_step _ _ _ _ HN.out (fun j h1 h2 b hb => by
          have hjs : j < s.size := by omega
          rw [get_data s j hjs] at hb
          obtain rfl := Option.some.inj hb
          have hhi := d5 (j - i) (by omega)
          rw [show i + (j - i) = j by omega] at hhi
          rcases hcon : chars.data.toList.contains (s.get! j) with _ | _
          · rfl
          · exfalso
            obtain ⟨q, hq⟩ := List.mem_iff_getElem?.1 (by simpa using hcon : s.get! j ∈ chars.data.toList)
            have := HA.out q _ hq
            omega)
        clear d5 HN
        go_wp2_with (go_at_call 66; refine (indexRune_hi _ _ _ (by omega) (by omega) hcs HA.out).mono ?_; rintro e w3 ⟨rfl, hb3⟩)
        go_roundg g
        case measure => omega
        case rel => exact ⟨i + k, by omega, by omega, (by show w3.heap[_]? = _; rw [hb3.block _ hsz]; exact HI2.out), HB2.out.trans (hb3.mono (by omega)), HN2⟩
      · have h0 : Utf8.decode s i = ((s.get! i).toNat, 1) := by
          unfold Utf8.decode
          simp only [Nat.add_zero]
          rw [if_pos (by omega)]
        rw [h0] at hnx HI2
        obtain ⟨x, hxx⟩ : ∃ x : UInt8, s.get! i = x := ⟨_, rfl⟩
        have Hx : Aside (s.data.toList[i]? = some x) := by rw [← hxx]; exact get_data s i hi
        rw [hxx] at hnx hx
        clear hxx h0
        have hcon := Lib.contains_iff_indexByte chars.data.toList x
        have hback : ((x.toNat : Int)).toNat.toUInt8 = x := by simp
        cases hin : chars.data.toList.contains x
        · rw [hin] at hcon
          have hlt : ¬ ((0 : Int) ≤ Lib.indexByte chars.data.toList x) := of_decide_eq_false hcon.symm
          clear hcon
          go_wp2_with (go_at_call 66; refine (Try.strings_IndexRune_ascii _ _ _ (by omega) (by omega)).mono ?_; rintro e w3 ⟨rfl, hw⟩; rw [hw, hback])
          go_roundg g
          case measure => omega
          case rel => exact ⟨i + 1, by omega, by omega, HI2, HB2, HN.out.succ Hx.out hin⟩
        · rw [hin] at hcon
          have hge : (0 : Int) ≤ Lib.indexByte chars.data.toList x := of_decide_eq_true hcon.symm
          clear hcon
          go_wp2_with (go_at_call 66; refine (Try.strings_IndexRune_ascii _ _ _ (by omega) (by omega)).mono ?_; rintro e w3 ⟨rfl, hw⟩; rw [hw, hback])
          go_ret
          exact ⟨by rw [Lib.indexAny_hit HN.out Hx.out hin]; rfl, HB2.out⟩
    · obtain rfl : i = s.size := by omega
      have hnx := fun ty => Lib.run_next_end_at (P := Try.prog) wr w'.heap.size s s.size ty HI.out (by omega)
      go_wp2
      go_ret
      exact ⟨by rw [Lib.indexAny_none (by rw [← Lib.size_eq]; exact HN.out)]; rfl, HB.out⟩
end ContainsAny
def strings_ContainsAny.f (a0 a1 : ByteArray) : Option Bool := if a0.size < 4294967281 ∧ 2 ≤ a1.size ∧ a1.size < 4294967281 ∧ (a1.data.toList.all fun b => decide (b.toNat < 128)) = true then some (Lib.containsAny a0.data.toList a1.data.toList) else none
set_option maxHeartbeats 2000000 in
theorem strings_ContainsAny.calls (a0 a1 : ByteArray) (r : Bool) (w : World) (hG : Glob w) (h : strings_ContainsAny.f a0 a1 = some r) :
    Calls Try.prog 38 #[.string a0, .string a1] w fun e w' => e = .returned (.bool r) ∧ Below w.heap.size w w' := by
  unfold strings_ContainsAny.f at h
  split at h
  · rename_i hs
    obtain ⟨hs0, hs1, hs2, hs3⟩ := hs
    obtain rfl := Option.some.inj h
    have hac : ∀ (j : Nat) b, a1.data.toList[j]? = some b → b.toNat < 128 := fun j b hb => by
      have := List.all_eq_true.1 hs3 b (List.mem_iff_getElem?.2 ⟨j, hb⟩)
      simpa using this
    clear hs3
    have C : Calls Try.prog 57 #[.string a0, .string a1] w fun e w' => e = .returned (.int .i64 (Lib.indexAny a0.data.toList a1.data.toList)) ∧ Below w.heap.size w w' := by
      rcases Nat.lt_or_ge 8 a0.size with h8 | h8
      · exact (Try.strings_IndexAny_long (fun w => by kernel_rfl) a0 a1 w hs1 h8 hs0 hs2 hac).mono fun e w' hh => ⟨hh.1, by rw [hh.2]; exact ((Below.refl _ _).alloc (Nat.le_refl _) _).alloc (by simp) _⟩
      · exact ContainsAny.indexAny_short a0 a1 w hs1 h8 hs2 hac
    clear hac
    go_enter Try.func38, Try.ntmps38
    go_wp2_with (go_at_call 57; refine C.mono ?_; rintro e w3 ⟨rfl, hb3⟩)
    go_ret
    exact ⟨rfl, hb3⟩
  · exact absurd h (by simp)



end Go.Proofs.Ytmpdpfojiepdkaa.Q

-- Printed by this session's wip/np.py over the kit's print program. Not trusted: Lean checks it.
namespace Go.Proofs.Ytmpdpfojiepdkaa.Q
open Go.RowKit Go.Proofs.YtmpdpfojiepdkaaW.PrintWords Go.Proofs.YtmpdpfojiepdkaaW.PrintLast Go.Proofs.YtmpdpfojiepdkaaW.Own Go.Proofs.YtmpdpfojiepdkaaW.PrintMore
attribute [local go_sem] max2_int min2_int max_two min_two max_three min_three max_four min_four
set_option linter.unusedVariables false
set_option linter.unusedSimpArgs false

/-! ### expr_Split: function 14 -/
mutual
def expr_Split.l0 : Nat → ByteArray → List (S29) → Option ((List (S29)) × Int)
 | 0, _, _ => none
 | k + 1, x0, x4 => (strings_Cut.f x0 (⟨#[36, 123]⟩ : ByteArray)).bind fun bt101 => (if bt101.1.toList = ([] : List UInt8) then (expr_Split.j1 k x4 bt101.2.1 bt101.2.2) else (if x4.length < 5864062014805 then (expr_Split.j1 k (x4 ++ [(⟨false, bt101.1⟩ : S29)]) bt101.2.1 bt101.2.2) else (none)))
def expr_Split.j1 : Nat → List (S29) → ByteArray → Bool → Option ((List (S29)) × Int)
 | 0, _, _, _ => none
 | k + 1, x4, x6, x7 => if x7 = true then ((strings_Cut.f x6 (⟨#[125]⟩ : ByteArray)).bind fun bt107 => (if bt107.2.2 = true then (if bt107.1.toList = ([] : List UInt8) then (some (([] : List (S29)), 17)) else ((strings_ContainsAny.f bt107.1 (⟨#[36, 123]⟩ : ByteArray)).bind fun t110 => (if t110 = true then (some (([] : List (S29)), 17)) else (if x4.length < 5864062014805 then (expr_Split.l0 k bt107.2.1 (x4 ++ [(⟨true, bt107.1⟩ : S29)])) else (none))))) else (some (([] : List (S29)), 17)))) else (some (x4, 0))
end
def expr_Split.f (k : Nat) (a0 : ByteArray) : Option ((List (S29)) × Int) := expr_Split.l0 k a0 ([] : List (S29))
theorem expr_Split.mono_l : ∀ k, (∀ y0 y1, LeO (expr_Split.l0 k y0 y1) (expr_Split.l0 (k + 1) y0 y1)) ∧ (∀ y0 y1 y2, LeO (expr_Split.j1 k y0 y1 y2) (expr_Split.j1 (k + 1) y0 y1 y2))
 | 0 => ⟨fun _ _ r h => by simp [expr_Split.l0] at h, fun _ _ _ r h => by simp [expr_Split.j1] at h⟩
 | k + 1 => by
  obtain ⟨ih0, ih1⟩ := expr_Split.mono_l k
  refine ⟨?_, ?_⟩
  ·intro y0 y1
   unfold expr_Split.l0
   repeat' first
   | (with_reducible exact ih0 _ _)
   | (with_reducible exact ih1 _ _ _)
   | (with_reducible exact LeO.refl _)
   | (with_reducible exact LeO.none _)
   | (with_reducible refine LeO.ite ?_ ?_)
   | (with_reducible refine LeO.bind ?_ (fun _ => ?_))
   | exact ih0 _ _
   | exact ih1 _ _ _
   | exact LeO.none _
   | refine LeO.ite ?_ ?_
   | refine LeO.bind ?_ (fun _ => ?_)
  ·intro y0 y1 y2
   unfold expr_Split.j1
   repeat' first
   | (with_reducible exact ih0 _ _)
   | (with_reducible exact ih1 _ _ _)
   | (with_reducible exact LeO.refl _)
   | (with_reducible exact LeO.none _)
   | (with_reducible refine LeO.ite ?_ ?_)
   | (with_reducible refine LeO.bind ?_ (fun _ => ?_))
   | exact ih0 _ _
   | exact ih1 _ _ _
   | exact LeO.none _
   | refine LeO.ite ?_ ?_
   | refine LeO.bind ?_ (fun _ => ?_)
theorem expr_Split.mono : ∀ a0 k, LeO (expr_Split.f k a0) (expr_Split.f (k + 1) a0) := by
 intro a0 k
 obtain ⟨ih0, ih1⟩ := expr_Split.mono_l k
 unfold expr_Split.f
 repeat' first
  | (with_reducible exact ih0 _ _)
  | (with_reducible exact ih1 _ _ _)
  | (with_reducible exact LeO.refl _)
  | (with_reducible exact LeO.none _)
  | (with_reducible refine LeO.ite ?_ ?_)
  | (with_reducible refine LeO.bind ?_ (fun _ => ?_))
  | exact ih0 _ _
  | exact ih1 _ _ _
  | exact LeO.none _
  | refine LeO.ite ?_ ?_
  | refine LeO.bind ?_ (fun _ => ?_)
set_option maxHeartbeats 8000000 in
set_option maxRecDepth 100000 in
theorem expr_Split.calls (k : Nat) (a0 : ByteArray) (r1 : List (S29)) (r2 : Int) (w : World) (hG : Glob w) (h : expr_Split.f k a0 = some (r1, r2)) :
 Calls Try.prog 14 #[.string a0] w fun e w' => ∃ v0_ : Value, e = .returned (.tuple #[v0_, .int .i64 r2]) ∧ Kd.R k29 29 w' w.heap.size (fun _ => True) v0_ r1 ∧ Below w.heap.size w w' := by
 have hu29 := Try.underlying29
 have HG := Aside0.mk hG
 clear hG
 have HB := Aside0.mk (Below.refl w.heap.size w)
 have H : (expr_Split.l0 k a0 ([] : List (S29))) = some (r1, r2) := h
 clear h
 have HS2 := Aside0.mk H
 clear H
 go_enter Try.func14, Try.ntmps14
 go_wp2
 refine wp_scope_loop 0 (by rfl) ?_
 have H := HS2.out
 clear HS2
 have H' := Aside0.mk H
 clear H
 go_wp2
 refine wp_label ?_
 rename_i hlb
 refine hlb _ _ ?_
 refine wp_at_label ?_
 refine LoopAt.intro (fun aB_ kq_ a1 w1 => ∃ (u0 u2 u3 u4 u5 u6 u7 u8 u9 u10 u11 u12 u13 u14 u15 u16 u17 u18 u19 u20 u21 u22 u23 u24 u25 u26 u27 u28 u29 u30 u31 u32 u33 u34 u35 u36 u37 u38 u39 u40 u41 u42 u43 u44 u45 u46 u47 u48 : Value), (fun kq v0 v4 w' => ∃ (x0_1 : ByteArray) (x4_1 : List (S29)), v0 = .string x0_1 ∧ Aside0 (expr_Split.l0 kq x0_1 x4_1 = some (r1, r2)) ∧ Aside0 (kq ≤ k) ∧ Aside0 (Kd.R k29 29 w' w.heap.size (fun _ => True) v4 x4_1) ∧ Aside0 (Below w.heap.size w w')) kq_ u0 u4 w1 ∧ a1 = ((((((((((((((((((((((((((((((((((((((((((((((((aB_.put (some 0) u0).put (some 2) u2).put (some 3) u3).put (some 4) u4).put (some 5) u5).put (some 6) u6).put (some 7) u7).put (some 8) u8).put (some 9) u9).put (some 10) u10).put (some 11) u11).put (some 12) u12).put (some 13) u13).put (some 14) u14).put (some 15) u15).put (some 16) u16).put (some 17) u17).put (some 18) u18).put (some 19) u19).put (some 20) u20).put (some 21) u21).put (some 22) u22).put (some 23) u23).put (some 24) u24).put (some 25) u25).put (some 26) u26).put (some 27) u27).put (some 28) u28).put (some 29) u29).put (some 30) u30).put (some 31) u31).put (some 32) u32).put (some 33) u33).put (some 34) u34).put (some 35) u35).put (some 36) u36).put (some 37) u37).put (some 38) u38).put (some 39) u39).put (some 40) u40).put (some 41) u41).put (some 42) u42).put (some 43) u43).put (some 44) u44).put (some 45) u45).put (some 46) u46).put (some 47) u47).put (some 48) u48)) k ?_ ?_
 ·(repeat apply Exists.intro)
  (try simp only [Act.put, List.setIfInBounds_toArray, List.set_cons_zero, List.set_cons_succ])
  refine ⟨?_, rfl⟩
  exact ⟨(a0), (([] : List (S29))), (by first | rfl | (simp; done) | (simp [*]; done) | (simp; exact isEmpty_bne _)), H', ⟨Nat.le_refl _⟩, ⟨by first | exact Kd.R_nil _ _ _ _ _ | exact Kd.N_nil _ _ _ _ _ | exact Kd.V_nil _ _ _ _ _ | exact Kd.Q_nil _ _ _ _ _ | exact Kd.S_nil _ _ _ _ _⟩, ⟨by repeat (first | (with_reducible first | exact HB.out | apply below_alloc | apply pw_below_drewN | apply below_drew1) | exact HB.out)⟩⟩
 ·intro gk a1 wr hinv
  obtain ⟨u0, u2, u3, u4, u5, u6, u7, u8, u9, u10, u11, u12, u13, u14, u15, u16, u17, u18, u19, u20, u21, u22, u23, u24, u25, u26, u27, u28, u29, u30, u31, u32, u33, u34, u35, u36, u37, u38, u39, u40, u41, u42, u43, u44, u45, u46, u47, u48, hrel, ha⟩ := hinv
  subst ha
  (try simp only [Act.put, List.setIfInBounds_toArray, List.set_cons_zero, List.set_cons_succ])
  intro Js0 Ks0 hJs0 hKs0
  clear H'
  try clear c1
  try clear p2
  obtain ⟨x0_1, x4_1, rfl, HA, HK1, HO_4, HB⟩ := hrel
  cases gk with
  | zero => exact absurd HA.out (by simp [expr_Split.l0])
  | succ k1 =>
   have H := HA.out
   clear HA
   simp only [expr_Split.l0] at H
   replace H := Option.bind_eq_some_iff.mp H
   obtain ⟨⟨t101, t102, t103⟩, A30, H⟩ := H
   replace H : (if t101.toList = ([] : List UInt8) then (expr_Split.j1 k1 x4_1 t102 t103) else (if x4_1.length < 5864062014805 then (expr_Split.j1 k1 (x4_1 ++ [(⟨false, t101⟩ : S29)]) t102 t103) else (none))) = some (r1, r2) := H
   have A3 := Aside0.mk A30
   clear A30
   have HC4 := Aside0.mk H
   clear H
   go_upto_if 18 with (first | ((with_reducible refine gate_callee (f := 37) rfl ?_); refine goesL_ (some 13) rfl rfl Try.func37 (by kernel_rfl) rfl #[.string x0_1, .string (⟨#[36, 123]⟩ : ByteArray)] rfl (by (try simp only [List.map_toArray, List.map_cons, List.map_nil]); first | done | rfl | (simp only [List.length_drop, List.length_take]; rfl)) ?_; (with_reducible refine (strings_Cut.calls x0_1 (⟨#[36, 123]⟩ : ByteArray) t101 t102 t103 _ ?side1 A3.out).mono ?_); (case side1 => exact Glob.step HG.out (by repeat (first | (with_reducible first | exact HB.out | apply below_alloc | apply pw_below_drewN | apply below_drew1) | exact HB.out))); rintro e w' ⟨rfl, ⟨nd, rfl⟩⟩; refine ⟨_, rfl, ?_⟩))
   (try simp only [Act.put, List.setIfInBounds_toArray, List.set_cons_zero, List.set_cons_succ])
   go_cut [4] (fun v4 wc => ∃ (kq : Nat) (x4_3 : List (S29)), Aside0 (expr_Split.j1 kq x4_3 t102 t103 = some (r1, r2)) ∧ Aside0 (kq ≤ k1) ∧ Aside0 (Kd.R k29 29 wc w.heap.size (fun _ => True) v4 x4_3) ∧ Aside0 (Below w.heap.size w wc))
   case first =>
    have H := HC4.out
    clear HC4
    by_cases c5 : t101.toList = ([] : List UInt8)
    ·rw [if_pos c5] at H
     have c5b0 : (t101.toList == ([] : List UInt8)) = true := beq_iff_eq.mpr c5
     have c5b1 : (t101.toList != ([] : List UInt8)) = false := bne_eq_false_iff_eq.mpr c5
     (try (have c5b2 : t101.toList.isEmpty = true := by simpa using c5))
     clear c5
     (first | rw [c5b0] | rw [c5b2] | (simp only [i64_w, i32_w]; rw [c5b0]) | skip)
     have H' := Aside0.mk H
     clear H
     go_wp2
     go_meet
     case rel => exact ⟨_, (x4_1), H', ⟨by have := HK1.out; first | omega | exact Nat.le_refl _⟩, ⟨by (with_reducible repeat (first | apply Kd.R_alloc | apply Kd.R_drewN | apply Kd.R_drew)); exact HO_4.out⟩, ⟨by repeat (first | (with_reducible first | exact HB.out | apply below_alloc | apply pw_below_drewN | apply below_drew1) | exact HB.out)⟩⟩
    ·rw [if_neg c5] at H
     have c5b0 : (t101.toList == ([] : List UInt8)) = false := beq_eq_false_iff_ne.mpr c5
     have c5b1 : (t101.toList != ([] : List UInt8)) = true := bne_iff_ne.mpr c5
     (try (have c5b2 : t101.toList.isEmpty = false := by simpa using c5))
     (first | rw [c5b0] | rw [c5b2] | (simp only [i64_w, i32_w]; rw [c5b0]) | skip)
     by_cases c6 : x4_1.length < 5864062014805
     ·rw [if_pos c6] at H
      have LMc6 := Aside0.mk c6
      clear c6
      obtain ⟨y104, hy104⟩ : ∃ y_ : List (S29), y_ = (x4_1 ++ [(⟨false, t101⟩ : S29)]) := ⟨_, rfl⟩
      replace H : (expr_Split.j1 k1 y104 t102 t103) = some (r1, r2) := by first | (rw [hy104]; with_reducible exact H) | (have H2_ := (Option.bind_some _ _).symm.trans H; rw [hy104]; with_reducible exact H2_) | (have H2_ := (Option.bind_some _ _).symm.trans H; with_reducible exact H2_) | with_reducible exact H | (rw [hy104]; exact H) | exact H
      have Ny104 := Aside0.mk hy104
      clear hy104
      have H' := Aside0.mk H
      clear H
      go_wp2_with (first | ((with_reducible refine gate_builtin (b := .append) (xs := #[.tmp 19, .tmp 22]) rfl ?_); at_builtin; refine Kd.R_append k29 (w0 := w) w.heap.size rfl (.tmp 19) (.tmp 22) 22 29 (.agg #[(.bool false), (.string ⟨#[]⟩)]) 24 rfl Try.underlying22 info29 rfl (by decide) (by omega) u4 x4_1 (⟨false, t101⟩ : S29) [.bool false, .string t101] (fun _ => True) (fun _ => False) rfl rfl ?aP (fun _ hk => hk.elim) ?aF ?aO ?aB ?aS ?aL ?_; (case aP => exact k29_mkM _ _ _ (⟨false, t101⟩ : S29)); (case aB => exact (by repeat (first | (with_reducible first | exact HB.out | apply below_alloc | apply pw_below_drewN | apply below_drew1) | exact HB.out))); (case aF => exact (fun _ _ => trivial)); (case aO => exact (by (with_reducible repeat (first | apply Kd.R_alloc | apply Kd.R_drewN | apply Kd.R_drew)); exact HO_4.out)); (case aS => exact (below_size (by repeat (first | (with_reducible first | exact HB.out | apply below_alloc | apply pw_below_drewN | apply below_drew1) | exact HB.out)))); (case aL => have := LMc6.out; omega); intro v105 w7 ho hb hg hat; rw [← Ny104.out] at ho; have n0_ := Aside0.mk (hb); have n1_ := Aside0.mk (ho); clear HB; clear HO_4; have HB := n0_; have HO106 := n1_; clear n0_ n1_; clear ho hb hg hat))
      go_meet
      case rel => exact ⟨_, (y104), H', ⟨by have := HK1.out; first | omega | exact Nat.le_refl _⟩, ⟨by (with_reducible repeat (first | apply Kd.R_alloc | apply Kd.R_drewN | apply Kd.R_drew)); exact HO106.out⟩, ⟨by repeat (first | (with_reducible first | exact HB.out | apply below_alloc | apply pw_below_drewN | apply below_drew1) | exact HB.out)⟩⟩
     ·rw [if_neg c6] at H
      exact absurd H (by simp)
   case rest =>
    clear HC4
    try clear c1
    try clear p2
    try clear c3
    try clear c5
    try clear c5b0
    try clear c5b1
    try clear c5b2
    try clear c6
    try clear p2
    obtain ⟨kq, x4_3, HA, HJ3, HO_4, HB⟩ := hcut
    cases kq with
    | zero => exact absurd HA.out (by simp [expr_Split.j1])
    | succ kj3 =>
     have H := HA.out
     clear HA
     simp only [expr_Split.j1] at H
     by_cases c8 : t103 = true
     ·subst c8
      have H1 : ((strings_Cut.f t102 (⟨#[125]⟩ : ByteArray)).bind fun bt107 => (if bt107.2.2 = true then (if bt107.1.toList = ([] : List UInt8) then (some (([] : List (S29)), 17)) else ((strings_ContainsAny.f bt107.1 (⟨#[36, 123]⟩ : ByteArray)).bind fun t110 => (if t110 = true then (some (([] : List (S29)), 17)) else (if x4_3.length < 5864062014805 then (expr_Split.l0 kj3 bt107.2.1 (x4_3 ++ [(⟨true, bt107.1⟩ : S29)])) else (none))))) else (some (([] : List (S29)), 17)))) = some (r1, r2) := by rw [if_pos rfl] at H; exact H
      clear H
      have H := H1
      clear H1
      replace H := Option.bind_eq_some_iff.mp H
      obtain ⟨⟨t107, t108, t109⟩, A90, H⟩ := H
      replace H : (if t109 = true then (if t107.toList = ([] : List UInt8) then (some (([] : List (S29)), 17)) else ((strings_ContainsAny.f t107 (⟨#[36, 123]⟩ : ByteArray)).bind fun t110 => (if t110 = true then (some (([] : List (S29)), 17)) else (if x4_3.length < 5864062014805 then (expr_Split.l0 kj3 t108 (x4_3 ++ [(⟨true, t107⟩ : S29)])) else (none))))) else (some (([] : List (S29)), 17))) = some (r1, r2) := H
      have A9 := Aside0.mk A90
      clear A90
      by_cases c10 : t109 = true
      ·subst c10
       have H1 : (if t107.toList = ([] : List UInt8) then (some (([] : List (S29)), 17)) else ((strings_ContainsAny.f t107 (⟨#[36, 123]⟩ : ByteArray)).bind fun t110 => (if t110 = true then (some (([] : List (S29)), 17)) else (if x4_3.length < 5864062014805 then (expr_Split.l0 kj3 t108 (x4_3 ++ [(⟨true, t107⟩ : S29)])) else (none))))) = some (r1, r2) := by rw [if_pos rfl] at H; exact H
       clear H
       have H := H1
       clear H1
       by_cases c11 : t107.toList = ([] : List UInt8)
       ·rw [if_pos c11] at H
        have c11b0 : (t107.toList == ([] : List UInt8)) = true := beq_iff_eq.mpr c11
        have c11b1 : (t107.toList != ([] : List UInt8)) = false := bne_eq_false_iff_eq.mpr c11
        (try (have c11b2 : t107.toList.isEmpty = true := by simpa using c11))
        clear c11
        simp only [Option.some.injEq, Prod.mk.injEq] at H
        obtain ⟨rfl, rfl⟩ := H
        go_wp2_with (first | ((with_reducible refine gate_callee (f := 37) rfl ?_); refine goesL_ (some 29) rfl rfl Try.func37 (by kernel_rfl) rfl #[.string t102, .string (⟨#[125]⟩ : ByteArray)] rfl (by (try simp only [List.map_toArray, List.map_cons, List.map_nil]); first | done | rfl | (simp only [List.length_drop, List.length_take]; rfl)) ?_; (with_reducible refine (strings_Cut.calls t102 (⟨#[125]⟩ : ByteArray) t107 t108 true _ ?side1 A9.out).mono ?_); (case side1 => exact Glob.step HG.out (by repeat (first | (with_reducible first | exact HB.out | apply below_alloc | apply pw_below_drewN | apply below_drew1) | exact HB.out))); rintro e w' ⟨rfl, ⟨nd, rfl⟩⟩; refine ⟨_, rfl, ?_⟩))
        (try simp only [Exit.inBlock, Exit.then, jump_ret])
        go_ret2
        exact ⟨_, by first | rfl | (simp [errW_none, errW_some] <;> rfl) | (simp [*, errW_none, errW_some] <;> rfl), by first | exact Kd.R_nil _ _ _ _ _ | exact Kd.N_nil _ _ _ _ _ | exact Kd.V_nil _ _ _ _ _ | exact Kd.Q_nil _ _ _ _ _ | exact Kd.S_nil _ _ _ _ _, by repeat (first | (with_reducible first | exact HB.out | apply below_alloc | apply pw_below_drewN | apply below_drew1) | exact HB.out)⟩
       ·rw [if_neg c11] at H
        have c11b0 : (t107.toList == ([] : List UInt8)) = false := beq_eq_false_iff_ne.mpr c11
        have c11b1 : (t107.toList != ([] : List UInt8)) = true := bne_iff_ne.mpr c11
        (try (have c11b2 : t107.toList.isEmpty = false := by simpa using c11))
        replace H := Option.bind_eq_some_iff.mp H
        obtain ⟨t110, A120, H⟩ := H
        replace H : (if t110 = true then (some (([] : List (S29)), 17)) else (if x4_3.length < 5864062014805 then (expr_Split.l0 kj3 t108 (x4_3 ++ [(⟨true, t107⟩ : S29)])) else (none))) = some (r1, r2) := H
        have A12 := Aside0.mk A120
        clear A120
        by_cases c13 : t110 = true
        ·subst c13
         have H1 : (some (([] : List (S29)), 17)) = some (r1, r2) := by rw [if_pos rfl] at H; exact H
         clear H
         have H := H1
         clear H1
         simp only [Option.some.injEq, Prod.mk.injEq] at H
         obtain ⟨rfl, rfl⟩ := H
         go_wp2_with (first | ((with_reducible refine gate_callee (f := 37) rfl ?_); refine goesL_ (some 29) rfl rfl Try.func37 (by kernel_rfl) rfl #[.string t102, .string (⟨#[125]⟩ : ByteArray)] rfl (by (try simp only [List.map_toArray, List.map_cons, List.map_nil]); first | done | rfl | (simp only [List.length_drop, List.length_take]; rfl)) ?_; (with_reducible refine (strings_Cut.calls t102 (⟨#[125]⟩ : ByteArray) t107 t108 true _ ?side1 A9.out).mono ?_); (case side1 => exact Glob.step HG.out (by repeat (first | (with_reducible first | exact HB.out | apply below_alloc | apply pw_below_drewN | apply below_drew1) | exact HB.out))); rintro e w' ⟨rfl, ⟨nd, rfl⟩⟩; refine ⟨_, rfl, ?_⟩) | (go_at_call 38; (with_reducible refine (strings_ContainsAny.calls t107 (⟨#[36, 123]⟩ : ByteArray) true _ ?side1 A12.out).mono ?_); (case side1 => exact Glob.step HG.out (by repeat (first | (with_reducible first | exact HB.out | apply below_alloc | apply pw_below_drewN | apply below_drew1) | exact HB.out))); rintro e w14 ⟨rfl, hb⟩; have n0_ := Aside0.mk (Kd.R_below (by (with_reducible repeat (first | apply Kd.R_alloc | apply Kd.R_drewN | apply Kd.R_drew)); exact HO_4.out) hb); have n1_ := Aside0.mk (below_step (by repeat (first | (with_reducible first | exact HB.out | apply below_alloc | apply pw_below_drewN | apply below_drew1) | exact HB.out)) hb); clear HO_4; clear HB; have HO_4 := n0_; have HB := n1_; clear n0_ n1_; (try clear hb); (try clear hb2); (try clear hk); (try clear hi)))
         (try simp only [Exit.inBlock, Exit.then, jump_ret])
         go_ret2
         exact ⟨_, by first | rfl | (simp [errW_none, errW_some] <;> rfl) | (simp [*, errW_none, errW_some] <;> rfl), by first | exact Kd.R_nil _ _ _ _ _ | exact Kd.N_nil _ _ _ _ _ | exact Kd.V_nil _ _ _ _ _ | exact Kd.Q_nil _ _ _ _ _ | exact Kd.S_nil _ _ _ _ _, by repeat (first | (with_reducible first | exact HB.out | apply below_alloc | apply pw_below_drewN | apply below_drew1) | exact HB.out)⟩
        ·replace c13 := Bool.eq_false_iff.mpr c13
         subst c13
         have H1 : (if x4_3.length < 5864062014805 then (expr_Split.l0 kj3 t108 (x4_3 ++ [(⟨true, t107⟩ : S29)])) else (none)) = some (r1, r2) := by rw [if_neg (show ¬ (false = true) by decide)] at H; exact H
         clear H
         have H := H1
         clear H1
         by_cases c15 : x4_3.length < 5864062014805
         ·rw [if_pos c15] at H
          have LMc15 := Aside0.mk c15
          clear c15
          obtain ⟨y111, hy111⟩ : ∃ y_ : List (S29), y_ = (x4_3 ++ [(⟨true, t107⟩ : S29)]) := ⟨_, rfl⟩
          replace H : (expr_Split.l0 kj3 t108 y111) = some (r1, r2) := by first | (rw [hy111]; with_reducible exact H) | (have H2_ := (Option.bind_some _ _).symm.trans H; rw [hy111]; with_reducible exact H2_) | (have H2_ := (Option.bind_some _ _).symm.trans H; with_reducible exact H2_) | with_reducible exact H | (rw [hy111]; exact H) | exact H
          have Ny111 := Aside0.mk hy111
          clear hy111
          have H' := Aside0.mk H
          clear H
          go_wp2_with (first | ((with_reducible refine gate_callee (f := 37) rfl ?_); refine goesL_ (some 29) rfl rfl Try.func37 (by kernel_rfl) rfl #[.string t102, .string (⟨#[125]⟩ : ByteArray)] rfl (by (try simp only [List.map_toArray, List.map_cons, List.map_nil]); first | done | rfl | (simp only [List.length_drop, List.length_take]; rfl)) ?_; (with_reducible refine (strings_Cut.calls t102 (⟨#[125]⟩ : ByteArray) t107 t108 true _ ?side1 A9.out).mono ?_); (case side1 => exact Glob.step HG.out (by repeat (first | (with_reducible first | exact HB.out | apply below_alloc | apply pw_below_drewN | apply below_drew1) | exact HB.out))); rintro e w' ⟨rfl, ⟨nd, rfl⟩⟩; refine ⟨_, rfl, ?_⟩) | (go_at_call 38; (with_reducible refine (strings_ContainsAny.calls t107 (⟨#[36, 123]⟩ : ByteArray) false _ ?side1 A12.out).mono ?_); (case side1 => exact Glob.step HG.out (by repeat (first | (with_reducible first | exact HB.out | apply below_alloc | apply pw_below_drewN | apply below_drew1) | exact HB.out))); rintro e w16 ⟨rfl, hb⟩; have n0_ := Aside0.mk (Kd.R_below (by (with_reducible repeat (first | apply Kd.R_alloc | apply Kd.R_drewN | apply Kd.R_drew)); exact HO_4.out) hb); have n1_ := Aside0.mk (below_step (by repeat (first | (with_reducible first | exact HB.out | apply below_alloc | apply pw_below_drewN | apply below_drew1) | exact HB.out)) hb); clear HO_4; clear HB; have HO_4 := n0_; have HB := n1_; clear n0_ n1_; (try clear hb); (try clear hb2); (try clear hk); (try clear hi)) | ((with_reducible refine gate_builtin (b := .append) (xs := #[.tmp 43, .tmp 46]) rfl ?_); at_builtin; refine Kd.R_append k29 (w0 := w) w.heap.size rfl (.tmp 43) (.tmp 46) 22 29 (.agg #[(.bool false), (.string ⟨#[]⟩)]) 24 rfl Try.underlying22 info29 rfl (by decide) (by omega) u4 x4_3 (⟨true, t107⟩ : S29) [.bool true, .string t107] (fun _ => True) (fun _ => False) rfl rfl ?aP (fun _ hk => hk.elim) ?aF ?aO ?aB ?aS ?aL ?_; (case aP => exact k29_mkM _ _ _ (⟨true, t107⟩ : S29)); (case aB => exact (by repeat (first | (with_reducible first | exact HB.out | apply below_alloc | apply pw_below_drewN | apply below_drew1) | exact HB.out))); (case aF => exact (fun _ _ => trivial)); (case aO => exact (by (with_reducible repeat (first | apply Kd.R_alloc | apply Kd.R_drewN | apply Kd.R_drew)); exact HO_4.out)); (case aS => exact (below_size (by repeat (first | (with_reducible first | exact HB.out | apply below_alloc | apply pw_below_drewN | apply below_drew1) | exact HB.out)))); (case aL => have := LMc15.out; omega); intro v112 w17 ho hb hg hat; rw [← Ny111.out] at ho; have n0_ := Aside0.mk (hb); have n1_ := Aside0.mk (ho); clear HB; clear HO_4; have HB := n0_; have HO113 := n1_; clear n0_ n1_; clear ho hb hg hat))
          refine wp_goto (And.intro rfl ?_)
          refine hKs0 _ _ ?_
          go_roundg kj3
          case measure => have := HK1.out; have := HJ3.out; omega
          case rel => exact ⟨(t108), (y111), (by first | rfl | (simp; done) | (simp [*]; done) | (simp; exact isEmpty_bne _)), H', ⟨by have := HK1.out; have := HJ3.out; omega⟩, ⟨by (with_reducible repeat (first | apply Kd.R_alloc | apply Kd.R_drewN | apply Kd.R_drew)); exact HO113.out⟩, ⟨by repeat (first | (with_reducible first | exact HB.out | apply below_alloc | apply pw_below_drewN | apply below_drew1) | exact HB.out)⟩⟩
         ·rw [if_neg c15] at H
          exact absurd H (by simp)
      ·replace c10 := Bool.eq_false_iff.mpr c10
       subst c10
       have H1 : (some (([] : List (S29)), 17)) = some (r1, r2) := by rw [if_neg (show ¬ (false = true) by decide)] at H; exact H
       clear H
       have H := H1
       clear H1
       simp only [Option.some.injEq, Prod.mk.injEq] at H
       obtain ⟨rfl, rfl⟩ := H
       go_wp2_with (first | ((with_reducible refine gate_callee (f := 37) rfl ?_); refine goesL_ (some 29) rfl rfl Try.func37 (by kernel_rfl) rfl #[.string t102, .string (⟨#[125]⟩ : ByteArray)] rfl (by (try simp only [List.map_toArray, List.map_cons, List.map_nil]); first | done | rfl | (simp only [List.length_drop, List.length_take]; rfl)) ?_; (with_reducible refine (strings_Cut.calls t102 (⟨#[125]⟩ : ByteArray) t107 t108 false _ ?side1 A9.out).mono ?_); (case side1 => exact Glob.step HG.out (by repeat (first | (with_reducible first | exact HB.out | apply below_alloc | apply pw_below_drewN | apply below_drew1) | exact HB.out))); rintro e w' ⟨rfl, ⟨nd, rfl⟩⟩; refine ⟨_, rfl, ?_⟩))
       (try simp only [Exit.inBlock, Exit.then, jump_ret])
       go_ret2
       exact ⟨_, by first | rfl | (simp [errW_none, errW_some] <;> rfl) | (simp [*, errW_none, errW_some] <;> rfl), by first | exact Kd.R_nil _ _ _ _ _ | exact Kd.N_nil _ _ _ _ _ | exact Kd.V_nil _ _ _ _ _ | exact Kd.Q_nil _ _ _ _ _ | exact Kd.S_nil _ _ _ _ _, by repeat (first | (with_reducible first | exact HB.out | apply below_alloc | apply pw_below_drewN | apply below_drew1) | exact HB.out)⟩
     ·replace c8 := Bool.eq_false_iff.mpr c8
      subst c8
      have H1 : (some (x4_3, 0)) = some (r1, r2) := by rw [if_neg (show ¬ (false = true) by decide)] at H; exact H
      clear H
      have H := H1
      clear H1
      simp only [Option.some.injEq, Prod.mk.injEq] at H
      obtain ⟨rfl, rfl⟩ := H
      go_wp2
      (try simp only [Exit.inBlock, Exit.then, jump_ret])
      go_ret2
      exact ⟨_, by first | rfl | (simp [errW_none, errW_some] <;> rfl) | (simp [*, errW_none, errW_some] <;> rfl), by (with_reducible repeat (first | apply Kd.R_alloc | apply Kd.R_drewN | apply Kd.R_drew)); exact HO_4.out, by repeat (first | (with_reducible first | exact HB.out | apply below_alloc | apply pw_below_drewN | apply below_drew1) | exact HB.out)⟩

end Go.Proofs.Ytmpdpfojiepdkaa.Q

-- Printed by this session's wip/np.py over the kit's print program. Not trusted: Lean checks it.
namespace Go.Proofs.Ytmpdpfojiepdkaa.Q
open Go.RowKit Go.Proofs.YtmpdpfojiepdkaaW.PrintWords Go.Proofs.YtmpdpfojiepdkaaW.PrintLast Go.Proofs.YtmpdpfojiepdkaaW.Own Go.Proofs.YtmpdpfojiepdkaaW.PrintMore
attribute [local go_sem] max2_int min2_int max_two min_two max_three min_three max_four min_four
set_option linter.unusedVariables false
set_option linter.unusedSimpArgs false

theorem eqA29 (d : Nat) (w : World) (x0 y0 : Bool) (x1 y1 : ByteArray) :
    (Op.equalIn (d + 2) 29 (.agg #[.bool x0, .string x1]) (.agg #[.bool y0, .string y1])).run Try.prog w = .ok (x0 == y0 && (x1.toList == y1.toList)) w := by
  refine eqA_of Try.underlying29 (by kernel_rfl) ?_
  refine eqf_cons (by rfl) (by go_simp; rfl) (by go_simp; rfl) (by go_simp) ?_
  exact eqf_last (by rfl) (by go_simp; rfl) (by go_simp; rfl) (by go_simp)
end Go.Proofs.Ytmpdpfojiepdkaa.Q

-- Printed by this session's wip/np.py over the kit's print program. Not trusted: Lean checks it.
namespace Go.Proofs.Ytmpdpfojiepdkaa.Q
open Go.RowKit Go.Proofs.YtmpdpfojiepdkaaW.PrintWords Go.Proofs.YtmpdpfojiepdkaaW.PrintLast Go.Proofs.YtmpdpfojiepdkaaW.Own Go.Proofs.YtmpdpfojiepdkaaW.PrintMore
attribute [local go_sem] max2_int min2_int max_two min_two max_three min_three max_four min_four
set_option linter.unusedVariables false
set_option linter.unusedSimpArgs false

attribute [local go_sem high] eqA29
/-! ### api_Piece_1: function 41 -/
def api_Piece_1.f (a0_0 : Bool) (a0_1 : ByteArray) (a1_0 : Bool) (a1_1 : ByteArray) : Option (Bool) := some (a0_0 == a1_0 && (a0_1.toList == a1_1.toList))
set_option maxHeartbeats 8000000 in
set_option maxRecDepth 100000 in
theorem api_Piece_1.calls (a0_0 : Bool) (a0_1 : ByteArray) (a1_0 : Bool) (a1_1 : ByteArray) (r : Bool) (w : World) (hG : Glob w) (h : api_Piece_1.f a0_0 a0_1 a1_0 a1_1 = some r) :
 Calls Try.prog 41 #[.agg #[.bool a0_0, .string a0_1], .agg #[.bool a1_0, .string a1_1]] w fun e w' => e = .returned (.bool r) ∧ Below w.heap.size w w' := by
 have hu29 := Try.underlying29
 have HG := Aside0.mk hG
 clear hG
 have HB := Aside0.mk (Below.refl w.heap.size w)
 have H : (some (a0_0 == a1_0 && (a0_1.toList == a1_1.toList))) = some r := h
 clear h
 obtain rfl := Option.some.inj H
 go_enter Try.func41, Try.ntmps41
 go_wp2_with (first | ((with_reducible refine gate_dst (N := 2) rfl ?_); refine box_event ?hg (N := 2) ?hd (cs := #[.bool a0_0, .string a0_1]) (t := 29) ?hr ?_; (case hd => rfl); (case hg => rfl); (case hr => first | (go_simp; done) | (go_simp; rfl)); intro gb114 hg w3 hbox hb; have n0_ := Aside0.mk (below_step (by repeat (first | (with_reducible first | exact HB.out | apply below_alloc | apply pw_below_drewN | apply below_drew1) | exact HB.out)) hb); have n1_ := Aside0.mk (hbox); have n2_ := Aside0.mk ((by rw [hg]; exact (below_size (by repeat (first | (with_reducible first | exact HB.out | apply below_alloc | apply pw_below_drewN | apply below_drew1) | exact HB.out))) : w.heap.size ≤ gb114)); have n3_ := Aside0.mk ((by rw [hg]; exact (below_size (by repeat (first | (with_reducible first | exact HB.out | apply below_alloc | apply pw_below_drewN | apply below_drew1) | exact HB.out))) : w.heap.size ≤ gb114)); clear HB; have HB := n0_; have BK114 := n1_; have GW114 := n2_; have GE114 := n3_; clear n0_ n1_ n2_ n3_; clear hb hbox hg) | ((with_reducible refine gate_dst (N := 3) rfl ?_); refine box_event ?hg (N := 3) ?hd (cs := #[.bool a1_0, .string a1_1]) (t := 29) ?hr ?_; (case hd => rfl); (case hg => rfl); (case hr => first | (go_simp; done) | (go_simp; rfl)); intro gb115 hg w4 hbox hb; have n0_ := Aside0.mk (blk_below (g := gb114) (o := .cells #[.bool a0_0, .string a0_1] 29 (0, 0)) (by (with_reducible repeat (first | refine blk_drewN ?_ _ | refine blk_drew ?_ | refine blk_alloc ?_ _)); exact BK114.out) hb); have n1_ := Aside0.mk (below_step (by repeat (first | (with_reducible first | exact HB.out | apply below_alloc | apply pw_below_drewN | apply below_drew1 | refine below_set ?_ GE114.out) | exact HB.out)) hb); have n2_ := Aside0.mk (hbox); have n3_ := Aside0.mk ((by rw [hg]; exact (below_size (by repeat (first | (with_reducible first | exact HB.out | apply below_alloc | apply pw_below_drewN | apply below_drew1 | refine below_set ?_ GE114.out) | exact HB.out))) : w.heap.size ≤ gb115)); have n4_ := Aside0.mk ((by rw [hg]; exact (below_size (by repeat (first | (with_reducible first | exact HB.out | apply below_alloc | apply pw_below_drewN | apply below_drew1 | refine below_set ?_ GE114.out) | exact HB.out))) : w.heap.size ≤ gb115)); have n5_ := Aside0.mk ((by rw [hg]; exact Nat.ne_of_lt (blk_lt (g := gb114) (o := .cells #[.bool a0_0, .string a0_1] 29 (0, 0)) (by (with_reducible repeat (first | refine blk_drewN ?_ _ | refine blk_drew ?_ | refine blk_alloc ?_ _)); exact BK114.out)) : gb114 ≠ gb115)); have n6_ := Aside0.mk ((by rw [hg]; exact Nat.ne_of_gt (blk_lt (g := gb114) (o := .cells #[.bool a0_0, .string a0_1] 29 (0, 0)) (by (with_reducible repeat (first | refine blk_drewN ?_ _ | refine blk_drew ?_ | refine blk_alloc ?_ _)); exact BK114.out)) : gb115 ≠ gb114)); clear BK114; clear HB; have BK114 := n0_; have HB := n1_; have BK115 := n2_; have GW115 := n3_; have GE115 := n4_; have NB114_115 := n5_; have NB115_114 := n6_; clear n0_ n1_ n2_ n3_ n4_ n5_ n6_; clear hb hbox hg; have hnb5 := NB114_115.out; have hnc5 := NB115_114.out; have hcz6_0 : w4.cell? ⟨gb114, 0, none⟩ = some (.bool a0_0) := (blk_cell BK114.out 0).trans rfl; have hcz6_1 : w4.cell? ⟨gb114, 1, none⟩ = some (.string a0_1) := (blk_cell BK114.out 1).trans rfl; have hfz6_0 := blk_frozen BK114.out 0; have hfz6_1 := blk_frozen BK114.out 1; have hcz7_0 : w4.cell? ⟨gb115, 0, none⟩ = some (.bool a1_0) := (blk_cell BK115.out 0).trans rfl; have hcz7_1 : w4.cell? ⟨gb115, 1, none⟩ = some (.string a1_1) := (blk_cell BK115.out 1).trans rfl; have hfz7_0 := blk_frozen BK115.out 0; have hfz7_1 := blk_frozen BK115.out 1))
 go_ret
 exact ⟨by first | rfl | (simp [errW_none, errW_some] <;> rfl) | (simp [*, errW_none, errW_some] <;> rfl), by repeat (first | (with_reducible first | exact HB.out | apply below_alloc | apply pw_below_drewN | apply below_drew1 | refine below_set ?_ GE114.out | refine below_set ?_ GE115.out) | exact HB.out)⟩

end Go.Proofs.Ytmpdpfojiepdkaa.Q

-- Printed by this session's wip/np.py over the kit's print program. Not trusted: Lean checks it.
namespace Go.Proofs.Ytmpdpfojiepdkaa.Q
open Go.RowKit Go.Proofs.YtmpdpfojiepdkaaW.PrintWords Go.Proofs.YtmpdpfojiepdkaaW.PrintLast Go.Proofs.YtmpdpfojiepdkaaW.Own Go.Proofs.YtmpdpfojiepdkaaW.PrintMore
attribute [local go_sem] max2_int min2_int max_two min_two max_three min_three max_four min_four
set_option linter.unusedVariables false
set_option linter.unusedSimpArgs false

/-! ### api_Piece_40: function 40 -/
def api_Piece_40.l0 : Nat → List (S29) → List (S29) → Int → Option (Bool)
 | 0, _, _, _ => none
 | k + 1, x0, x1, x7 => if x7 < (x0.length : Int) then (if 0 ≤ x7 then (if x7 < (x1.length : Int) then ((api_Piece_1.f ((rd_T29 x0 x7).f0) ((rd_T29 x0 x7).f1) ((rd_T29 x1 x7).f0) ((rd_T29 x1 x7).f1)).bind fun t118 => (if t118 = true then (api_Piece_40.l0 k x0 x1 (wrap64 (x7 + 1))) else (some false))) else (none)) else (none)) else (some true)
def api_Piece_40.f (k : Nat) (l0 : List (S29)) (l1 : List (S29))  : Option (Bool) := if (l0.length : Int) = (l1.length : Int) then (api_Piece_40.l0 k l0 l1 0) else (some false)
theorem api_Piece_40.mono_l : ∀ k, (∀ y0 y1 y2, LeO (api_Piece_40.l0 k y0 y1 y2) (api_Piece_40.l0 (k + 1) y0 y1 y2))
 | 0 => fun _ _ _ r h => by simp [api_Piece_40.l0] at h
 | k + 1 => by
  have ih0 := api_Piece_40.mono_l k
  ·intro y0 y1 y2
   unfold api_Piece_40.l0
   repeat' first
   | (with_reducible exact ih0 _ _ _)
   | (with_reducible exact LeO.refl _)
   | (with_reducible exact LeO.none _)
   | (with_reducible refine LeO.ite ?_ ?_)
   | (with_reducible refine LeO.bind ?_ (fun _ => ?_))
   | exact ih0 _ _ _
   | exact LeO.none _
   | refine LeO.ite ?_ ?_
   | refine LeO.bind ?_ (fun _ => ?_)
theorem api_Piece_40.mono : ∀ a0 a1 k, LeO (api_Piece_40.f k a0 a1) (api_Piece_40.f (k + 1) a0 a1) := by
 intro a0 a1 k
 have ih0 := api_Piece_40.mono_l k
 unfold api_Piece_40.f
 repeat' first
  | (with_reducible exact ih0 _ _ _)
  | (with_reducible exact LeO.refl _)
  | (with_reducible exact LeO.none _)
  | (with_reducible refine LeO.ite ?_ ?_)
  | (with_reducible refine LeO.bind ?_ (fun _ => ?_))
  | exact ih0 _ _ _
  | exact LeO.none _
  | refine LeO.ite ?_ ?_
  | refine LeO.bind ?_ (fun _ => ?_)
def api_Piece_40.T6 : Bool × List (List Nat × List Nat) := (true, [([], []), ([], []), ([], []), ([1, 2], [1, 2]), ([3], [3]), ([], []), ([], []), ([5, 6], [5, 6]), ([7], [7]), ([0, 4, 8], [0, 4, 8]), ([9], [9])])
def api_Piece_40.B6 : List Nat := [0, 0, 0, 6, 14, 0, 0, 96, 224, 511, 1023]
theorem api_Piece_40.tab6 : rtab .any (opsOf Try.f40 6) = api_Piece_40.T6 := by kernel_rfl
theorem api_Piece_40.bits6 : waitsOk api_Piece_40.T6.2 api_Piece_40.B6 = true := by kernel_rfl
set_option maxHeartbeats 8000000 in
set_option maxRecDepth 100000 in
theorem api_Piece_40.calls (k : Nat) (A0 : Option Addr) (c0 : Nat) (l0 : List (S29)) (A1 : Option Addr) (c1 : Nat) (l1 : List (S29))  (r : Bool) (w : World) (hr0 : Kd.C k29 w A0 l0.length l0) (hc0 : l0.length ≤ c0) (hr1 : Kd.C k29 w A1 l1.length l1) (hc1 : l1.length ≤ c1) (hG : Glob w) (h : api_Piece_40.f k l0 l1 = some r) :
 Calls Try.prog 40 #[.slice A0 l0.length c0, .slice A1 l1.length c1, .func (.func 41) #[] #[]] w fun e w' => e = .returned (.bool r) ∧ Below w.heap.size w w' := by
 have hu29 := Try.underlying29
 have HG := Aside0.mk hG
 clear hG
 have HR0 := Aside0.mk hr0
 have HC0 := Aside0.mk hc0
 clear hr0 hc0
 have HR1 := Aside0.mk hr1
 have HC1 := Aside0.mk hc1
 clear hr1 hc1
 have HB := Aside0.mk (Below.refl w.heap.size w)
 have H : (if (l0.length : Int) = (l1.length : Int) then (api_Piece_40.l0 k l0 l1 0) else (some false)) = some r := h
 clear h
 by_cases c4 : (l0.length : Int) = (l1.length : Int)
 ·rw [if_pos c4] at H
  have c4b0 : ((l0.length : Int) == (l1.length : Int)) = true := beq_iff_eq.mpr c4
  have c4b1 : ((l0.length : Int) != (l1.length : Int)) = false := bne_eq_false_iff_eq.mpr c4
  have c4b2 : (l0.length == l1.length) = true := by first | simpa using c4 | (simp at c4 ⊢; omega)
  clear c4
  have H' := Aside0.mk H
  clear H
  go_enter Try.func40, Try.ntmps40
  go_wp2
  go_loopg [7] k (fun kq v7 w' => ∃ (x7_1 : Int), v7 = .int .i64 x7_1 ∧ Aside0 (api_Piece_40.l0 kq l0 l1 x7_1 = some r) ∧ Aside0 (kq ≤ k) ∧ Aside0 (Below w.heap.size w w'))
  case atStart => exact ⟨(0), (by first | rfl | (simp; done) | (simp [*]; done) | (simp; exact isEmpty_bne _)), H', ⟨Nat.le_refl _⟩, ⟨by repeat (first | (with_reducible first | exact HB.out | apply below_alloc | apply pw_below_drewN | apply below_drew1) | exact HB.out)⟩⟩
  case round =>
   clear H'
   try clear c1
   try clear p2
   try clear c4
   try clear c4b0
   try clear c4b1
   try clear c4b2
   obtain ⟨x7_1, rfl, HA, HK1, HB⟩ := hrel
   cases gk with
   | zero => exact absurd HA.out (by simp [api_Piece_40.l0])
   | succ k1 =>
    have H := HA.out
    clear HA
    simp only [api_Piece_40.l0] at H
    by_cases c5 : x7_1 < (l0.length : Int)
    ·rw [if_pos c5] at H
     have c5b0 : decide (x7_1 < (l0.length : Int)) = true := decide_eq_true c5
     clear c5
     by_cases c6 : 0 ≤ x7_1
     ·rw [if_pos c6] at H
      have c6b0 : decide (0 ≤ x7_1) = true := decide_eq_true c6
      clear c6
      by_cases c7 : x7_1 < (l1.length : Int)
      ·rw [if_pos c7] at H
       have c7b0 : decide (x7_1 < (l1.length : Int)) = true := decide_eq_true c7
       clear c7
       replace H := Option.bind_eq_some_iff.mp H
       obtain ⟨t118, A80, H⟩ := H
       replace H : (if t118 = true then (api_Piece_40.l0 k1 l0 l1 (wrap64 (x7_1 + 1))) else (some false)) = some r := H
       have A8 := Aside0.mk A80
       clear A80
       by_cases c9 : t118 = true
       ·subst c9
        have H1 : (api_Piece_40.l0 k1 l0 l1 (wrap64 (x7_1 + 1))) = some r := by rw [if_pos rfl] at H; exact H
        clear H
        have H := H1
        clear H1
        have H' := Aside0.mk H
        clear H
        try go_wp2
        have n0_ := Aside0.mk (below_drew1 HB.out)
        clear HB
        have HB := n0_
        clear n0_
        have p116 : 0 ≤ (x7_1 : Int) := of_decide_eq_true (by first | (with_reducible assumption) | assumption)
        have q116 : x7_1 < (l0.length : Int) := of_decide_eq_true (by first | (with_reducible assumption) | assumption)
        obtain ⟨ad116, e116, hx116_0, hx116_1⟩ := at_T29 HR0.out x7_1 p116 q116
        have hw116_1 := hx116_1
        have hw116_0 := hx116_0
        cases e116
        replace hx116_0 := (HB.out.cell (World.block_lt_of_cell? w _ hx116_0)).trans hx116_0
        replace hx116_1 := (HB.out.cell (World.block_lt_of_cell? w _ hx116_1)).trans hx116_1
        replace p116 := eq_true p116
        replace q116 := eq_true q116
        have p117 : 0 ≤ (x7_1 : Int) := of_decide_eq_true (by first | (with_reducible assumption) | assumption)
        have q117 : x7_1 < (l1.length : Int) := of_decide_eq_true (by first | (with_reducible assumption) | assumption)
        obtain ⟨ad117, e117, hx117_0, hx117_1⟩ := at_T29 HR1.out x7_1 p117 q117
        have hw117_1 := hx117_1
        have hw117_0 := hx117_0
        cases e117
        replace hx117_0 := (HB.out.cell (World.block_lt_of_cell? w _ hx117_0)).trans hx117_0
        replace hx117_1 := (HB.out.cell (World.block_lt_of_cell? w _ hx117_1)).trans hx117_1
        replace p117 := eq_true p117
        replace q117 := eq_true q117
        refine start_ (n := 11) (S := fun w' => w'.cell? (ad116.add ((x7_1).toNat * 2)) = some (.bool ((rd_T29 l0 x7_1).f0)) ∧ w'.cell? ⟨(ad116.add ((x7_1).toNat * 2)).block, (ad116.add ((x7_1).toNat * 2)).off + 1, none⟩ = some (.string ((rd_T29 l0 x7_1).f1)) ∧ w'.cell? (ad117.add ((x7_1).toNat * 2)) = some (.bool ((rd_T29 l1 x7_1).f0)) ∧ w'.cell? ⟨(ad117.add ((x7_1).toNat * 2)).block, (ad117.add ((x7_1).toNat * 2)).off + 1, none⟩ = some (.string ((rd_T29 l1 x7_1).f1))) (ds := []) #[false, false, false, false, false, false, false, false, false, false, false] (by kernel_rfl) rfl rfl ⟨((HB.out.cell (World.block_lt_of_cell? w _ hw116_0)).trans hw116_0), ((HB.out.cell (World.block_lt_of_cell? w _ hw116_1)).trans hw116_1), ((HB.out.cell (World.block_lt_of_cell? w _ hw117_0)).trans hw117_0), ((HB.out.cell (World.block_lt_of_cell? w _ hw117_1)).trans hw117_1)⟩ (fun hHeld => ?_); refine with_tabW api_Piece_40.tab6 api_Piece_40.bits6 (fun HT_ HW_ => ?_)
        generalize wr.drew = w10 at HB hx116_0 hx116_1 hx117_0 hx117_1 hHeld ⊢
        refine pure_ (i := 0) (N := some 19) (v := ?_) (a' := ?_) #[true, false, false, false, false, false, false, false, false, false, false] rfl rfl (any_of HT_.out (by kernel_rfl)) (fun _ _ _ h => h) (Or.inl ⟨by rfl, ?_⟩) ?_ ?_
        rotate_left
        ·intro w'
         go_simp
         with_reducible rfl
        rotate_left
        ·simp only [Act.put, List.setIfInBounds_toArray, List.set_cons_zero, List.set_cons_succ, i64_w, i32_w]
         rfl
        refine pure_ (i := 1) (N := some 20) (v := ?_) (a' := ?_) #[true, true, false, false, false, false, false, false, false, false, false] rfl rfl (any_of HT_.out (by kernel_rfl)) (fun _ _ _ h => h) (Or.inl ⟨by rfl, ?_⟩) ?_ ?_
        rotate_left
        ·intro w'
         go_simp
         with_reducible rfl
        rotate_left
        ·simp only [Act.put, List.setIfInBounds_toArray, List.set_cons_zero, List.set_cons_succ, i64_w, i32_w]
         rfl
        refine pure_ (i := 2) (N := some 21) (v := ?_) (a' := ?_) #[true, true, true, false, false, false, false, false, false, false, false] rfl rfl (any_of HT_.out (by kernel_rfl)) (fun _ _ _ h => h) (Or.inl ⟨by rfl, ?_⟩) ?_ ?_
        rotate_left
        ·intro w'
         go_simp
         with_reducible rfl
        rotate_left
        ·simp only [Act.put, List.setIfInBounds_toArray, List.set_cons_zero, List.set_cons_succ, i64_w, i32_w]
         rfl
        refine pure_ (i := 3) (N := some 22) (v := ?_) (a' := ?_) #[true, true, true, true, false, false, false, false, false, false, false] rfl rfl (any_of HT_.out (by kernel_rfl)) (fun _ _ _ h => h) (Or.inl ⟨by rfl, ?_⟩) ?_ ?_
        rotate_left
        ·intro w'
         go_simp
         with_reducible rfl
        rotate_left
        ·simp only [Act.put, List.setIfInBounds_toArray, List.set_cons_zero, List.set_cons_succ, i64_w, i32_w]
         rfl
        refine pure_ (i := 5) (N := some 24) (v := ?_) (a' := ?_) #[true, true, true, true, false, true, false, false, false, false, false] rfl rfl (any_of HT_.out (by kernel_rfl)) (fun _ _ _ h => h) (Or.inl ⟨by rfl, ?_⟩) ?_ ?_
        rotate_left
        ·intro w'
         go_simp
         with_reducible rfl
        rotate_left
        ·simp only [Act.put, List.setIfInBounds_toArray, List.set_cons_zero, List.set_cons_succ, i64_w, i32_w]
         rfl
        refine pure_ (i := 6) (N := some 25) (v := ?_) (a' := ?_) #[true, true, true, true, false, true, true, false, false, false, false] rfl rfl (any_of HT_.out (by kernel_rfl)) (fun _ _ _ h => h) (Or.inl ⟨by rfl, ?_⟩) ?_ ?_
        rotate_left
        ·intro w'
         go_simp
         with_reducible rfl
        rotate_left
        ·simp only [Act.put, List.setIfInBounds_toArray, List.set_cons_zero, List.set_cons_succ, i64_w, i32_w]
         rfl
        refine pure_ (i := 7) (N := some 26) (v := ?_) (a' := ?_) #[true, true, true, true, false, true, true, true, false, false, false] rfl rfl (any_of HT_.out (by kernel_rfl)) (fun _ _ _ h => h) (Or.inl ⟨by rfl, ?_⟩) ?_ ?_
        rotate_left
        ·intro w'
         go_simp
         with_reducible rfl
        rotate_left
        ·simp only [Act.put, List.setIfInBounds_toArray, List.set_cons_zero, List.set_cons_succ, i64_w, i32_w]
         rfl
        refine take_ (i := 4) (N := some 23) (v := ?_) (a' := ?_) #[true, true, true, true, true, true, true, true, false, false, false] rfl rfl (take_ofW HT_.out HW_.out (by kernel_rfl)) (fun _ _ _ h => h) (Or.inl ⟨by rfl, ?_⟩) hHeld ?_ ?_
        rotate_left
        ·rintro w' ⟨s0, s1, s2, s3⟩
         go_simp
         with_reducible rfl
        rotate_left
        ·simp only [Act.put, List.setIfInBounds_toArray, List.set_cons_zero, List.set_cons_succ, i64_w, i32_w]
         rfl
        refine take_ (i := 8) (N := some 27) (v := ?_) (a' := ?_) #[true, true, true, true, true, true, true, true, true, false, false] rfl rfl (take_ofW HT_.out HW_.out (by kernel_rfl)) (fun _ _ _ h => h) (Or.inl ⟨by rfl, ?_⟩) hHeld ?_ ?_
        rotate_left
        ·rintro w' ⟨s0, s1, s2, s3⟩
         go_simp
         with_reducible rfl
        rotate_left
        ·simp only [Act.put, List.setIfInBounds_toArray, List.set_cons_zero, List.set_cons_succ, i64_w, i32_w]
         rfl
        refine one_ (i := 9) (N := some 28) #[true, true, true, true, true, true, true, true, true, true, false] rfl rfl (one_of HT_.out (by kernel_rfl)) (by decide) (fun K hK => ?_)
        first | (refine goes_ Try.func41 (by kernel_rfl) rfl #[.agg #[.bool ((rd_T29 l0 x7_1).f0), .string ((rd_T29 l0 x7_1).f1)], .agg #[.bool ((rd_T29 l1 x7_1).f0), .string ((rd_T29 l1 x7_1).f1)]] (by rfl) rfl rfl (by (try simp only [List.map_toArray, List.map_cons, List.map_nil]); first | done | rfl | (simp only [List.length_drop, List.length_take]; rfl)) ?_) | (refine goesV_ Try.func41 (by kernel_rfl) rfl #[.agg #[.bool ((rd_T29 l0 x7_1).f0), .string ((rd_T29 l0 x7_1).f1)], .agg #[.bool ((rd_T29 l1 x7_1).f0), .string ((rd_T29 l1 x7_1).f1)]] (by rfl) rfl rfl rfl (by (try simp only [List.map_toArray, List.map_cons, List.map_nil]); first | done | rfl | (simp only [List.length_drop, List.length_take]; rfl)) ?_)
        with_reducible refine (api_Piece_1.calls ((rd_T29 l0 x7_1).f0) ((rd_T29 l0 x7_1).f1) ((rd_T29 l1 x7_1).f0) ((rd_T29 l1 x7_1).f1) true _ ?side1 A8.out).mono ?_
        (case side1 => exact Glob.step HG.out (by repeat (first | (with_reducible first | exact HB.out | apply below_alloc | apply pw_below_drewN | apply below_drew1) | exact HB.out)))
        rintro e w11 ⟨rfl, hb⟩
        refine ⟨_, rfl, ?_⟩
        have n0_ := Aside0.mk (below_step (by repeat (first | (with_reducible first | exact HB.out | apply below_alloc | apply pw_below_drewN | apply below_drew1) | exact HB.out)) hb)
        clear HB
        have HB := n0_
        clear n0_
        (try clear hb)
        (try clear hb2)
        (try clear hk)
        (try clear hi)
        refine hK.out _ _ ⟨((HB.out.cell (World.block_lt_of_cell? w _ hw116_0)).trans hw116_0), ((HB.out.cell (World.block_lt_of_cell? w _ hw116_1)).trans hw116_1), ((HB.out.cell (World.block_lt_of_cell? w _ hw117_0)).trans hw117_0), ((HB.out.cell (World.block_lt_of_cell? w _ hw117_1)).trans hw117_1)⟩ (fun hHeld => ?_)
        clear hK K
        refine norm_ (a' := ?_) ?_ ?_
        rotate_left
        ·show Act.put _ (some 28) _ = _
         simp only [Act.put, List.setIfInBounds_toArray, List.set_cons_zero, List.set_cons_succ, i64_w, i32_w]
         rfl
        refine pure_ (i := 10) (N := some 29) (v := ?_) (a' := ?_) #[true, true, true, true, true, true, true, true, true, true, true] rfl rfl (any_of HT_.out (by kernel_rfl)) (fun _ _ _ h => h) (Or.inl ⟨by rfl, ?_⟩) ?_ ?_
        rotate_left
        ·intro w'
         go_simp
         with_reducible rfl
        rotate_left
        ·simp only [Act.put, List.setIfInBounds_toArray, List.set_cons_zero, List.set_cons_succ, i64_w, i32_w]
         rfl
        refine done_ (done_of HT_.out (by kernel_rfl)) ?_
        try go_wp2
        go_roundg k1
        case measure => have := HK1.out; omega
        case rel => exact ⟨(wrap64 (x7_1 + 1)), (by first | rfl | (simp; done) | (simp [*]; done) | (simp; exact isEmpty_bne _)), H', ⟨by have := HK1.out; omega⟩, ⟨by repeat (first | (with_reducible first | exact HB.out | apply below_alloc | apply pw_below_drewN | apply below_drew1) | exact HB.out)⟩⟩
       ·replace c9 := Bool.eq_false_iff.mpr c9
        subst c9
        have H1 : (some false) = some r := by rw [if_neg (show ¬ (false = true) by decide)] at H; exact H
        clear H
        have H := H1
        clear H1
        obtain rfl := Option.some.inj H
        try go_wp2
        have n0_ := Aside0.mk (below_drew1 HB.out)
        clear HB
        have HB := n0_
        clear n0_
        have p116 : 0 ≤ (x7_1 : Int) := of_decide_eq_true (by first | (with_reducible assumption) | assumption)
        have q116 : x7_1 < (l0.length : Int) := of_decide_eq_true (by first | (with_reducible assumption) | assumption)
        obtain ⟨ad116, e116, hx116_0, hx116_1⟩ := at_T29 HR0.out x7_1 p116 q116
        have hw116_1 := hx116_1
        have hw116_0 := hx116_0
        cases e116
        replace hx116_0 := (HB.out.cell (World.block_lt_of_cell? w _ hx116_0)).trans hx116_0
        replace hx116_1 := (HB.out.cell (World.block_lt_of_cell? w _ hx116_1)).trans hx116_1
        replace p116 := eq_true p116
        replace q116 := eq_true q116
        have p117 : 0 ≤ (x7_1 : Int) := of_decide_eq_true (by first | (with_reducible assumption) | assumption)
        have q117 : x7_1 < (l1.length : Int) := of_decide_eq_true (by first | (with_reducible assumption) | assumption)
        obtain ⟨ad117, e117, hx117_0, hx117_1⟩ := at_T29 HR1.out x7_1 p117 q117
        have hw117_1 := hx117_1
        have hw117_0 := hx117_0
        cases e117
        replace hx117_0 := (HB.out.cell (World.block_lt_of_cell? w _ hx117_0)).trans hx117_0
        replace hx117_1 := (HB.out.cell (World.block_lt_of_cell? w _ hx117_1)).trans hx117_1
        replace p117 := eq_true p117
        replace q117 := eq_true q117
        refine start_ (n := 11) (S := fun w' => w'.cell? (ad116.add ((x7_1).toNat * 2)) = some (.bool ((rd_T29 l0 x7_1).f0)) ∧ w'.cell? ⟨(ad116.add ((x7_1).toNat * 2)).block, (ad116.add ((x7_1).toNat * 2)).off + 1, none⟩ = some (.string ((rd_T29 l0 x7_1).f1)) ∧ w'.cell? (ad117.add ((x7_1).toNat * 2)) = some (.bool ((rd_T29 l1 x7_1).f0)) ∧ w'.cell? ⟨(ad117.add ((x7_1).toNat * 2)).block, (ad117.add ((x7_1).toNat * 2)).off + 1, none⟩ = some (.string ((rd_T29 l1 x7_1).f1))) (ds := []) #[false, false, false, false, false, false, false, false, false, false, false] (by kernel_rfl) rfl rfl ⟨((HB.out.cell (World.block_lt_of_cell? w _ hw116_0)).trans hw116_0), ((HB.out.cell (World.block_lt_of_cell? w _ hw116_1)).trans hw116_1), ((HB.out.cell (World.block_lt_of_cell? w _ hw117_0)).trans hw117_0), ((HB.out.cell (World.block_lt_of_cell? w _ hw117_1)).trans hw117_1)⟩ (fun hHeld => ?_); refine with_tabW api_Piece_40.tab6 api_Piece_40.bits6 (fun HT_ HW_ => ?_)
        generalize wr.drew = w12 at HB hx116_0 hx116_1 hx117_0 hx117_1 hHeld ⊢
        refine pure_ (i := 0) (N := some 19) (v := ?_) (a' := ?_) #[true, false, false, false, false, false, false, false, false, false, false] rfl rfl (any_of HT_.out (by kernel_rfl)) (fun _ _ _ h => h) (Or.inl ⟨by rfl, ?_⟩) ?_ ?_
        rotate_left
        ·intro w'
         go_simp
         with_reducible rfl
        rotate_left
        ·simp only [Act.put, List.setIfInBounds_toArray, List.set_cons_zero, List.set_cons_succ, i64_w, i32_w]
         rfl
        refine pure_ (i := 1) (N := some 20) (v := ?_) (a' := ?_) #[true, true, false, false, false, false, false, false, false, false, false] rfl rfl (any_of HT_.out (by kernel_rfl)) (fun _ _ _ h => h) (Or.inl ⟨by rfl, ?_⟩) ?_ ?_
        rotate_left
        ·intro w'
         go_simp
         with_reducible rfl
        rotate_left
        ·simp only [Act.put, List.setIfInBounds_toArray, List.set_cons_zero, List.set_cons_succ, i64_w, i32_w]
         rfl
        refine pure_ (i := 2) (N := some 21) (v := ?_) (a' := ?_) #[true, true, true, false, false, false, false, false, false, false, false] rfl rfl (any_of HT_.out (by kernel_rfl)) (fun _ _ _ h => h) (Or.inl ⟨by rfl, ?_⟩) ?_ ?_
        rotate_left
        ·intro w'
         go_simp
         with_reducible rfl
        rotate_left
        ·simp only [Act.put, List.setIfInBounds_toArray, List.set_cons_zero, List.set_cons_succ, i64_w, i32_w]
         rfl
        refine pure_ (i := 3) (N := some 22) (v := ?_) (a' := ?_) #[true, true, true, true, false, false, false, false, false, false, false] rfl rfl (any_of HT_.out (by kernel_rfl)) (fun _ _ _ h => h) (Or.inl ⟨by rfl, ?_⟩) ?_ ?_
        rotate_left
        ·intro w'
         go_simp
         with_reducible rfl
        rotate_left
        ·simp only [Act.put, List.setIfInBounds_toArray, List.set_cons_zero, List.set_cons_succ, i64_w, i32_w]
         rfl
        refine pure_ (i := 5) (N := some 24) (v := ?_) (a' := ?_) #[true, true, true, true, false, true, false, false, false, false, false] rfl rfl (any_of HT_.out (by kernel_rfl)) (fun _ _ _ h => h) (Or.inl ⟨by rfl, ?_⟩) ?_ ?_
        rotate_left
        ·intro w'
         go_simp
         with_reducible rfl
        rotate_left
        ·simp only [Act.put, List.setIfInBounds_toArray, List.set_cons_zero, List.set_cons_succ, i64_w, i32_w]
         rfl
        refine pure_ (i := 6) (N := some 25) (v := ?_) (a' := ?_) #[true, true, true, true, false, true, true, false, false, false, false] rfl rfl (any_of HT_.out (by kernel_rfl)) (fun _ _ _ h => h) (Or.inl ⟨by rfl, ?_⟩) ?_ ?_
        rotate_left
        ·intro w'
         go_simp
         with_reducible rfl
        rotate_left
        ·simp only [Act.put, List.setIfInBounds_toArray, List.set_cons_zero, List.set_cons_succ, i64_w, i32_w]
         rfl
        refine pure_ (i := 7) (N := some 26) (v := ?_) (a' := ?_) #[true, true, true, true, false, true, true, true, false, false, false] rfl rfl (any_of HT_.out (by kernel_rfl)) (fun _ _ _ h => h) (Or.inl ⟨by rfl, ?_⟩) ?_ ?_
        rotate_left
        ·intro w'
         go_simp
         with_reducible rfl
        rotate_left
        ·simp only [Act.put, List.setIfInBounds_toArray, List.set_cons_zero, List.set_cons_succ, i64_w, i32_w]
         rfl
        refine take_ (i := 4) (N := some 23) (v := ?_) (a' := ?_) #[true, true, true, true, true, true, true, true, false, false, false] rfl rfl (take_ofW HT_.out HW_.out (by kernel_rfl)) (fun _ _ _ h => h) (Or.inl ⟨by rfl, ?_⟩) hHeld ?_ ?_
        rotate_left
        ·rintro w' ⟨s0, s1, s2, s3⟩
         go_simp
         with_reducible rfl
        rotate_left
        ·simp only [Act.put, List.setIfInBounds_toArray, List.set_cons_zero, List.set_cons_succ, i64_w, i32_w]
         rfl
        refine take_ (i := 8) (N := some 27) (v := ?_) (a' := ?_) #[true, true, true, true, true, true, true, true, true, false, false] rfl rfl (take_ofW HT_.out HW_.out (by kernel_rfl)) (fun _ _ _ h => h) (Or.inl ⟨by rfl, ?_⟩) hHeld ?_ ?_
        rotate_left
        ·rintro w' ⟨s0, s1, s2, s3⟩
         go_simp
         with_reducible rfl
        rotate_left
        ·simp only [Act.put, List.setIfInBounds_toArray, List.set_cons_zero, List.set_cons_succ, i64_w, i32_w]
         rfl
        refine one_ (i := 9) (N := some 28) #[true, true, true, true, true, true, true, true, true, true, false] rfl rfl (one_of HT_.out (by kernel_rfl)) (by decide) (fun K hK => ?_)
        first | (refine goes_ Try.func41 (by kernel_rfl) rfl #[.agg #[.bool ((rd_T29 l0 x7_1).f0), .string ((rd_T29 l0 x7_1).f1)], .agg #[.bool ((rd_T29 l1 x7_1).f0), .string ((rd_T29 l1 x7_1).f1)]] (by rfl) rfl rfl (by (try simp only [List.map_toArray, List.map_cons, List.map_nil]); first | done | rfl | (simp only [List.length_drop, List.length_take]; rfl)) ?_) | (refine goesV_ Try.func41 (by kernel_rfl) rfl #[.agg #[.bool ((rd_T29 l0 x7_1).f0), .string ((rd_T29 l0 x7_1).f1)], .agg #[.bool ((rd_T29 l1 x7_1).f0), .string ((rd_T29 l1 x7_1).f1)]] (by rfl) rfl rfl rfl (by (try simp only [List.map_toArray, List.map_cons, List.map_nil]); first | done | rfl | (simp only [List.length_drop, List.length_take]; rfl)) ?_)
        with_reducible refine (api_Piece_1.calls ((rd_T29 l0 x7_1).f0) ((rd_T29 l0 x7_1).f1) ((rd_T29 l1 x7_1).f0) ((rd_T29 l1 x7_1).f1) false _ ?side1 A8.out).mono ?_
        (case side1 => exact Glob.step HG.out (by repeat (first | (with_reducible first | exact HB.out | apply below_alloc | apply pw_below_drewN | apply below_drew1) | exact HB.out)))
        rintro e w13 ⟨rfl, hb⟩
        refine ⟨_, rfl, ?_⟩
        have n0_ := Aside0.mk (below_step (by repeat (first | (with_reducible first | exact HB.out | apply below_alloc | apply pw_below_drewN | apply below_drew1) | exact HB.out)) hb)
        clear HB
        have HB := n0_
        clear n0_
        (try clear hb)
        (try clear hb2)
        (try clear hk)
        (try clear hi)
        refine hK.out _ _ ⟨((HB.out.cell (World.block_lt_of_cell? w _ hw116_0)).trans hw116_0), ((HB.out.cell (World.block_lt_of_cell? w _ hw116_1)).trans hw116_1), ((HB.out.cell (World.block_lt_of_cell? w _ hw117_0)).trans hw117_0), ((HB.out.cell (World.block_lt_of_cell? w _ hw117_1)).trans hw117_1)⟩ (fun hHeld => ?_)
        clear hK K
        refine norm_ (a' := ?_) ?_ ?_
        rotate_left
        ·show Act.put _ (some 28) _ = _
         simp only [Act.put, List.setIfInBounds_toArray, List.set_cons_zero, List.set_cons_succ, i64_w, i32_w]
         rfl
        refine pure_ (i := 10) (N := some 29) (v := ?_) (a' := ?_) #[true, true, true, true, true, true, true, true, true, true, true] rfl rfl (any_of HT_.out (by kernel_rfl)) (fun _ _ _ h => h) (Or.inl ⟨by rfl, ?_⟩) ?_ ?_
        rotate_left
        ·intro w'
         go_simp
         with_reducible rfl
        rotate_left
        ·simp only [Act.put, List.setIfInBounds_toArray, List.set_cons_zero, List.set_cons_succ, i64_w, i32_w]
         rfl
        refine done_ (done_of HT_.out (by kernel_rfl)) ?_
        try go_wp2
        go_ret
        exact ⟨by first | rfl | (simp [errW_none, errW_some] <;> rfl) | (simp [*, errW_none, errW_some] <;> rfl), by repeat (first | (with_reducible first | exact HB.out | apply below_alloc | apply pw_below_drewN | apply below_drew1) | exact HB.out)⟩
      ·rw [if_neg c7] at H
       exact absurd H (by simp)
     ·rw [if_neg c6] at H
      exact absurd H (by simp)
    ·rw [if_neg c5] at H
     have c5b0 : decide (x7_1 < (l0.length : Int)) = false := decide_eq_false c5
     clear c5
     obtain rfl := Option.some.inj H
     go_wp2
     go_ret
     exact ⟨by first | rfl | (simp [errW_none, errW_some] <;> rfl) | (simp [*, errW_none, errW_some] <;> rfl), by repeat (first | (with_reducible first | exact HB.out | apply below_alloc | apply pw_below_drewN | apply below_drew1) | exact HB.out)⟩
 ·rw [if_neg c4] at H
  have c4b0 : ((l0.length : Int) == (l1.length : Int)) = false := beq_eq_false_iff_ne.mpr c4
  have c4b1 : ((l0.length : Int) != (l1.length : Int)) = true := bne_iff_ne.mpr c4
  have c4b2 : (l0.length == l1.length) = false := by first | simpa using c4 | (simp at c4 ⊢; omega)
  obtain rfl := Option.some.inj H
  go_enter Try.func40, Try.ntmps40
  go_wp2
  go_ret
  exact ⟨by first | rfl | (simp [errW_none, errW_some] <;> rfl) | (simp [*, errW_none, errW_some] <;> rfl), by repeat (first | (with_reducible first | exact HB.out | apply below_alloc | apply pw_below_drewN | apply below_drew1) | exact HB.out)⟩

end Go.Proofs.Ytmpdpfojiepdkaa.Q

-- Printed by this session's wip/np.py over the kit's print program. Not trusted: Lean checks it.
namespace Go.Proofs.Ytmpdpfojiepdkaa.Q
open Go.RowKit Go.Proofs.YtmpdpfojiepdkaaW.PrintWords Go.Proofs.YtmpdpfojiepdkaaW.PrintLast Go.Proofs.YtmpdpfojiepdkaaW.Own Go.Proofs.YtmpdpfojiepdkaaW.PrintMore
attribute [local go_sem] max2_int min2_int max_two min_two max_three min_three max_four min_four
set_option linter.unusedVariables false
set_option linter.unusedSimpArgs false

/-! ### api_Piece_17: function 17 -/
def api_Piece_17.f (k : Nat) (l0 : List (S29)) (l1 : List (S29)) : Option (Bool) := (api_Piece_40.f k l0 l1).bind fun t119 => (some t119)
theorem api_Piece_17.mono : ∀ a0 a1 k, LeO (api_Piece_17.f k a0 a1) (api_Piece_17.f (k + 1) a0 a1) := by
 intro a0 a1 k
 unfold api_Piece_17.f
 repeat' first
  | (with_reducible exact api_Piece_40.mono _ _ _)
  | (with_reducible exact LeO.refl _)
  | (with_reducible exact LeO.none _)
  | (with_reducible refine LeO.ite ?_ ?_)
  | (with_reducible refine LeO.bind ?_ (fun _ => ?_))
  | exact api_Piece_40.mono _ _ _
  | exact LeO.none _
  | refine LeO.ite ?_ ?_
  | refine LeO.bind ?_ (fun _ => ?_)
set_option maxHeartbeats 8000000 in
set_option maxRecDepth 100000 in
theorem api_Piece_17.calls (k : Nat) (A0 : Option Addr) (c0 : Nat) (l0 : List (S29)) (A1 : Option Addr) (c1 : Nat) (l1 : List (S29)) (r : Bool) (w : World) (hr0 : Kd.C k29 w A0 l0.length l0) (hc0 : l0.length ≤ c0) (hr1 : Kd.C k29 w A1 l1.length l1) (hc1 : l1.length ≤ c1) (hG : Glob w) (h : api_Piece_17.f k l0 l1 = some r) :
 Calls Try.prog 17 #[.slice A0 l0.length c0, .slice A1 l1.length c1] w fun e w' => e = .returned (.bool r) ∧ Below w.heap.size w w' := by
 have HG := Aside0.mk hG
 clear hG
 have HR0 := Aside0.mk hr0
 have HC0 := Aside0.mk hc0
 clear hr0 hc0
 have HR1 := Aside0.mk hr1
 have HC1 := Aside0.mk hc1
 clear hr1 hc1
 have HB := Aside0.mk (Below.refl w.heap.size w)
 have H : ((api_Piece_40.f k l0 l1).bind fun t119 => (some t119)) = some r := h
 clear h
 replace H := Option.bind_eq_some_iff.mp H
 obtain ⟨t119, A30, H⟩ := H
 replace H : (some t119) = some r := H
 have A3 := Aside0.mk A30
 clear A30
 obtain rfl := Option.some.inj H
 go_enter Try.func17, Try.ntmps17
 go_wp2_with (first | ((with_reducible refine gate_callee (f := 40) rfl ?_); refine goesL_ (some 7) rfl rfl Try.func40 (by kernel_rfl) rfl #[.slice A0 l0.length c0, .slice A1 l1.length c1, .func (.func 41) #[] #[]] rfl (by (try simp only [List.map_toArray, List.map_cons, List.map_nil]); first | done | rfl | (simp only [List.length_drop, List.length_take]; rfl)) ?_; (with_reducible refine (api_Piece_40.calls k _ _ l0 _ _ l1  t119 _ ?side1 ?side2 ?side3 ?side4 ?side5 A3.out).mono ?_); (case side1 => repeat (first | exact HR0.out | (with_reducible refine Kd.C_alloc ?_ _) | (with_reducible refine Kd.C_drewN ?_ _) | (with_reducible refine Kd.C_drew ?_))); (case side2 => exact HC0.out); (case side3 => repeat (first | exact HR1.out | (with_reducible refine Kd.C_alloc ?_ _) | (with_reducible refine Kd.C_drewN ?_ _) | (with_reducible refine Kd.C_drew ?_))); (case side4 => exact HC1.out); (case side5 => exact Glob.step HG.out (by repeat (first | (with_reducible first | exact HB.out | apply below_alloc | apply pw_below_drewN | apply below_drew1) | exact HB.out))); rintro e w4 ⟨rfl, hb⟩; refine ⟨_, rfl, ?_⟩; have n0_ := Aside0.mk (below_step (by repeat (first | (with_reducible first | exact HB.out | apply below_alloc | apply pw_below_drewN | apply below_drew1) | exact HB.out)) hb); clear HB; have HB := n0_; clear n0_; (try clear hb); (try clear hb2); (try clear hk); (try clear hi)))
 go_ret
 exact ⟨by first | rfl | (simp [errW_none, errW_some] <;> rfl) | (simp [*, errW_none, errW_some] <;> rfl), by repeat (first | (with_reducible first | exact HB.out | apply below_alloc | apply pw_below_drewN | apply below_drew1) | exact HB.out)⟩

end Go.Proofs.Ytmpdpfojiepdkaa.Q

-- Printed by this session's wip/np.py over the kit's print program. Not trusted: Lean checks it.
namespace Go.Proofs.Ytmpdpfojiepdkaa.Q
open Go.RowKit Go.Proofs.YtmpdpfojiepdkaaW.PrintWords Go.Proofs.YtmpdpfojiepdkaaW.PrintLast Go.Proofs.YtmpdpfojiepdkaaW.Own Go.Proofs.YtmpdpfojiepdkaaW.PrintMore
attribute [local go_sem] max2_int min2_int max_two min_two max_three min_three max_four min_four
set_option linter.unusedVariables false
set_option linter.unusedSimpArgs false

/-! ### strings_Contains: function 44 -/
def strings_Contains.f (a0 a1 : ByteArray) : Option Bool := if a0.size < 4294967281 then some (Lib.contains a0.data.toList a1.data.toList) else none
theorem strings_Contains.calls (a0 a1 : ByteArray) (r : Bool) (w : World) (hG : Glob w) (h : strings_Contains.f a0 a1 = some r) :
 Calls Try.prog 44 #[.string a0, .string a1] w fun e w' => e = .returned (.bool r) ∧ Drawn0 w w' := by
 unfold strings_Contains.f at h
 split at h
 ·rename_i hs
  obtain rfl := Option.some.inj h
  obtain ⟨m, hm⟩ := hG
  exact (Try.strings_Contains a0 a1 m w hs hm).mono fun e w' hh => ⟨hh.1, ⟨⟨0, hh.2⟩⟩⟩
 ·exact absurd h (by simp)


end Go.Proofs.Ytmpdpfojiepdkaa.Q

-- Printed by this session's wip/np.py over the kit's print program. Not trusted: Lean checks it.
namespace Go.Proofs.Ytmpdpfojiepdkaa.Q
open Go.RowKit Go.Proofs.YtmpdpfojiepdkaaW.PrintWords Go.Proofs.YtmpdpfojiepdkaaW.PrintLast Go.Proofs.YtmpdpfojiepdkaaW.Own Go.Proofs.YtmpdpfojiepdkaaW.PrintMore
attribute [local go_sem] max2_int min2_int max_two min_two max_three min_three max_four min_four
set_option linter.unusedVariables false
set_option linter.unusedSimpArgs false

/-! ### expr_Has: function 20 -/
def expr_Has.f (a0 : ByteArray) : Option (Bool) := (strings_Contains.f a0 (⟨#[36, 123]⟩ : ByteArray)).bind fun t120 => (some t120)
set_option maxHeartbeats 8000000 in
set_option maxRecDepth 100000 in
theorem expr_Has.calls (a0 : ByteArray) (r : Bool) (w : World) (hG : Glob w) (h : expr_Has.f a0 = some r) :
 Calls Try.prog 20 #[.string a0] w fun e w' => e = .returned (.bool r) ∧ Drawn0 w w' := by
 have HG := Aside0.mk hG
 clear hG
 have H : ((strings_Contains.f a0 (⟨#[36, 123]⟩ : ByteArray)).bind fun t120 => (some t120)) = some r := h
 clear h
 replace H := Option.bind_eq_some_iff.mp H
 obtain ⟨t120, A20, H⟩ := H
 replace H : (some t120) = some r := H
 have A2 := Aside0.mk A20
 clear A20
 obtain rfl := Option.some.inj H
 go_enter Try.func20, Try.ntmps20
 go_wp2_with (first | ((with_reducible refine gate_callee (f := 44) rfl ?_); refine goesL_ (some 4) rfl rfl Try.func44 (by kernel_rfl) rfl #[.string a0, .string (⟨#[36, 123]⟩ : ByteArray)] rfl (by (try simp only [List.map_toArray, List.map_cons, List.map_nil]); first | done | rfl | (simp only [List.length_drop, List.length_take]; rfl)) ?_; (with_reducible refine (strings_Contains.calls a0 (⟨#[36, 123]⟩ : ByteArray) t120 _ ?side1 A2.out).mono ?_); (case side1 => exact Glob.drawn HG.out (by repeat (first | exact Drawn0.refl _ | apply Drawn0.step))); rintro e w' ⟨rfl, ⟨nd, rfl⟩⟩; refine ⟨_, rfl, ?_⟩))
 go_ret
 exact ⟨by first | rfl | (simp; done) | (simp [*]; done), by repeat (first | exact Drawn0.refl _ | apply Drawn0.step)⟩

end Go.Proofs.Ytmpdpfojiepdkaa.Q

-- Printed by this session's wip/np.py over the kit's print program. Not trusted: Lean checks it.
namespace Go.Proofs.Ytmpdpfojiepdkaa.Q
open Go.RowKit Go.Proofs.YtmpdpfojiepdkaaW.PrintWords Go.Proofs.YtmpdpfojiepdkaaW.PrintLast Go.Proofs.YtmpdpfojiepdkaaW.Own Go.Proofs.YtmpdpfojiepdkaaW.PrintMore
attribute [local go_sem] max2_int min2_int max_two min_two max_three min_three max_four min_four
set_option linter.unusedVariables false
set_option linter.unusedSimpArgs false

/-! ### newellaw10_awake: function 13 -/
def newellaw10_awake.f (k : Nat)  : Option (Bool) := (expr_Split.f k (⟨#[97, 36, 123, 98, 125]⟩ : ByteArray)).bind fun bt121 => (if bt121.2 = 0 then ((api_Piece_17.f k bt121.1 (([(⟨false, (⟨#[97]⟩ : ByteArray)⟩ : S29), (⟨true, (⟨#[98]⟩ : ByteArray)⟩ : S29)] : List (S29)))).bind fun t128 => (if t128 = true then ((expr_Has.f (⟨#[36, 123]⟩ : ByteArray)).bind fun t129 => (some t129)) else (some false))) else (some false))
theorem newellaw10_awake.mono : ∀ k, LeO (newellaw10_awake.f k ) (newellaw10_awake.f (k + 1) ) := by
 intro  k
 unfold newellaw10_awake.f
 repeat' first
  | (with_reducible exact api_Piece_17.mono _ _ _)
  | (with_reducible exact expr_Split.mono _ _)
  | (with_reducible exact LeO.refl _)
  | (with_reducible exact LeO.none _)
  | (with_reducible refine LeO.ite ?_ ?_)
  | (with_reducible refine LeO.bind ?_ (fun _ => ?_))
  | exact api_Piece_17.mono _ _ _
  | exact expr_Split.mono _ _
  | exact LeO.none _
  | refine LeO.ite ?_ ?_
  | refine LeO.bind ?_ (fun _ => ?_)
set_option maxHeartbeats 8000000 in
set_option maxRecDepth 100000 in
theorem newellaw10_awake.calls (k : Nat)  (r : Bool) (w : World) (hG : Glob w) (h : newellaw10_awake.f k  = some r) :
 Calls Try.prog 13 #[] w fun e w' => e = .returned (.bool r) ∧ Below w.heap.size w w' := by
 have hu29 := Try.underlying29
 have HG := Aside0.mk hG
 clear hG
 have HB := Aside0.mk (Below.refl w.heap.size w)
 have H : ((expr_Split.f k (⟨#[97, 36, 123, 98, 125]⟩ : ByteArray)).bind fun bt121 => (if bt121.2 = 0 then ((api_Piece_17.f k bt121.1 (([(⟨false, (⟨#[97]⟩ : ByteArray)⟩ : S29), (⟨true, (⟨#[98]⟩ : ByteArray)⟩ : S29)] : List (S29)))).bind fun t128 => (if t128 = true then ((expr_Has.f (⟨#[36, 123]⟩ : ByteArray)).bind fun t129 => (some t129)) else (some false))) else (some false))) = some r := h
 clear h
 replace H := Option.bind_eq_some_iff.mp H
 obtain ⟨⟨t121, t122⟩, A10, H⟩ := H
 replace H : (if t122 = 0 then ((api_Piece_17.f k t121 (([(⟨false, (⟨#[97]⟩ : ByteArray)⟩ : S29), (⟨true, (⟨#[98]⟩ : ByteArray)⟩ : S29)] : List (S29)))).bind fun t128 => (if t128 = true then ((expr_Has.f (⟨#[36, 123]⟩ : ByteArray)).bind fun t129 => (some t129)) else (some false))) else (some false)) = some r := H
 have A1 := Aside0.mk A10
 clear A10
 by_cases c2 : t122 = 0
 ·rw [if_pos c2] at H
  have c2b0 : (t122 == 0) = true := beq_iff_eq.mpr c2
  have c2b1 : (t122 != 0) = false := bne_eq_false_iff_eq.mpr c2
  clear c2
  obtain ⟨y125, hy125⟩ : ∃ y_ : List (S29), y_ = (([(⟨false, (⟨#[97]⟩ : ByteArray)⟩ : S29), (⟨true, (⟨#[98]⟩ : ByteArray)⟩ : S29)] : List (S29))) := ⟨_, rfl⟩
  replace H : ((api_Piece_17.f k t121 y125).bind fun t128 => (if t128 = true then ((expr_Has.f (⟨#[36, 123]⟩ : ByteArray)).bind fun t129 => (some t129)) else (some false))) = some r := by first | (rw [hy125]; with_reducible exact H) | (have H2_ := (Option.bind_some _ _).symm.trans H; rw [hy125]; with_reducible exact H2_) | (have H2_ := (Option.bind_some _ _).symm.trans H; with_reducible exact H2_) | with_reducible exact H | (rw [hy125]; exact H) | exact H
  have Ny125 := Aside0.mk hy125
  clear hy125
  replace H := Option.bind_eq_some_iff.mp H
  obtain ⟨t128, A30, H⟩ := H
  replace H : (if t128 = true then ((expr_Has.f (⟨#[36, 123]⟩ : ByteArray)).bind fun t129 => (some t129)) else (some false)) = some r := H
  have A3 := Aside0.mk A30
  clear A30
  by_cases c4 : t128 = true
  ·subst c4
   have H1 : ((expr_Has.f (⟨#[36, 123]⟩ : ByteArray)).bind fun t129 => (some t129)) = some r := by rw [if_pos rfl] at H; exact H
   clear H
   have H := H1
   clear H1
   replace H := Option.bind_eq_some_iff.mp H
   obtain ⟨t129, A50, H⟩ := H
   replace H : (some t129) = some r := H
   have A5 := Aside0.mk A50
   clear A50
   obtain rfl := Option.some.inj H
   go_enter Try.func13, Try.ntmps13
   go_wp2_with (first | ((with_reducible refine gate_callee (f := 14) rfl ?_); refine goesL_ (some 4) rfl rfl Try.func14 (by kernel_rfl) rfl #[.string (⟨#[97, 36, 123, 98, 125]⟩ : ByteArray)] rfl (by (try simp only [List.map_toArray, List.map_cons, List.map_nil]); first | done | rfl | (simp only [List.length_drop, List.length_take]; rfl)) ?_; (with_reducible refine (expr_Split.calls k (⟨#[97, 36, 123, 98, 125]⟩ : ByteArray) t121 t122 _ ?side1 A1.out).mono ?_); (case side1 => exact Glob.step HG.out (by repeat (first | (with_reducible first | exact HB.out | apply below_alloc | apply pw_below_drewN | apply below_drew1) | exact HB.out))); rintro e w6 ⟨v123, rfl, ho0, hb⟩; refine ⟨_, rfl, ?_⟩; have n0_ := Aside0.mk (Kd.R_lower ho0 (below_size (by repeat (first | (with_reducible first | exact HB.out | apply below_alloc | apply pw_below_drewN | apply below_drew1) | exact HB.out)))); have n1_ := Aside0.mk (below_step (by repeat (first | (with_reducible first | exact HB.out | apply below_alloc | apply pw_below_drewN | apply below_drew1) | exact HB.out)) hb); clear HB; have HO124 := n0_; have HB := n1_; clear n0_ n1_; (try clear hb); (try clear hb2); (try clear hk); (try clear hi); (try clear ho0)) | ((with_reducible refine gate_dst (N := 13) rfl ?_); (try (refine gate_guard (by rfl) ?_; dsimp only)); refine Kd.R_lit k29 _ 29 ?hg (N := 13) ?hd (xs := ([(⟨false, (⟨#[97]⟩ : ByteArray)⟩ : S29), (⟨true, (⟨#[98]⟩ : ByteArray)⟩ : S29)] : List (S29))) (inner := [.bool false, .string (⟨#[97]⟩ : ByteArray), .bool true, .string (⟨#[98]⟩ : ByteArray)]) (ok := fun _ => True) (okp := fun _ => True) ?hr ?hp (fun _ hk => hk) trivial (Below.refl _ _) (Nat.le_refl _) (by simp) ?_; (case hd => rfl); (case hg => rfl); (case hr => first | (go_simp; done) | (go_simp; rfl)); (case hp => exact (Reps.c2 (show Kd.M k29 _ _ _ (⟨false, (⟨#[97]⟩ : ByteArray)⟩ : S29) [.bool false, .string (⟨#[97]⟩ : ByteArray)] from (k29_mkM _ _ _ (⟨false, (⟨#[97]⟩ : ByteArray)⟩ : S29) )) (Reps.c2 (show Kd.M k29 _ _ _ (⟨true, (⟨#[98]⟩ : ByteArray)⟩ : S29) [.bool true, .string (⟨#[98]⟩ : ByteArray)] from (k29_mkM _ _ _ (⟨true, (⟨#[98]⟩ : ByteArray)⟩ : S29) )) (Reps.none _ _)))); intro v126 w7 ho8 hb hg_ hnew_; clear hg_ hnew_; (first | rw [← Ny125.out] at ho8 | (simp only [Int.reduceToNat] at ho8; rw [← Ny125.out] at ho8)); have n0_ := Aside0.mk (Kd.R_elder' (by (with_reducible repeat (first | apply Kd.R_alloc | apply Kd.R_drewN | apply Kd.R_drew)); exact HO124.out) (Kd.R_base ho8) hb); have n1_ := Aside0.mk (Kd.R_lower (Kd.R_new' ho8 (Kd.R_lt (by (with_reducible repeat (first | apply Kd.R_alloc | apply Kd.R_drewN | apply Kd.R_drew)); exact HO124.out))) (below_size (by repeat (first | (with_reducible first | exact HB.out | apply below_alloc | apply pw_below_drewN | apply below_drew1) | exact HB.out)))); have n2_ := Aside0.mk (below_step (by repeat (first | (with_reducible first | exact HB.out | apply below_alloc | apply pw_below_drewN | apply below_drew1) | exact HB.out)) hb); clear HO124; clear HB; have HO124 := n0_; have HO127 := n1_; have HB := n2_; clear n0_ n1_ n2_; clear hb ho8; obtain ⟨Ao9, co9, eo9⟩ := Kd.R_slice HO124.out; subst eo9; obtain ⟨Ao10, co10, eo10⟩ := Kd.R_slice HO127.out; subst eo10) | (go_at_call 17; (with_reducible refine (api_Piece_17.calls k _ _ t121 _ _ y125 true _ ?side1 ?side2 ?side3 ?side4 ?side5 A3.out).mono ?_); (case side1 => repeat (first | exact (Kd.R_reads' HO124.out).2.2 | (with_reducible refine Kd.C_alloc ?_ _) | (with_reducible refine Kd.C_drewN ?_ _) | (with_reducible refine Kd.C_drew ?_))); (case side2 => exact (Kd.R_reads' HO124.out).2.1); (case side3 => repeat (first | exact (Kd.R_reads' HO127.out).2.2 | (with_reducible refine Kd.C_alloc ?_ _) | (with_reducible refine Kd.C_drewN ?_ _) | (with_reducible refine Kd.C_drew ?_))); (case side4 => exact (Kd.R_reads' HO127.out).2.1); (case side5 => exact Glob.step HG.out (by repeat (first | (with_reducible first | exact HB.out | apply below_alloc | apply pw_below_drewN | apply below_drew1) | exact HB.out))); rintro e w11 ⟨rfl, hb⟩; have n0_ := Aside0.mk (Kd.R_below (by (with_reducible repeat (first | apply Kd.R_alloc | apply Kd.R_drewN | apply Kd.R_drew)); exact HO124.out) hb); have n1_ := Aside0.mk (Kd.R_below (by (with_reducible repeat (first | apply Kd.R_alloc | apply Kd.R_drewN | apply Kd.R_drew)); exact HO127.out) hb); have n2_ := Aside0.mk (below_step (by repeat (first | (with_reducible first | exact HB.out | apply below_alloc | apply pw_below_drewN | apply below_drew1) | exact HB.out)) hb); clear HO124; clear HO127; clear HB; have HO124 := n0_; have HO127 := n1_; have HB := n2_; clear n0_ n1_ n2_; (try clear hb); (try clear hb2); (try clear hk); (try clear hi)) | (go_at_call 20; (with_reducible refine (expr_Has.calls (⟨#[36, 123]⟩ : ByteArray) t129 _ ?side1 A5.out).mono ?_); (case side1 => exact Glob.step HG.out (by repeat (first | (with_reducible first | exact HB.out | apply below_alloc | apply pw_below_drewN | apply below_drew1) | exact HB.out))); rintro e w' ⟨rfl, ⟨nd, rfl⟩⟩))
   go_ret
   exact ⟨by first | rfl | (simp [errW_none, errW_some] <;> rfl) | (simp [*, errW_none, errW_some] <;> rfl), by repeat (first | (with_reducible first | exact HB.out | apply below_alloc | apply pw_below_drewN | apply below_drew1) | exact HB.out)⟩
  ·replace c4 := Bool.eq_false_iff.mpr c4
   subst c4
   have H1 : (some false) = some r := by rw [if_neg (show ¬ (false = true) by decide)] at H; exact H
   clear H
   have H := H1
   clear H1
   obtain rfl := Option.some.inj H
   go_enter Try.func13, Try.ntmps13
   go_wp2_with (first | ((with_reducible refine gate_callee (f := 14) rfl ?_); refine goesL_ (some 4) rfl rfl Try.func14 (by kernel_rfl) rfl #[.string (⟨#[97, 36, 123, 98, 125]⟩ : ByteArray)] rfl (by (try simp only [List.map_toArray, List.map_cons, List.map_nil]); first | done | rfl | (simp only [List.length_drop, List.length_take]; rfl)) ?_; (with_reducible refine (expr_Split.calls k (⟨#[97, 36, 123, 98, 125]⟩ : ByteArray) t121 t122 _ ?side1 A1.out).mono ?_); (case side1 => exact Glob.step HG.out (by repeat (first | (with_reducible first | exact HB.out | apply below_alloc | apply pw_below_drewN | apply below_drew1) | exact HB.out))); rintro e w12 ⟨v123, rfl, ho0, hb⟩; refine ⟨_, rfl, ?_⟩; have n0_ := Aside0.mk (Kd.R_lower ho0 (below_size (by repeat (first | (with_reducible first | exact HB.out | apply below_alloc | apply pw_below_drewN | apply below_drew1) | exact HB.out)))); have n1_ := Aside0.mk (below_step (by repeat (first | (with_reducible first | exact HB.out | apply below_alloc | apply pw_below_drewN | apply below_drew1) | exact HB.out)) hb); clear HB; have HO124 := n0_; have HB := n1_; clear n0_ n1_; (try clear hb); (try clear hb2); (try clear hk); (try clear hi); (try clear ho0)) | ((with_reducible refine gate_dst (N := 13) rfl ?_); (try (refine gate_guard (by rfl) ?_; dsimp only)); refine Kd.R_lit k29 _ 29 ?hg (N := 13) ?hd (xs := ([(⟨false, (⟨#[97]⟩ : ByteArray)⟩ : S29), (⟨true, (⟨#[98]⟩ : ByteArray)⟩ : S29)] : List (S29))) (inner := [.bool false, .string (⟨#[97]⟩ : ByteArray), .bool true, .string (⟨#[98]⟩ : ByteArray)]) (ok := fun _ => True) (okp := fun _ => True) ?hr ?hp (fun _ hk => hk) trivial (Below.refl _ _) (Nat.le_refl _) (by simp) ?_; (case hd => rfl); (case hg => rfl); (case hr => first | (go_simp; done) | (go_simp; rfl)); (case hp => exact (Reps.c2 (show Kd.M k29 _ _ _ (⟨false, (⟨#[97]⟩ : ByteArray)⟩ : S29) [.bool false, .string (⟨#[97]⟩ : ByteArray)] from (k29_mkM _ _ _ (⟨false, (⟨#[97]⟩ : ByteArray)⟩ : S29) )) (Reps.c2 (show Kd.M k29 _ _ _ (⟨true, (⟨#[98]⟩ : ByteArray)⟩ : S29) [.bool true, .string (⟨#[98]⟩ : ByteArray)] from (k29_mkM _ _ _ (⟨true, (⟨#[98]⟩ : ByteArray)⟩ : S29) )) (Reps.none _ _)))); intro v126 w13 ho14 hb hg_ hnew_; clear hg_ hnew_; (first | rw [← Ny125.out] at ho14 | (simp only [Int.reduceToNat] at ho14; rw [← Ny125.out] at ho14)); have n0_ := Aside0.mk (Kd.R_elder' (by (with_reducible repeat (first | apply Kd.R_alloc | apply Kd.R_drewN | apply Kd.R_drew)); exact HO124.out) (Kd.R_base ho14) hb); have n1_ := Aside0.mk (Kd.R_lower (Kd.R_new' ho14 (Kd.R_lt (by (with_reducible repeat (first | apply Kd.R_alloc | apply Kd.R_drewN | apply Kd.R_drew)); exact HO124.out))) (below_size (by repeat (first | (with_reducible first | exact HB.out | apply below_alloc | apply pw_below_drewN | apply below_drew1) | exact HB.out)))); have n2_ := Aside0.mk (below_step (by repeat (first | (with_reducible first | exact HB.out | apply below_alloc | apply pw_below_drewN | apply below_drew1) | exact HB.out)) hb); clear HO124; clear HB; have HO124 := n0_; have HO127 := n1_; have HB := n2_; clear n0_ n1_ n2_; clear hb ho14; obtain ⟨Ao15, co15, eo15⟩ := Kd.R_slice HO124.out; subst eo15; obtain ⟨Ao16, co16, eo16⟩ := Kd.R_slice HO127.out; subst eo16) | (go_at_call 17; (with_reducible refine (api_Piece_17.calls k _ _ t121 _ _ y125 false _ ?side1 ?side2 ?side3 ?side4 ?side5 A3.out).mono ?_); (case side1 => repeat (first | exact (Kd.R_reads' HO124.out).2.2 | (with_reducible refine Kd.C_alloc ?_ _) | (with_reducible refine Kd.C_drewN ?_ _) | (with_reducible refine Kd.C_drew ?_))); (case side2 => exact (Kd.R_reads' HO124.out).2.1); (case side3 => repeat (first | exact (Kd.R_reads' HO127.out).2.2 | (with_reducible refine Kd.C_alloc ?_ _) | (with_reducible refine Kd.C_drewN ?_ _) | (with_reducible refine Kd.C_drew ?_))); (case side4 => exact (Kd.R_reads' HO127.out).2.1); (case side5 => exact Glob.step HG.out (by repeat (first | (with_reducible first | exact HB.out | apply below_alloc | apply pw_below_drewN | apply below_drew1) | exact HB.out))); rintro e w17 ⟨rfl, hb⟩; have n0_ := Aside0.mk (Kd.R_below (by (with_reducible repeat (first | apply Kd.R_alloc | apply Kd.R_drewN | apply Kd.R_drew)); exact HO124.out) hb); have n1_ := Aside0.mk (Kd.R_below (by (with_reducible repeat (first | apply Kd.R_alloc | apply Kd.R_drewN | apply Kd.R_drew)); exact HO127.out) hb); have n2_ := Aside0.mk (below_step (by repeat (first | (with_reducible first | exact HB.out | apply below_alloc | apply pw_below_drewN | apply below_drew1) | exact HB.out)) hb); clear HO124; clear HO127; clear HB; have HO124 := n0_; have HO127 := n1_; have HB := n2_; clear n0_ n1_ n2_; (try clear hb); (try clear hb2); (try clear hk); (try clear hi)))
   go_ret
   exact ⟨by first | rfl | (simp [errW_none, errW_some] <;> rfl) | (simp [*, errW_none, errW_some] <;> rfl), by repeat (first | (with_reducible first | exact HB.out | apply below_alloc | apply pw_below_drewN | apply below_drew1) | exact HB.out)⟩
 ·rw [if_neg c2] at H
  have c2b0 : (t122 == 0) = false := beq_eq_false_iff_ne.mpr c2
  have c2b1 : (t122 != 0) = true := bne_iff_ne.mpr c2
  obtain rfl := Option.some.inj H
  go_enter Try.func13, Try.ntmps13
  go_wp2_with (first | ((with_reducible refine gate_callee (f := 14) rfl ?_); refine goesL_ (some 4) rfl rfl Try.func14 (by kernel_rfl) rfl #[.string (⟨#[97, 36, 123, 98, 125]⟩ : ByteArray)] rfl (by (try simp only [List.map_toArray, List.map_cons, List.map_nil]); first | done | rfl | (simp only [List.length_drop, List.length_take]; rfl)) ?_; (with_reducible refine (expr_Split.calls k (⟨#[97, 36, 123, 98, 125]⟩ : ByteArray) t121 t122 _ ?side1 A1.out).mono ?_); (case side1 => exact Glob.step HG.out (by repeat (first | (with_reducible first | exact HB.out | apply below_alloc | apply pw_below_drewN | apply below_drew1) | exact HB.out))); rintro e w18 ⟨v123, rfl, ho0, hb⟩; refine ⟨_, rfl, ?_⟩; have n0_ := Aside0.mk (Kd.R_lower ho0 (below_size (by repeat (first | (with_reducible first | exact HB.out | apply below_alloc | apply pw_below_drewN | apply below_drew1) | exact HB.out)))); have n1_ := Aside0.mk (below_step (by repeat (first | (with_reducible first | exact HB.out | apply below_alloc | apply pw_below_drewN | apply below_drew1) | exact HB.out)) hb); clear HB; have HO124 := n0_; have HB := n1_; clear n0_ n1_; (try clear hb); (try clear hb2); (try clear hk); (try clear hi); (try clear ho0)))
  go_ret
  exact ⟨by first | rfl | (simp [errW_none, errW_some] <;> rfl) | (simp [*, errW_none, errW_some] <;> rfl), by repeat (first | (with_reducible first | exact HB.out | apply below_alloc | apply pw_below_drewN | apply below_drew1) | exact HB.out)⟩

end Go.Proofs.Ytmpdpfojiepdkaa.Q

-- Printed by this session's wip/np.py over the kit's print program. Not trusted: Lean checks it.
namespace Go.Proofs.Ytmpdpfojiepdkaa.Q
open Go.RowKit Go.Proofs.YtmpdpfojiepdkaaW.PrintWords Go.Proofs.YtmpdpfojiepdkaaW.PrintLast Go.Proofs.YtmpdpfojiepdkaaW.Own Go.Proofs.YtmpdpfojiepdkaaW.PrintMore
attribute [local go_sem] max2_int min2_int max_two min_two max_three min_three max_four min_four
set_option linter.unusedVariables false
set_option linter.unusedSimpArgs false

/-! ### newelref10_begins: function 39 -/
def newelref10_begins.f (a0 : ByteArray) (a1 : Int) : Option (Bool) := if (wrap64 (a1 + 1)) < (a0.size : Int) then (if 0 ≤ a1 then (if a1 < (a0.size : Int) then (if (bt a0 a1) = 36 then (if 0 ≤ (wrap64 (a1 + 1)) then (some ((bt a0 (wrap64 (a1 + 1))) == 123)) else (none)) else (some false)) else (none)) else (none)) else (some false)
set_option maxHeartbeats 8000000 in
set_option maxRecDepth 100000 in
theorem newelref10_begins.calls (a0 : ByteArray) (a1 : Int) (r : Bool) (w : World) (hG : Glob w) (h : newelref10_begins.f a0 a1 = some r) :
 Calls Try.prog 39 #[.string a0, .int .i64 a1] w fun e w' => e = .returned (.bool r) ∧ Drawn0 w w' := by
 have HG := Aside0.mk hG
 clear hG
 have H : (if (wrap64 (a1 + 1)) < (a0.size : Int) then (if 0 ≤ a1 then (if a1 < (a0.size : Int) then (if (bt a0 a1) = 36 then (if 0 ≤ (wrap64 (a1 + 1)) then (some ((bt a0 (wrap64 (a1 + 1))) == 123)) else (none)) else (some false)) else (none)) else (none)) else (some false)) = some r := h
 clear h
 by_cases c3 : (wrap64 (a1 + 1)) < (a0.size : Int)
 ·rw [if_pos c3] at H
  have c3b0 : decide ((wrap64 (a1 + 1)) < (a0.size : Int)) = true := decide_eq_true c3
  clear c3
  by_cases c4 : 0 ≤ a1
  ·rw [if_pos c4] at H
   have c4b0 : decide (0 ≤ a1) = true := decide_eq_true c4
   clear c4
   by_cases c5 : a1 < (a0.size : Int)
   ·rw [if_pos c5] at H
    have c5b0 : decide (a1 < (a0.size : Int)) = true := decide_eq_true c5
    clear c5
    by_cases c7 : (bt a0 a1) = 36
    ·rw [if_pos c7] at H
     have c7b0 : ((bt a0 a1) == 36) = true := beq_iff_eq.mpr c7
     have c7b1 : ((bt a0 a1) != 36) = false := bne_eq_false_iff_eq.mpr c7
     clear c7
     obtain ⟨ji8, hji8⟩ : ∃ j_ : Int, (wrap64 (a1 + 1)) = j_ := ⟨_, rfl⟩
     replace H : (if 0 ≤ (ji8) then (some ((bt a0 (ji8)) == 123)) else (none)) = some r := by first | (rw [hji8] at H; exact H) | (simp only [hji8] at H ⊢; exact H)
     (try rw [hji8] at c3b0)
     have hji8w : (IntKind.i64.wrap (a1 + 1)) = ji8 := (i64_w _).trans hji8
     by_cases c9 : 0 ≤ (ji8)
     ·rw [if_pos c9] at H
      have c9b0 : decide (0 ≤ (ji8)) = true := decide_eq_true c9
      clear c9
      obtain rfl := Option.some.inj H
      have p6 : 0 ≤ (a1 : Int) := of_decide_eq_true (by first | (with_reducible assumption) | assumption)
      have q6 : a1 < (a0.size : Int) := of_decide_eq_true (by first | (with_reducible assumption) | assumption)
      have hx6 := bt_at a0 a1
      replace p6 := eq_true p6
      replace q6 := eq_true q6
      have p10 : 0 ≤ ((ji8) : Int) := of_decide_eq_true (by first | (with_reducible assumption) | assumption)
      have q10 : (ji8) < (a0.size : Int) := of_decide_eq_true (by first | (with_reducible assumption) | assumption)
      have hx10 := bt_at a0 (ji8)
      replace p10 := eq_true p10
      replace q10 := eq_true q10
      go_enter Try.func39, Try.ntmps39
      go_wp2
      go_ret
      exact ⟨by first | rfl | (simp; done) | (simp only [← hji8] <;> (first | rfl | simp)) | (simp [*]; done), by repeat (first | exact Drawn0.refl _ | apply Drawn0.step)⟩
     ·rw [if_neg c9] at H
      exact absurd H (by simp)
    ·rw [if_neg c7] at H
     have c7b0 : ((bt a0 a1) == 36) = false := beq_eq_false_iff_ne.mpr c7
     have c7b1 : ((bt a0 a1) != 36) = true := bne_iff_ne.mpr c7
     obtain rfl := Option.some.inj H
     have p6 : 0 ≤ (a1 : Int) := of_decide_eq_true (by first | (with_reducible assumption) | assumption)
     have q6 : a1 < (a0.size : Int) := of_decide_eq_true (by first | (with_reducible assumption) | assumption)
     have hx6 := bt_at a0 a1
     replace p6 := eq_true p6
     replace q6 := eq_true q6
     go_enter Try.func39, Try.ntmps39
     go_wp2
     go_ret
     exact ⟨by first | rfl | (simp; done) | (simp [*]; done), by repeat (first | exact Drawn0.refl _ | apply Drawn0.step)⟩
   ·rw [if_neg c5] at H
    exact absurd H (by simp)
  ·rw [if_neg c4] at H
   exact absurd H (by simp)
 ·rw [if_neg c3] at H
  have c3b0 : decide ((wrap64 (a1 + 1)) < (a0.size : Int)) = false := decide_eq_false c3
  clear c3
  obtain rfl := Option.some.inj H
  go_enter Try.func39, Try.ntmps39
  go_wp2
  go_ret
  exact ⟨by first | rfl | (simp; done) | (simp [*]; done), by repeat (first | exact Drawn0.refl _ | apply Drawn0.step)⟩

end Go.Proofs.Ytmpdpfojiepdkaa.Q

-- Printed by this session's wip/np.py over the kit's print program. Not trusted: Lean checks it.
namespace Go.Proofs.Ytmpdpfojiepdkaa.Q
open Go.RowKit Go.Proofs.YtmpdpfojiepdkaaW.PrintWords Go.Proofs.YtmpdpfojiepdkaaW.PrintLast Go.Proofs.YtmpdpfojiepdkaaW.Own Go.Proofs.YtmpdpfojiepdkaaW.PrintMore
attribute [local go_sem] max2_int min2_int max_two min_two max_three min_three max_four min_four
set_option linter.unusedVariables false
set_option linter.unusedSimpArgs false

/-! ### newelref10_Split: function 15 -/
mutual
def newelref10_Split.l0 : Nat → ByteArray → List (S29) → Int → Option ((List (S29)) × Int)
 | 0, _, _, _ => none
 | k + 1, x0, x4, x5 => if x5 < (x0.size : Int) then ((newelref10_begins.f x0 x5).bind fun t130 => (if t130 = true then (newelref10_Split.l1 k x0 x4 x5 (wrap64 (x5 + 2))) else (newelref10_Split.l2 k x0 x4 x5 x5))) else (some (x4, 0))
def newelref10_Split.l1 : Nat → ByteArray → List (S29) → Int → Int → Option ((List (S29)) × Int)
 | 0, _, _, _, _ => none
 | k + 1, x0, x4, x5, x6 => if x6 < (x0.size : Int) then (if 0 ≤ x6 then (if (bt x0 x6) = 36 then (if x6 = (wrap64 (x5 + 2)) then (some (([] : List (S29)), 17)) else (if x6 = (x0.size : Int) then (some (([] : List (S29)), 17)) else (if (bt x0 x6) = 125 then (if 0 ≤ (wrap64 (x5 + 2)) then (if (wrap64 (x5 + 2)) ≤ x6 then (if x6 ≤ (x0.size : Int) then (if x4.length < 5864062014805 then (newelref10_Split.l0 k x0 (x4 ++ [(⟨true, x0.extract ((wrap64 (x5 + 2)) : Int).toNat (x6 : Int).toNat⟩ : S29)]) (wrap64 (x6 + 1))) else (none)) else (none)) else (none)) else (none)) else (some (([] : List (S29)), 17))))) else (if (bt x0 x6) = 123 then (if x6 = (wrap64 (x5 + 2)) then (some (([] : List (S29)), 17)) else (if x6 = (x0.size : Int) then (some (([] : List (S29)), 17)) else (if (bt x0 x6) = 125 then (if 0 ≤ (wrap64 (x5 + 2)) then (if (wrap64 (x5 + 2)) ≤ x6 then (if x6 ≤ (x0.size : Int) then (if x4.length < 5864062014805 then (newelref10_Split.l0 k x0 (x4 ++ [(⟨true, x0.extract ((wrap64 (x5 + 2)) : Int).toNat (x6 : Int).toNat⟩ : S29)]) (wrap64 (x6 + 1))) else (none)) else (none)) else (none)) else (none)) else (some (([] : List (S29)), 17))))) else (if (bt x0 x6) = 125 then (if x6 = (wrap64 (x5 + 2)) then (some (([] : List (S29)), 17)) else (if x6 = (x0.size : Int) then (some (([] : List (S29)), 17)) else (if 0 ≤ (wrap64 (x5 + 2)) then (if (wrap64 (x5 + 2)) ≤ x6 then (if x6 ≤ (x0.size : Int) then (if x4.length < 5864062014805 then (newelref10_Split.l0 k x0 (x4 ++ [(⟨true, x0.extract ((wrap64 (x5 + 2)) : Int).toNat (x6 : Int).toNat⟩ : S29)]) (wrap64 (x6 + 1))) else (none)) else (none)) else (none)) else (none)))) else (newelref10_Split.l1 k x0 x4 x5 (wrap64 (x6 + 1)))))) else (none)) else (if x6 = (wrap64 (x5 + 2)) then (some (([] : List (S29)), 17)) else (if x6 = (x0.size : Int) then (some (([] : List (S29)), 17)) else (if 0 ≤ x6 then (none) else (none))))
def newelref10_Split.l2 : Nat → ByteArray → List (S29) → Int → Int → Option ((List (S29)) × Int)
 | 0, _, _, _, _ => none
 | k + 1, x0, x4, x5, x6 => if x6 < (x0.size : Int) then ((newelref10_begins.f x0 x6).bind fun t140 => (if t140 = true then (if 0 ≤ x5 then (if x5 ≤ x6 then (if x6 ≤ (x0.size : Int) then (if x4.length < 5864062014805 then (newelref10_Split.l0 k x0 (x4 ++ [(⟨false, x0.extract (x5 : Int).toNat (x6 : Int).toNat⟩ : S29)]) x6) else (none)) else (none)) else (none)) else (none)) else (newelref10_Split.l2 k x0 x4 x5 (wrap64 (x6 + 1))))) else (if 0 ≤ x5 then (if x5 ≤ x6 then (if x6 ≤ (x0.size : Int) then (if x4.length < 5864062014805 then (newelref10_Split.l0 k x0 (x4 ++ [(⟨false, x0.extract (x5 : Int).toNat (x6 : Int).toNat⟩ : S29)]) x6) else (none)) else (none)) else (none)) else (none))
end
def newelref10_Split.f (k : Nat) (a0 : ByteArray) : Option ((List (S29)) × Int) := newelref10_Split.l0 k a0 ([] : List (S29)) 0
theorem newelref10_Split.mono_l : ∀ k, (∀ y0 y1 y2, LeO (newelref10_Split.l0 k y0 y1 y2) (newelref10_Split.l0 (k + 1) y0 y1 y2)) ∧ (∀ y0 y1 y2 y3, LeO (newelref10_Split.l1 k y0 y1 y2 y3) (newelref10_Split.l1 (k + 1) y0 y1 y2 y3)) ∧ (∀ y0 y1 y2 y3, LeO (newelref10_Split.l2 k y0 y1 y2 y3) (newelref10_Split.l2 (k + 1) y0 y1 y2 y3))
 | 0 => ⟨fun _ _ _ r h => by simp [newelref10_Split.l0] at h, fun _ _ _ _ r h => by simp [newelref10_Split.l1] at h, fun _ _ _ _ r h => by simp [newelref10_Split.l2] at h⟩
 | k + 1 => by
  obtain ⟨ih0, ih1, ih2⟩ := newelref10_Split.mono_l k
  refine ⟨?_, ?_, ?_⟩
  ·intro y0 y1 y2
   unfold newelref10_Split.l0
   repeat' first
   | (with_reducible exact ih0 _ _ _)
   | (with_reducible exact ih1 _ _ _ _)
   | (with_reducible exact ih2 _ _ _ _)
   | (with_reducible exact LeO.refl _)
   | (with_reducible exact LeO.none _)
   | (with_reducible refine LeO.ite ?_ ?_)
   | (with_reducible refine LeO.bind ?_ (fun _ => ?_))
   | exact ih0 _ _ _
   | exact ih1 _ _ _ _
   | exact ih2 _ _ _ _
   | exact LeO.none _
   | refine LeO.ite ?_ ?_
   | refine LeO.bind ?_ (fun _ => ?_)
  ·intro y0 y1 y2 y3
   unfold newelref10_Split.l1
   repeat' first
   | (with_reducible exact ih0 _ _ _)
   | (with_reducible exact ih1 _ _ _ _)
   | (with_reducible exact ih2 _ _ _ _)
   | (with_reducible exact LeO.refl _)
   | (with_reducible exact LeO.none _)
   | (with_reducible refine LeO.ite ?_ ?_)
   | (with_reducible refine LeO.bind ?_ (fun _ => ?_))
   | exact ih0 _ _ _
   | exact ih1 _ _ _ _
   | exact ih2 _ _ _ _
   | exact LeO.none _
   | refine LeO.ite ?_ ?_
   | refine LeO.bind ?_ (fun _ => ?_)
  ·intro y0 y1 y2 y3
   unfold newelref10_Split.l2
   repeat' first
   | (with_reducible exact ih0 _ _ _)
   | (with_reducible exact ih1 _ _ _ _)
   | (with_reducible exact ih2 _ _ _ _)
   | (with_reducible exact LeO.refl _)
   | (with_reducible exact LeO.none _)
   | (with_reducible refine LeO.ite ?_ ?_)
   | (with_reducible refine LeO.bind ?_ (fun _ => ?_))
   | exact ih0 _ _ _
   | exact ih1 _ _ _ _
   | exact ih2 _ _ _ _
   | exact LeO.none _
   | refine LeO.ite ?_ ?_
   | refine LeO.bind ?_ (fun _ => ?_)
theorem newelref10_Split.mono : ∀ a0 k, LeO (newelref10_Split.f k a0) (newelref10_Split.f (k + 1) a0) := by
 intro a0 k
 obtain ⟨ih0, ih1, ih2⟩ := newelref10_Split.mono_l k
 unfold newelref10_Split.f
 repeat' first
  | (with_reducible exact ih0 _ _ _)
  | (with_reducible exact ih1 _ _ _ _)
  | (with_reducible exact ih2 _ _ _ _)
  | (with_reducible exact LeO.refl _)
  | (with_reducible exact LeO.none _)
  | (with_reducible refine LeO.ite ?_ ?_)
  | (with_reducible refine LeO.bind ?_ (fun _ => ?_))
  | exact ih0 _ _ _
  | exact ih1 _ _ _ _
  | exact ih2 _ _ _ _
  | exact LeO.none _
  | refine LeO.ite ?_ ?_
  | refine LeO.bind ?_ (fun _ => ?_)
set_option maxHeartbeats 8000000 in
set_option maxRecDepth 100000 in
theorem newelref10_Split.calls (k : Nat) (a0 : ByteArray) (r1 : List (S29)) (r2 : Int) (w : World) (hG : Glob w) (h : newelref10_Split.f k a0 = some (r1, r2)) :
 Calls Try.prog 15 #[.string a0] w fun e w' => ∃ v0_ : Value, e = .returned (.tuple #[v0_, .int .i64 r2]) ∧ Kd.R k29 29 w' w.heap.size (fun _ => True) v0_ r1 ∧ Below w.heap.size w w' := by
 have hu29 := Try.underlying29
 have HG := Aside0.mk hG
 clear hG
 have HB := Aside0.mk (Below.refl w.heap.size w)
 have H : (newelref10_Split.l0 k a0 ([] : List (S29)) 0) = some (r1, r2) := h
 clear h
 have H' := Aside0.mk H
 clear H
 go_enter Try.func15, Try.ntmps15
 go_wp2
 go_loopg [4, 5] k (fun kq v4 v5 w' => ∃ (x4_1 : List (S29)) (x5_1 : Int), v5 = .int .i64 x5_1 ∧ Aside0 (newelref10_Split.l0 kq a0 x4_1 x5_1 = some (r1, r2)) ∧ Aside0 (kq ≤ k) ∧ Aside0 (Kd.R k29 29 w' w.heap.size (fun _ => True) v4 x4_1) ∧ Aside0 (Below w.heap.size w w'))
 case atStart => exact ⟨(([] : List (S29))), (0), (by first | rfl | (simp; done) | (simp [*]; done) | (simp; exact isEmpty_bne _)), H', ⟨Nat.le_refl _⟩, ⟨by first | exact Kd.R_nil _ _ _ _ _ | exact Kd.N_nil _ _ _ _ _ | exact Kd.V_nil _ _ _ _ _ | exact Kd.Q_nil _ _ _ _ _ | exact Kd.S_nil _ _ _ _ _⟩, ⟨by repeat (first | (with_reducible first | exact HB.out | apply below_alloc | apply pw_below_drewN | apply below_drew1) | exact HB.out)⟩⟩
 case round =>
  clear H'
  try clear c1
  obtain ⟨x4_1, x5_1, rfl, HA, HK1, HO_4, HB⟩ := hrel
  cases gk with
  | zero => exact absurd HA.out (by simp [newelref10_Split.l0])
  | succ k1 =>
   have H := HA.out
   clear HA
   simp only [newelref10_Split.l0] at H
   by_cases c2 : x5_1 < (a0.size : Int)
   ·rw [if_pos c2] at H
    have c2b0 : decide (x5_1 < (a0.size : Int)) = true := decide_eq_true c2
    clear c2
    replace H := Option.bind_eq_some_iff.mp H
    obtain ⟨t130, A30, H⟩ := H
    replace H : (if t130 = true then (newelref10_Split.l1 k1 a0 x4_1 x5_1 (wrap64 (x5_1 + 2))) else (newelref10_Split.l2 k1 a0 x4_1 x5_1 x5_1)) = some (r1, r2) := H
    have A3 := Aside0.mk A30
    clear A30
    by_cases c4 : t130 = true
    ·subst c4
     have H1 : (newelref10_Split.l1 k1 a0 x4_1 x5_1 (wrap64 (x5_1 + 2))) = some (r1, r2) := by rw [if_pos rfl] at H; exact H
     clear H
     have H := H1
     clear H1
     have H' := Aside0.mk H
     clear H
     go_wp2_with (first | ((with_reducible refine gate_callee (f := 39) rfl ?_); refine goesL_ (some 14) rfl rfl Try.func39 (by kernel_rfl) rfl #[.string a0, .int .i64 x5_1] rfl (by (try simp only [List.map_toArray, List.map_cons, List.map_nil]); first | done | rfl | (simp only [List.length_drop, List.length_take]; rfl)) ?_; (with_reducible refine (newelref10_begins.calls a0 x5_1 true _ ?side1 A3.out).mono ?_); (case side1 => exact Glob.step HG.out (by repeat (first | (with_reducible first | exact HB.out | apply below_alloc | apply pw_below_drewN | apply below_drew1) | exact HB.out))); rintro e w' ⟨rfl, ⟨nd, rfl⟩⟩; refine ⟨_, rfl, ?_⟩))
     (try simp only [Act.put, List.setIfInBounds_toArray, List.set_cons_zero, List.set_cons_succ])
     go_loopg [6] k1 (fun kq v6 w' => ∃ (x6_2 : Int), v6 = .int .i64 x6_2 ∧ Aside0 (newelref10_Split.l1 kq a0 x4_1 x5_1 x6_2 = some (r1, r2)) ∧ Aside0 (kq ≤ k1) ∧ Aside0 (Kd.R k29 29 w' w.heap.size (fun _ => True) u4 x4_1) ∧ Aside0 (Below w.heap.size w w'))
     case atStart => exact ⟨(wrap64 (x5_1 + 2)), (by first | rfl | (simp; done) | (simp [*]; done) | (simp; exact isEmpty_bne _)), H', ⟨Nat.le_refl _⟩, ⟨by (with_reducible repeat (first | apply Kd.R_alloc | apply Kd.R_drewN | apply Kd.R_drew)); exact HO_4.out⟩, ⟨by repeat (first | (with_reducible first | exact HB.out | apply below_alloc | apply pw_below_drewN | apply below_drew1) | exact HB.out)⟩⟩
     case round =>
      clear H'
      try clear c1
      try clear c2
      try clear c2b0
      try clear p2
      try clear c3
      try clear c4
      obtain ⟨x6_2, rfl, HA, HK2, HO_4, HB⟩ := hrel
      cases gk with
      | zero => exact absurd HA.out (by simp [newelref10_Split.l1])
      | succ k2 =>
       have H := HA.out
       clear HA
       simp only [newelref10_Split.l1] at H
       by_cases c5 : x6_2 < (a0.size : Int)
       ·rw [if_pos c5] at H
        have c5b0 : decide (x6_2 < (a0.size : Int)) = true := decide_eq_true c5
        clear c5
        by_cases c6 : 0 ≤ x6_2
        ·rw [if_pos c6] at H
         have c6b0 : decide (0 ≤ x6_2) = true := decide_eq_true c6
         clear c6
         by_cases c8 : (bt a0 x6_2) = 36
         ·rw [if_pos c8] at H
          have c8b0 : ((bt a0 x6_2) == 36) = true := beq_iff_eq.mpr c8
          have c8b1 : ((bt a0 x6_2) != 36) = false := bne_eq_false_iff_eq.mpr c8
          clear c8
          by_cases c9 : x6_2 = (wrap64 (x5_1 + 2))
          ·rw [if_pos c9] at H
           have c9b0 : (x6_2 == (wrap64 (x5_1 + 2))) = true := beq_iff_eq.mpr c9
           have c9b1 : (x6_2 != (wrap64 (x5_1 + 2))) = false := bne_eq_false_iff_eq.mpr c9
           clear c9
           simp only [Option.some.injEq, Prod.mk.injEq] at H
           obtain ⟨rfl, rfl⟩ := H
           have p7 : 0 ≤ (x6_2 : Int) := of_decide_eq_true (by first | (with_reducible assumption) | assumption)
           have q7 : x6_2 < (a0.size : Int) := of_decide_eq_true (by first | (with_reducible assumption) | assumption)
           have hx7 := bt_at a0 x6_2
           replace p7 := eq_true p7
           replace q7 := eq_true q7
           go_wp2
           go_ret2
           exact ⟨_, by first | rfl | (simp [errW_none, errW_some] <;> rfl) | (simp [*, errW_none, errW_some] <;> rfl), by first | exact Kd.R_nil _ _ _ _ _ | exact Kd.N_nil _ _ _ _ _ | exact Kd.V_nil _ _ _ _ _ | exact Kd.Q_nil _ _ _ _ _ | exact Kd.S_nil _ _ _ _ _, by repeat (first | (with_reducible first | exact HB.out | apply below_alloc | apply pw_below_drewN | apply below_drew1) | exact HB.out)⟩
          ·rw [if_neg c9] at H
           have c9b0 : (x6_2 == (wrap64 (x5_1 + 2))) = false := beq_eq_false_iff_ne.mpr c9
           have c9b1 : (x6_2 != (wrap64 (x5_1 + 2))) = true := bne_iff_ne.mpr c9
           by_cases c10 : x6_2 = (a0.size : Int)
           ·rw [if_pos c10] at H
            have c10b0 : (x6_2 == (a0.size : Int)) = true := beq_iff_eq.mpr c10
            have c10b1 : (x6_2 != (a0.size : Int)) = false := bne_eq_false_iff_eq.mpr c10
            clear c10
            simp only [Option.some.injEq, Prod.mk.injEq] at H
            obtain ⟨rfl, rfl⟩ := H
            have p7 : 0 ≤ (x6_2 : Int) := of_decide_eq_true (by first | (with_reducible assumption) | assumption)
            have q7 : x6_2 < (a0.size : Int) := of_decide_eq_true (by first | (with_reducible assumption) | assumption)
            have hx7 := bt_at a0 x6_2
            replace p7 := eq_true p7
            replace q7 := eq_true q7
            go_wp2
            go_ret2
            exact ⟨_, by first | rfl | (simp [errW_none, errW_some] <;> rfl) | (simp [*, errW_none, errW_some] <;> rfl), by first | exact Kd.R_nil _ _ _ _ _ | exact Kd.N_nil _ _ _ _ _ | exact Kd.V_nil _ _ _ _ _ | exact Kd.Q_nil _ _ _ _ _ | exact Kd.S_nil _ _ _ _ _, by repeat (first | (with_reducible first | exact HB.out | apply below_alloc | apply pw_below_drewN | apply below_drew1) | exact HB.out)⟩
           ·rw [if_neg c10] at H
            have c10b0 : (x6_2 == (a0.size : Int)) = false := beq_eq_false_iff_ne.mpr c10
            have c10b1 : (x6_2 != (a0.size : Int)) = true := bne_iff_ne.mpr c10
            by_cases c12 : (bt a0 x6_2) = 125
            ·rw [if_pos c12] at H
             have c12b0 : ((bt a0 x6_2) == 125) = true := beq_iff_eq.mpr c12
             have c12b1 : ((bt a0 x6_2) != 125) = false := bne_eq_false_iff_eq.mpr c12
             clear c12
             obtain ⟨ji13, hji13⟩ : ∃ j_ : Int, (wrap64 (x5_1 + 2)) = j_ := ⟨_, rfl⟩
             replace H : (if 0 ≤ (ji13) then (if (ji13) ≤ x6_2 then (if x6_2 ≤ (a0.size : Int) then (if x4_1.length < 5864062014805 then (newelref10_Split.l0 k2 a0 (x4_1 ++ [(⟨true, a0.extract ((ji13) : Int).toNat (x6_2 : Int).toNat⟩ : S29)]) (wrap64 (x6_2 + 1))) else (none)) else (none)) else (none)) else (none)) = some (r1, r2) := by first | (rw [hji13] at H; exact H) | (simp only [hji13] at H ⊢; exact H)
             (try rw [hji13] at c9b0)
             (try rw [hji13] at c9b1)
             have hji13w : (IntKind.i64.wrap (x5_1 + 2)) = ji13 := (i64_w _).trans hji13
             by_cases c14 : 0 ≤ (ji13)
             ·rw [if_pos c14] at H
              have c14b0 := eq_true c14
              have c14b1 : decide (0 ≤ (ji13)) = true := decide_eq_true c14
              clear c14
              by_cases c15 : (ji13) ≤ x6_2
              ·rw [if_pos c15] at H
               have c15b0 := eq_true c15
               have c15b1 : decide ((ji13) ≤ x6_2) = true := decide_eq_true c15
               clear c15
               by_cases c16 : x6_2 ≤ (a0.size : Int)
               ·rw [if_pos c16] at H
                have c16b0 := eq_true c16
                have c16b1 : decide (x6_2 ≤ (a0.size : Int)) = true := decide_eq_true c16
                clear c16
                by_cases c17 : x4_1.length < 5864062014805
                ·rw [if_pos c17] at H
                 have LMc17 := Aside0.mk c17
                 clear c17
                 obtain ⟨y131, hy131⟩ : ∃ y_ : List (S29), y_ = (x4_1 ++ [(⟨true, a0.extract ((ji13) : Int).toNat (x6_2 : Int).toNat⟩ : S29)]) := ⟨_, rfl⟩
                 replace H : (newelref10_Split.l0 k2 a0 y131 (wrap64 (x6_2 + 1))) = some (r1, r2) := by first | (rw [hy131]; with_reducible exact H) | (have H2_ := (Option.bind_some _ _).symm.trans H; rw [hy131]; with_reducible exact H2_) | (have H2_ := (Option.bind_some _ _).symm.trans H; with_reducible exact H2_) | with_reducible exact H | (rw [hy131]; exact H) | exact H
                 have Ny131 := Aside0.mk hy131
                 clear hy131
                 have H' := Aside0.mk H
                 clear H
                 have p7 : 0 ≤ (x6_2 : Int) := of_decide_eq_true (by first | (with_reducible assumption) | assumption)
                 have q7 : x6_2 < (a0.size : Int) := of_decide_eq_true (by first | (with_reducible assumption) | assumption)
                 have hx7 := bt_at a0 x6_2
                 replace p7 := eq_true p7
                 replace q7 := eq_true q7
                 have p11 : 0 ≤ (x6_2 : Int) := of_decide_eq_true (by first | (with_reducible assumption) | assumption)
                 have q11 : x6_2 < (a0.size : Int) := of_decide_eq_true (by first | (with_reducible assumption) | assumption)
                 have hx11 := bt_at a0 x6_2
                 replace p11 := eq_true p11
                 replace q11 := eq_true q11
                 go_wp2_with (first | ((with_reducible refine gate_builtin (b := .append) (xs := #[.tmp 57, .tmp 64]) rfl ?_); (try (refine gate_guard (by rfl) ?_; dsimp only)); at_builtin; refine Kd.R_append k29 (w0 := w) w.heap.size rfl (.tmp 57) (.tmp 64) 22 29 (.agg #[(.bool false), (.string ⟨#[]⟩)]) 24 rfl Try.underlying22 info29 rfl (by decide) (by omega) u4 x4_1 (⟨true, a0.extract ((ji13) : Int).toNat (x6_2 : Int).toNat⟩ : S29) [.bool true, .string (a0.extract ((ji13) : Int).toNat (x6_2 : Int).toNat)] (fun _ => True) (fun _ => False) rfl rfl ?aP (fun _ hk => hk.elim) ?aF ?aO ?aB ?aS ?aL ?_; (case aP => exact k29_mkM _ _ _ (⟨true, a0.extract ((ji13) : Int).toNat (x6_2 : Int).toNat⟩ : S29)); (case aB => exact (by repeat (first | (with_reducible first | exact HB.out | apply below_alloc | apply pw_below_drewN | apply below_drew1) | exact HB.out))); (case aF => exact (fun _ _ => trivial)); (case aO => exact (by (with_reducible repeat (first | apply Kd.R_alloc | apply Kd.R_drewN | apply Kd.R_drew)); exact HO_4.out)); (case aS => exact (below_size (by repeat (first | (with_reducible first | exact HB.out | apply below_alloc | apply pw_below_drewN | apply below_drew1) | exact HB.out)))); (case aL => have := LMc17.out; omega); intro v132 w18 ho hb hg hat; rw [← Ny131.out] at ho; have n0_ := Aside0.mk (hb); have n1_ := Aside0.mk (ho); clear HB; clear HO_4; have HB := n0_; have HO133 := n1_; clear n0_ n1_; clear ho hb hg hat))
                 go_roundg k2
                 case measure => have := HK1.out; have := HK2.out; omega
                 case rel => exact ⟨(y131), (wrap64 (x6_2 + 1)), (by first | rfl | (simp; done) | (simp [*]; done) | (simp; exact isEmpty_bne _)), H', ⟨by have := HK1.out; have := HK2.out; omega⟩, ⟨by (with_reducible repeat (first | apply Kd.R_alloc | apply Kd.R_drewN | apply Kd.R_drew)); exact HO133.out⟩, ⟨by repeat (first | (with_reducible first | exact HB.out | apply below_alloc | apply pw_below_drewN | apply below_drew1) | exact HB.out)⟩⟩
                ·rw [if_neg c17] at H
                 exact absurd H (by simp)
               ·rw [if_neg c16] at H
                exact absurd H (by simp)
              ·rw [if_neg c15] at H
               exact absurd H (by simp)
             ·rw [if_neg c14] at H
              exact absurd H (by simp)
            ·rw [if_neg c12] at H
             have c12b0 : ((bt a0 x6_2) == 125) = false := beq_eq_false_iff_ne.mpr c12
             have c12b1 : ((bt a0 x6_2) != 125) = true := bne_iff_ne.mpr c12
             simp only [Option.some.injEq, Prod.mk.injEq] at H
             obtain ⟨rfl, rfl⟩ := H
             have p7 : 0 ≤ (x6_2 : Int) := of_decide_eq_true (by first | (with_reducible assumption) | assumption)
             have q7 : x6_2 < (a0.size : Int) := of_decide_eq_true (by first | (with_reducible assumption) | assumption)
             have hx7 := bt_at a0 x6_2
             replace p7 := eq_true p7
             replace q7 := eq_true q7
             have p11 : 0 ≤ (x6_2 : Int) := of_decide_eq_true (by first | (with_reducible assumption) | assumption)
             have q11 : x6_2 < (a0.size : Int) := of_decide_eq_true (by first | (with_reducible assumption) | assumption)
             have hx11 := bt_at a0 x6_2
             replace p11 := eq_true p11
             replace q11 := eq_true q11
             go_wp2
             go_ret2
             exact ⟨_, by first | rfl | (simp [errW_none, errW_some] <;> rfl) | (simp [*, errW_none, errW_some] <;> rfl), by first | exact Kd.R_nil _ _ _ _ _ | exact Kd.N_nil _ _ _ _ _ | exact Kd.V_nil _ _ _ _ _ | exact Kd.Q_nil _ _ _ _ _ | exact Kd.S_nil _ _ _ _ _, by repeat (first | (with_reducible first | exact HB.out | apply below_alloc | apply pw_below_drewN | apply below_drew1) | exact HB.out)⟩
         ·rw [if_neg c8] at H
          have c8b0 : ((bt a0 x6_2) == 36) = false := beq_eq_false_iff_ne.mpr c8
          have c8b1 : ((bt a0 x6_2) != 36) = true := bne_iff_ne.mpr c8
          by_cases c20 : (bt a0 x6_2) = 123
          ·rw [if_pos c20] at H
           have c20b0 : ((bt a0 x6_2) == 123) = true := beq_iff_eq.mpr c20
           have c20b1 : ((bt a0 x6_2) != 123) = false := bne_eq_false_iff_eq.mpr c20
           clear c20
           by_cases c21 : x6_2 = (wrap64 (x5_1 + 2))
           ·rw [if_pos c21] at H
            have c21b0 : (x6_2 == (wrap64 (x5_1 + 2))) = true := beq_iff_eq.mpr c21
            have c21b1 : (x6_2 != (wrap64 (x5_1 + 2))) = false := bne_eq_false_iff_eq.mpr c21
            clear c21
            simp only [Option.some.injEq, Prod.mk.injEq] at H
            obtain ⟨rfl, rfl⟩ := H
            have p7 : 0 ≤ (x6_2 : Int) := of_decide_eq_true (by first | (with_reducible assumption) | assumption)
            have q7 : x6_2 < (a0.size : Int) := of_decide_eq_true (by first | (with_reducible assumption) | assumption)
            have hx7 := bt_at a0 x6_2
            replace p7 := eq_true p7
            replace q7 := eq_true q7
            have p19 : 0 ≤ (x6_2 : Int) := of_decide_eq_true (by first | (with_reducible assumption) | assumption)
            have q19 : x6_2 < (a0.size : Int) := of_decide_eq_true (by first | (with_reducible assumption) | assumption)
            have hx19 := bt_at a0 x6_2
            replace p19 := eq_true p19
            replace q19 := eq_true q19
            go_wp2
            go_ret2
            exact ⟨_, by first | rfl | (simp [errW_none, errW_some] <;> rfl) | (simp [*, errW_none, errW_some] <;> rfl), by first | exact Kd.R_nil _ _ _ _ _ | exact Kd.N_nil _ _ _ _ _ | exact Kd.V_nil _ _ _ _ _ | exact Kd.Q_nil _ _ _ _ _ | exact Kd.S_nil _ _ _ _ _, by repeat (first | (with_reducible first | exact HB.out | apply below_alloc | apply pw_below_drewN | apply below_drew1) | exact HB.out)⟩
           ·rw [if_neg c21] at H
            have c21b0 : (x6_2 == (wrap64 (x5_1 + 2))) = false := beq_eq_false_iff_ne.mpr c21
            have c21b1 : (x6_2 != (wrap64 (x5_1 + 2))) = true := bne_iff_ne.mpr c21
            by_cases c22 : x6_2 = (a0.size : Int)
            ·rw [if_pos c22] at H
             have c22b0 : (x6_2 == (a0.size : Int)) = true := beq_iff_eq.mpr c22
             have c22b1 : (x6_2 != (a0.size : Int)) = false := bne_eq_false_iff_eq.mpr c22
             clear c22
             simp only [Option.some.injEq, Prod.mk.injEq] at H
             obtain ⟨rfl, rfl⟩ := H
             have p7 : 0 ≤ (x6_2 : Int) := of_decide_eq_true (by first | (with_reducible assumption) | assumption)
             have q7 : x6_2 < (a0.size : Int) := of_decide_eq_true (by first | (with_reducible assumption) | assumption)
             have hx7 := bt_at a0 x6_2
             replace p7 := eq_true p7
             replace q7 := eq_true q7
             have p19 : 0 ≤ (x6_2 : Int) := of_decide_eq_true (by first | (with_reducible assumption) | assumption)
             have q19 : x6_2 < (a0.size : Int) := of_decide_eq_true (by first | (with_reducible assumption) | assumption)
             have hx19 := bt_at a0 x6_2
             replace p19 := eq_true p19
             replace q19 := eq_true q19
             go_wp2
             go_ret2
             exact ⟨_, by first | rfl | (simp [errW_none, errW_some] <;> rfl) | (simp [*, errW_none, errW_some] <;> rfl), by first | exact Kd.R_nil _ _ _ _ _ | exact Kd.N_nil _ _ _ _ _ | exact Kd.V_nil _ _ _ _ _ | exact Kd.Q_nil _ _ _ _ _ | exact Kd.S_nil _ _ _ _ _, by repeat (first | (with_reducible first | exact HB.out | apply below_alloc | apply pw_below_drewN | apply below_drew1) | exact HB.out)⟩
            ·rw [if_neg c22] at H
             have c22b0 : (x6_2 == (a0.size : Int)) = false := beq_eq_false_iff_ne.mpr c22
             have c22b1 : (x6_2 != (a0.size : Int)) = true := bne_iff_ne.mpr c22
             by_cases c24 : (bt a0 x6_2) = 125
             ·rw [if_pos c24] at H
              have c24b0 : ((bt a0 x6_2) == 125) = true := beq_iff_eq.mpr c24
              have c24b1 : ((bt a0 x6_2) != 125) = false := bne_eq_false_iff_eq.mpr c24
              clear c24
              obtain ⟨ji25, hji25⟩ : ∃ j_ : Int, (wrap64 (x5_1 + 2)) = j_ := ⟨_, rfl⟩
              replace H : (if 0 ≤ (ji25) then (if (ji25) ≤ x6_2 then (if x6_2 ≤ (a0.size : Int) then (if x4_1.length < 5864062014805 then (newelref10_Split.l0 k2 a0 (x4_1 ++ [(⟨true, a0.extract ((ji25) : Int).toNat (x6_2 : Int).toNat⟩ : S29)]) (wrap64 (x6_2 + 1))) else (none)) else (none)) else (none)) else (none)) = some (r1, r2) := by first | (rw [hji25] at H; exact H) | (simp only [hji25] at H ⊢; exact H)
              (try rw [hji25] at c21b0)
              (try rw [hji25] at c21b1)
              have hji25w : (IntKind.i64.wrap (x5_1 + 2)) = ji25 := (i64_w _).trans hji25
              by_cases c26 : 0 ≤ (ji25)
              ·rw [if_pos c26] at H
               have c26b0 := eq_true c26
               have c26b1 : decide (0 ≤ (ji25)) = true := decide_eq_true c26
               clear c26
               by_cases c27 : (ji25) ≤ x6_2
               ·rw [if_pos c27] at H
                have c27b0 := eq_true c27
                have c27b1 : decide ((ji25) ≤ x6_2) = true := decide_eq_true c27
                clear c27
                by_cases c28 : x6_2 ≤ (a0.size : Int)
                ·rw [if_pos c28] at H
                 have c28b0 := eq_true c28
                 have c28b1 : decide (x6_2 ≤ (a0.size : Int)) = true := decide_eq_true c28
                 clear c28
                 by_cases c29 : x4_1.length < 5864062014805
                 ·rw [if_pos c29] at H
                  have LMc29 := Aside0.mk c29
                  clear c29
                  obtain ⟨y134, hy134⟩ : ∃ y_ : List (S29), y_ = (x4_1 ++ [(⟨true, a0.extract ((ji25) : Int).toNat (x6_2 : Int).toNat⟩ : S29)]) := ⟨_, rfl⟩
                  replace H : (newelref10_Split.l0 k2 a0 y134 (wrap64 (x6_2 + 1))) = some (r1, r2) := by first | (rw [hy134]; with_reducible exact H) | (have H2_ := (Option.bind_some _ _).symm.trans H; rw [hy134]; with_reducible exact H2_) | (have H2_ := (Option.bind_some _ _).symm.trans H; with_reducible exact H2_) | with_reducible exact H | (rw [hy134]; exact H) | exact H
                  have Ny134 := Aside0.mk hy134
                  clear hy134
                  have H' := Aside0.mk H
                  clear H
                  have p7 : 0 ≤ (x6_2 : Int) := of_decide_eq_true (by first | (with_reducible assumption) | assumption)
                  have q7 : x6_2 < (a0.size : Int) := of_decide_eq_true (by first | (with_reducible assumption) | assumption)
                  have hx7 := bt_at a0 x6_2
                  replace p7 := eq_true p7
                  replace q7 := eq_true q7
                  have p19 : 0 ≤ (x6_2 : Int) := of_decide_eq_true (by first | (with_reducible assumption) | assumption)
                  have q19 : x6_2 < (a0.size : Int) := of_decide_eq_true (by first | (with_reducible assumption) | assumption)
                  have hx19 := bt_at a0 x6_2
                  replace p19 := eq_true p19
                  replace q19 := eq_true q19
                  have p23 : 0 ≤ (x6_2 : Int) := of_decide_eq_true (by first | (with_reducible assumption) | assumption)
                  have q23 : x6_2 < (a0.size : Int) := of_decide_eq_true (by first | (with_reducible assumption) | assumption)
                  have hx23 := bt_at a0 x6_2
                  replace p23 := eq_true p23
                  replace q23 := eq_true q23
                  go_wp2_with (first | ((with_reducible refine gate_builtin (b := .append) (xs := #[.tmp 57, .tmp 64]) rfl ?_); (try (refine gate_guard (by rfl) ?_; dsimp only)); at_builtin; refine Kd.R_append k29 (w0 := w) w.heap.size rfl (.tmp 57) (.tmp 64) 22 29 (.agg #[(.bool false), (.string ⟨#[]⟩)]) 24 rfl Try.underlying22 info29 rfl (by decide) (by omega) u4 x4_1 (⟨true, a0.extract ((ji25) : Int).toNat (x6_2 : Int).toNat⟩ : S29) [.bool true, .string (a0.extract ((ji25) : Int).toNat (x6_2 : Int).toNat)] (fun _ => True) (fun _ => False) rfl rfl ?aP (fun _ hk => hk.elim) ?aF ?aO ?aB ?aS ?aL ?_; (case aP => exact k29_mkM _ _ _ (⟨true, a0.extract ((ji25) : Int).toNat (x6_2 : Int).toNat⟩ : S29)); (case aB => exact (by repeat (first | (with_reducible first | exact HB.out | apply below_alloc | apply pw_below_drewN | apply below_drew1) | exact HB.out))); (case aF => exact (fun _ _ => trivial)); (case aO => exact (by (with_reducible repeat (first | apply Kd.R_alloc | apply Kd.R_drewN | apply Kd.R_drew)); exact HO_4.out)); (case aS => exact (below_size (by repeat (first | (with_reducible first | exact HB.out | apply below_alloc | apply pw_below_drewN | apply below_drew1) | exact HB.out)))); (case aL => have := LMc29.out; omega); intro v135 w30 ho hb hg hat; rw [← Ny134.out] at ho; have n0_ := Aside0.mk (hb); have n1_ := Aside0.mk (ho); clear HB; clear HO_4; have HB := n0_; have HO136 := n1_; clear n0_ n1_; clear ho hb hg hat))
                  go_roundg k2
                  case measure => have := HK1.out; have := HK2.out; omega
                  case rel => exact ⟨(y134), (wrap64 (x6_2 + 1)), (by first | rfl | (simp; done) | (simp [*]; done) | (simp; exact isEmpty_bne _)), H', ⟨by have := HK1.out; have := HK2.out; omega⟩, ⟨by (with_reducible repeat (first | apply Kd.R_alloc | apply Kd.R_drewN | apply Kd.R_drew)); exact HO136.out⟩, ⟨by repeat (first | (with_reducible first | exact HB.out | apply below_alloc | apply pw_below_drewN | apply below_drew1) | exact HB.out)⟩⟩
                 ·rw [if_neg c29] at H
                  exact absurd H (by simp)
                ·rw [if_neg c28] at H
                 exact absurd H (by simp)
               ·rw [if_neg c27] at H
                exact absurd H (by simp)
              ·rw [if_neg c26] at H
               exact absurd H (by simp)
             ·rw [if_neg c24] at H
              have c24b0 : ((bt a0 x6_2) == 125) = false := beq_eq_false_iff_ne.mpr c24
              have c24b1 : ((bt a0 x6_2) != 125) = true := bne_iff_ne.mpr c24
              simp only [Option.some.injEq, Prod.mk.injEq] at H
              obtain ⟨rfl, rfl⟩ := H
              have p7 : 0 ≤ (x6_2 : Int) := of_decide_eq_true (by first | (with_reducible assumption) | assumption)
              have q7 : x6_2 < (a0.size : Int) := of_decide_eq_true (by first | (with_reducible assumption) | assumption)
              have hx7 := bt_at a0 x6_2
              replace p7 := eq_true p7
              replace q7 := eq_true q7
              have p19 : 0 ≤ (x6_2 : Int) := of_decide_eq_true (by first | (with_reducible assumption) | assumption)
              have q19 : x6_2 < (a0.size : Int) := of_decide_eq_true (by first | (with_reducible assumption) | assumption)
              have hx19 := bt_at a0 x6_2
              replace p19 := eq_true p19
              replace q19 := eq_true q19
              have p23 : 0 ≤ (x6_2 : Int) := of_decide_eq_true (by first | (with_reducible assumption) | assumption)
              have q23 : x6_2 < (a0.size : Int) := of_decide_eq_true (by first | (with_reducible assumption) | assumption)
              have hx23 := bt_at a0 x6_2
              replace p23 := eq_true p23
              replace q23 := eq_true q23
              go_wp2
              go_ret2
              exact ⟨_, by first | rfl | (simp [errW_none, errW_some] <;> rfl) | (simp [*, errW_none, errW_some] <;> rfl), by first | exact Kd.R_nil _ _ _ _ _ | exact Kd.N_nil _ _ _ _ _ | exact Kd.V_nil _ _ _ _ _ | exact Kd.Q_nil _ _ _ _ _ | exact Kd.S_nil _ _ _ _ _, by repeat (first | (with_reducible first | exact HB.out | apply below_alloc | apply pw_below_drewN | apply below_drew1) | exact HB.out)⟩
          ·rw [if_neg c20] at H
           have c20b0 : ((bt a0 x6_2) == 123) = false := beq_eq_false_iff_ne.mpr c20
           have c20b1 : ((bt a0 x6_2) != 123) = true := bne_iff_ne.mpr c20
           by_cases c32 : (bt a0 x6_2) = 125
           ·rw [if_pos c32] at H
            have c32b0 : ((bt a0 x6_2) == 125) = true := beq_iff_eq.mpr c32
            have c32b1 : ((bt a0 x6_2) != 125) = false := bne_eq_false_iff_eq.mpr c32
            clear c32
            by_cases c33 : x6_2 = (wrap64 (x5_1 + 2))
            ·rw [if_pos c33] at H
             have c33b0 : (x6_2 == (wrap64 (x5_1 + 2))) = true := beq_iff_eq.mpr c33
             have c33b1 : (x6_2 != (wrap64 (x5_1 + 2))) = false := bne_eq_false_iff_eq.mpr c33
             clear c33
             simp only [Option.some.injEq, Prod.mk.injEq] at H
             obtain ⟨rfl, rfl⟩ := H
             have p7 : 0 ≤ (x6_2 : Int) := of_decide_eq_true (by first | (with_reducible assumption) | assumption)
             have q7 : x6_2 < (a0.size : Int) := of_decide_eq_true (by first | (with_reducible assumption) | assumption)
             have hx7 := bt_at a0 x6_2
             replace p7 := eq_true p7
             replace q7 := eq_true q7
             have p19 : 0 ≤ (x6_2 : Int) := of_decide_eq_true (by first | (with_reducible assumption) | assumption)
             have q19 : x6_2 < (a0.size : Int) := of_decide_eq_true (by first | (with_reducible assumption) | assumption)
             have hx19 := bt_at a0 x6_2
             replace p19 := eq_true p19
             replace q19 := eq_true q19
             have p31 : 0 ≤ (x6_2 : Int) := of_decide_eq_true (by first | (with_reducible assumption) | assumption)
             have q31 : x6_2 < (a0.size : Int) := of_decide_eq_true (by first | (with_reducible assumption) | assumption)
             have hx31 := bt_at a0 x6_2
             replace p31 := eq_true p31
             replace q31 := eq_true q31
             go_wp2
             go_ret2
             exact ⟨_, by first | rfl | (simp [errW_none, errW_some] <;> rfl) | (simp [*, errW_none, errW_some] <;> rfl), by first | exact Kd.R_nil _ _ _ _ _ | exact Kd.N_nil _ _ _ _ _ | exact Kd.V_nil _ _ _ _ _ | exact Kd.Q_nil _ _ _ _ _ | exact Kd.S_nil _ _ _ _ _, by repeat (first | (with_reducible first | exact HB.out | apply below_alloc | apply pw_below_drewN | apply below_drew1) | exact HB.out)⟩
            ·rw [if_neg c33] at H
             have c33b0 : (x6_2 == (wrap64 (x5_1 + 2))) = false := beq_eq_false_iff_ne.mpr c33
             have c33b1 : (x6_2 != (wrap64 (x5_1 + 2))) = true := bne_iff_ne.mpr c33
             by_cases c34 : x6_2 = (a0.size : Int)
             ·rw [if_pos c34] at H
              have c34b0 : (x6_2 == (a0.size : Int)) = true := beq_iff_eq.mpr c34
              have c34b1 : (x6_2 != (a0.size : Int)) = false := bne_eq_false_iff_eq.mpr c34
              clear c34
              simp only [Option.some.injEq, Prod.mk.injEq] at H
              obtain ⟨rfl, rfl⟩ := H
              have p7 : 0 ≤ (x6_2 : Int) := of_decide_eq_true (by first | (with_reducible assumption) | assumption)
              have q7 : x6_2 < (a0.size : Int) := of_decide_eq_true (by first | (with_reducible assumption) | assumption)
              have hx7 := bt_at a0 x6_2
              replace p7 := eq_true p7
              replace q7 := eq_true q7
              have p19 : 0 ≤ (x6_2 : Int) := of_decide_eq_true (by first | (with_reducible assumption) | assumption)
              have q19 : x6_2 < (a0.size : Int) := of_decide_eq_true (by first | (with_reducible assumption) | assumption)
              have hx19 := bt_at a0 x6_2
              replace p19 := eq_true p19
              replace q19 := eq_true q19
              have p31 : 0 ≤ (x6_2 : Int) := of_decide_eq_true (by first | (with_reducible assumption) | assumption)
              have q31 : x6_2 < (a0.size : Int) := of_decide_eq_true (by first | (with_reducible assumption) | assumption)
              have hx31 := bt_at a0 x6_2
              replace p31 := eq_true p31
              replace q31 := eq_true q31
              go_wp2
              go_ret2
              exact ⟨_, by first | rfl | (simp [errW_none, errW_some] <;> rfl) | (simp [*, errW_none, errW_some] <;> rfl), by first | exact Kd.R_nil _ _ _ _ _ | exact Kd.N_nil _ _ _ _ _ | exact Kd.V_nil _ _ _ _ _ | exact Kd.Q_nil _ _ _ _ _ | exact Kd.S_nil _ _ _ _ _, by repeat (first | (with_reducible first | exact HB.out | apply below_alloc | apply pw_below_drewN | apply below_drew1) | exact HB.out)⟩
             ·rw [if_neg c34] at H
              have c34b0 : (x6_2 == (a0.size : Int)) = false := beq_eq_false_iff_ne.mpr c34
              have c34b1 : (x6_2 != (a0.size : Int)) = true := bne_iff_ne.mpr c34
              obtain ⟨ji36, hji36⟩ : ∃ j_ : Int, (wrap64 (x5_1 + 2)) = j_ := ⟨_, rfl⟩
              replace H : (if 0 ≤ (ji36) then (if (ji36) ≤ x6_2 then (if x6_2 ≤ (a0.size : Int) then (if x4_1.length < 5864062014805 then (newelref10_Split.l0 k2 a0 (x4_1 ++ [(⟨true, a0.extract ((ji36) : Int).toNat (x6_2 : Int).toNat⟩ : S29)]) (wrap64 (x6_2 + 1))) else (none)) else (none)) else (none)) else (none)) = some (r1, r2) := by first | (rw [hji36] at H; exact H) | (simp only [hji36] at H ⊢; exact H)
              (try rw [hji36] at c33b0)
              (try rw [hji36] at c33b1)
              have hji36w : (IntKind.i64.wrap (x5_1 + 2)) = ji36 := (i64_w _).trans hji36
              by_cases c37 : 0 ≤ (ji36)
              ·rw [if_pos c37] at H
               have c37b0 := eq_true c37
               have c37b1 : decide (0 ≤ (ji36)) = true := decide_eq_true c37
               clear c37
               by_cases c38 : (ji36) ≤ x6_2
               ·rw [if_pos c38] at H
                have c38b0 := eq_true c38
                have c38b1 : decide ((ji36) ≤ x6_2) = true := decide_eq_true c38
                clear c38
                by_cases c39 : x6_2 ≤ (a0.size : Int)
                ·rw [if_pos c39] at H
                 have c39b0 := eq_true c39
                 have c39b1 : decide (x6_2 ≤ (a0.size : Int)) = true := decide_eq_true c39
                 clear c39
                 by_cases c40 : x4_1.length < 5864062014805
                 ·rw [if_pos c40] at H
                  have LMc40 := Aside0.mk c40
                  clear c40
                  obtain ⟨y137, hy137⟩ : ∃ y_ : List (S29), y_ = (x4_1 ++ [(⟨true, a0.extract ((ji36) : Int).toNat (x6_2 : Int).toNat⟩ : S29)]) := ⟨_, rfl⟩
                  replace H : (newelref10_Split.l0 k2 a0 y137 (wrap64 (x6_2 + 1))) = some (r1, r2) := by first | (rw [hy137]; with_reducible exact H) | (have H2_ := (Option.bind_some _ _).symm.trans H; rw [hy137]; with_reducible exact H2_) | (have H2_ := (Option.bind_some _ _).symm.trans H; with_reducible exact H2_) | with_reducible exact H | (rw [hy137]; exact H) | exact H
                  have Ny137 := Aside0.mk hy137
                  clear hy137
                  have H' := Aside0.mk H
                  clear H
                  have p7 : 0 ≤ (x6_2 : Int) := of_decide_eq_true (by first | (with_reducible assumption) | assumption)
                  have q7 : x6_2 < (a0.size : Int) := of_decide_eq_true (by first | (with_reducible assumption) | assumption)
                  have hx7 := bt_at a0 x6_2
                  replace p7 := eq_true p7
                  replace q7 := eq_true q7
                  have p19 : 0 ≤ (x6_2 : Int) := of_decide_eq_true (by first | (with_reducible assumption) | assumption)
                  have q19 : x6_2 < (a0.size : Int) := of_decide_eq_true (by first | (with_reducible assumption) | assumption)
                  have hx19 := bt_at a0 x6_2
                  replace p19 := eq_true p19
                  replace q19 := eq_true q19
                  have p31 : 0 ≤ (x6_2 : Int) := of_decide_eq_true (by first | (with_reducible assumption) | assumption)
                  have q31 : x6_2 < (a0.size : Int) := of_decide_eq_true (by first | (with_reducible assumption) | assumption)
                  have hx31 := bt_at a0 x6_2
                  replace p31 := eq_true p31
                  replace q31 := eq_true q31
                  have p35 : 0 ≤ (x6_2 : Int) := of_decide_eq_true (by first | (with_reducible assumption) | assumption)
                  have q35 : x6_2 < (a0.size : Int) := of_decide_eq_true (by first | (with_reducible assumption) | assumption)
                  have hx35 := bt_at a0 x6_2
                  replace p35 := eq_true p35
                  replace q35 := eq_true q35
                  go_wp2_with (first | ((with_reducible refine gate_builtin (b := .append) (xs := #[.tmp 57, .tmp 64]) rfl ?_); (try (refine gate_guard (by rfl) ?_; dsimp only)); at_builtin; refine Kd.R_append k29 (w0 := w) w.heap.size rfl (.tmp 57) (.tmp 64) 22 29 (.agg #[(.bool false), (.string ⟨#[]⟩)]) 24 rfl Try.underlying22 info29 rfl (by decide) (by omega) u4 x4_1 (⟨true, a0.extract ((ji36) : Int).toNat (x6_2 : Int).toNat⟩ : S29) [.bool true, .string (a0.extract ((ji36) : Int).toNat (x6_2 : Int).toNat)] (fun _ => True) (fun _ => False) rfl rfl ?aP (fun _ hk => hk.elim) ?aF ?aO ?aB ?aS ?aL ?_; (case aP => exact k29_mkM _ _ _ (⟨true, a0.extract ((ji36) : Int).toNat (x6_2 : Int).toNat⟩ : S29)); (case aB => exact (by repeat (first | (with_reducible first | exact HB.out | apply below_alloc | apply pw_below_drewN | apply below_drew1) | exact HB.out))); (case aF => exact (fun _ _ => trivial)); (case aO => exact (by (with_reducible repeat (first | apply Kd.R_alloc | apply Kd.R_drewN | apply Kd.R_drew)); exact HO_4.out)); (case aS => exact (below_size (by repeat (first | (with_reducible first | exact HB.out | apply below_alloc | apply pw_below_drewN | apply below_drew1) | exact HB.out)))); (case aL => have := LMc40.out; omega); intro v138 w41 ho hb hg hat; rw [← Ny137.out] at ho; have n0_ := Aside0.mk (hb); have n1_ := Aside0.mk (ho); clear HB; clear HO_4; have HB := n0_; have HO139 := n1_; clear n0_ n1_; clear ho hb hg hat))
                  go_roundg k2
                  case measure => have := HK1.out; have := HK2.out; omega
                  case rel => exact ⟨(y137), (wrap64 (x6_2 + 1)), (by first | rfl | (simp; done) | (simp [*]; done) | (simp; exact isEmpty_bne _)), H', ⟨by have := HK1.out; have := HK2.out; omega⟩, ⟨by (with_reducible repeat (first | apply Kd.R_alloc | apply Kd.R_drewN | apply Kd.R_drew)); exact HO139.out⟩, ⟨by repeat (first | (with_reducible first | exact HB.out | apply below_alloc | apply pw_below_drewN | apply below_drew1) | exact HB.out)⟩⟩
                 ·rw [if_neg c40] at H
                  exact absurd H (by simp)
                ·rw [if_neg c39] at H
                 exact absurd H (by simp)
               ·rw [if_neg c38] at H
                exact absurd H (by simp)
              ·rw [if_neg c37] at H
               exact absurd H (by simp)
           ·rw [if_neg c32] at H
            have c32b0 : ((bt a0 x6_2) == 125) = false := beq_eq_false_iff_ne.mpr c32
            have c32b1 : ((bt a0 x6_2) != 125) = true := bne_iff_ne.mpr c32
            have H' := Aside0.mk H
            clear H
            have p7 : 0 ≤ (x6_2 : Int) := of_decide_eq_true (by first | (with_reducible assumption) | assumption)
            have q7 : x6_2 < (a0.size : Int) := of_decide_eq_true (by first | (with_reducible assumption) | assumption)
            have hx7 := bt_at a0 x6_2
            replace p7 := eq_true p7
            replace q7 := eq_true q7
            have p19 : 0 ≤ (x6_2 : Int) := of_decide_eq_true (by first | (with_reducible assumption) | assumption)
            have q19 : x6_2 < (a0.size : Int) := of_decide_eq_true (by first | (with_reducible assumption) | assumption)
            have hx19 := bt_at a0 x6_2
            replace p19 := eq_true p19
            replace q19 := eq_true q19
            have p31 : 0 ≤ (x6_2 : Int) := of_decide_eq_true (by first | (with_reducible assumption) | assumption)
            have q31 : x6_2 < (a0.size : Int) := of_decide_eq_true (by first | (with_reducible assumption) | assumption)
            have hx31 := bt_at a0 x6_2
            replace p31 := eq_true p31
            replace q31 := eq_true q31
            go_wp2
            go_roundg k2
            case measure => have := HK1.out; have := HK2.out; omega
            case rel => exact ⟨(wrap64 (x6_2 + 1)), (by first | rfl | (simp; done) | (simp [*]; done) | (simp; exact isEmpty_bne _)), H', ⟨by have := HK1.out; have := HK2.out; omega⟩, ⟨by (with_reducible repeat (first | apply Kd.R_alloc | apply Kd.R_drewN | apply Kd.R_drew)); exact HO_4.out⟩, ⟨by repeat (first | (with_reducible first | exact HB.out | apply below_alloc | apply pw_below_drewN | apply below_drew1) | exact HB.out)⟩⟩
        ·rw [if_neg c6] at H
         exact absurd H (by simp)
       ·rw [if_neg c5] at H
        have c5b0 : decide (x6_2 < (a0.size : Int)) = false := decide_eq_false c5
        clear c5
        by_cases c42 : x6_2 = (wrap64 (x5_1 + 2))
        ·rw [if_pos c42] at H
         have c42b0 : (x6_2 == (wrap64 (x5_1 + 2))) = true := beq_iff_eq.mpr c42
         have c42b1 : (x6_2 != (wrap64 (x5_1 + 2))) = false := bne_eq_false_iff_eq.mpr c42
         clear c42
         simp only [Option.some.injEq, Prod.mk.injEq] at H
         obtain ⟨rfl, rfl⟩ := H
         go_wp2
         go_ret2
         exact ⟨_, by first | rfl | (simp [errW_none, errW_some] <;> rfl) | (simp [*, errW_none, errW_some] <;> rfl), by first | exact Kd.R_nil _ _ _ _ _ | exact Kd.N_nil _ _ _ _ _ | exact Kd.V_nil _ _ _ _ _ | exact Kd.Q_nil _ _ _ _ _ | exact Kd.S_nil _ _ _ _ _, by repeat (first | (with_reducible first | exact HB.out | apply below_alloc | apply pw_below_drewN | apply below_drew1) | exact HB.out)⟩
        ·rw [if_neg c42] at H
         have c42b0 : (x6_2 == (wrap64 (x5_1 + 2))) = false := beq_eq_false_iff_ne.mpr c42
         have c42b1 : (x6_2 != (wrap64 (x5_1 + 2))) = true := bne_iff_ne.mpr c42
         by_cases c43 : x6_2 = (a0.size : Int)
         ·rw [if_pos c43] at H
          have c43b0 : (x6_2 == (a0.size : Int)) = true := beq_iff_eq.mpr c43
          have c43b1 : (x6_2 != (a0.size : Int)) = false := bne_eq_false_iff_eq.mpr c43
          clear c43
          simp only [Option.some.injEq, Prod.mk.injEq] at H
          obtain ⟨rfl, rfl⟩ := H
          go_wp2
          go_ret2
          exact ⟨_, by first | rfl | (simp [errW_none, errW_some] <;> rfl) | (simp [*, errW_none, errW_some] <;> rfl), by first | exact Kd.R_nil _ _ _ _ _ | exact Kd.N_nil _ _ _ _ _ | exact Kd.V_nil _ _ _ _ _ | exact Kd.Q_nil _ _ _ _ _ | exact Kd.S_nil _ _ _ _ _, by repeat (first | (with_reducible first | exact HB.out | apply below_alloc | apply pw_below_drewN | apply below_drew1) | exact HB.out)⟩
         ·rw [if_neg c43] at H
          have c43b0 : (x6_2 == (a0.size : Int)) = false := beq_eq_false_iff_ne.mpr c43
          have c43b1 : (x6_2 != (a0.size : Int)) = true := bne_iff_ne.mpr c43
          by_cases c44 : 0 ≤ x6_2
          ·rw [if_pos c44] at H
           exact absurd H (by simp)
          ·rw [if_neg c44] at H
           exact absurd H (by simp)
    ·replace c4 := Bool.eq_false_iff.mpr c4
     subst c4
     have H1 : (newelref10_Split.l2 k1 a0 x4_1 x5_1 x5_1) = some (r1, r2) := by rw [if_neg (show ¬ (false = true) by decide)] at H; exact H
     clear H
     have H := H1
     clear H1
     have H' := Aside0.mk H
     clear H
     go_wp2_with (first | ((with_reducible refine gate_callee (f := 39) rfl ?_); refine goesL_ (some 14) rfl rfl Try.func39 (by kernel_rfl) rfl #[.string a0, .int .i64 x5_1] rfl (by (try simp only [List.map_toArray, List.map_cons, List.map_nil]); first | done | rfl | (simp only [List.length_drop, List.length_take]; rfl)) ?_; (with_reducible refine (newelref10_begins.calls a0 x5_1 false _ ?side1 A3.out).mono ?_); (case side1 => exact Glob.step HG.out (by repeat (first | (with_reducible first | exact HB.out | apply below_alloc | apply pw_below_drewN | apply below_drew1) | exact HB.out))); rintro e w' ⟨rfl, ⟨nd, rfl⟩⟩; refine ⟨_, rfl, ?_⟩))
     (try simp only [Act.put, List.setIfInBounds_toArray, List.set_cons_zero, List.set_cons_succ])
     go_loopg [6] k1 (fun kq v6 w' => ∃ (x6_2 : Int), v6 = .int .i64 x6_2 ∧ Aside0 (newelref10_Split.l2 kq a0 x4_1 x5_1 x6_2 = some (r1, r2)) ∧ Aside0 (kq ≤ k1) ∧ Aside0 (Kd.R k29 29 w' w.heap.size (fun _ => True) u4 x4_1) ∧ Aside0 (Below w.heap.size w w'))
     case atStart => exact ⟨(x5_1), (by first | rfl | (simp; done) | (simp [*]; done) | (simp; exact isEmpty_bne _)), H', ⟨Nat.le_refl _⟩, ⟨by (with_reducible repeat (first | apply Kd.R_alloc | apply Kd.R_drewN | apply Kd.R_drew)); exact HO_4.out⟩, ⟨by repeat (first | (with_reducible first | exact HB.out | apply below_alloc | apply pw_below_drewN | apply below_drew1) | exact HB.out)⟩⟩
     case round =>
      clear H'
      try clear c1
      try clear p1
      try clear q1
      try clear hx1
      try clear c2
      try clear c2b0
      try clear p2
      try clear q2
      try clear hx2
      try clear c3
      try clear p3
      try clear q3
      try clear hx3
      try clear c4
      try clear c5
      try clear c5b0
      try clear c6
      try clear c6b0
      try clear p6
      try clear p7
      try clear q7
      try clear hx7
      try clear c8
      try clear c8b0
      try clear c8b1
      try clear c9
      try clear c9b0
      try clear c9b1
      try clear c10
      try clear c10b0
      try clear c10b1
      try clear p11
      try clear q11
      try clear hx11
      try clear c12
      try clear c12b0
      try clear c12b1
      try clear c14
      try clear c14b0
      try clear c14b1
      try clear c15
      try clear c15b0
      try clear c15b1
      try clear c16
      try clear c16b0
      try clear c16b1
      try clear c17
      try clear p19
      try clear q19
      try clear hx19
      try clear c20
      try clear c20b0
      try clear c20b1
      try clear c21
      try clear c21b0
      try clear c21b1
      try clear c22
      try clear c22b0
      try clear c22b1
      try clear p23
      try clear q23
      try clear hx23
      try clear c24
      try clear c24b0
      try clear c24b1
      try clear c26
      try clear c26b0
      try clear c26b1
      try clear c27
      try clear c27b0
      try clear c27b1
      try clear c28
      try clear c28b0
      try clear c28b1
      try clear c29
      try clear p31
      try clear q31
      try clear hx31
      try clear c32
      try clear c32b0
      try clear c32b1
      try clear c33
      try clear c33b0
      try clear c33b1
      try clear c34
      try clear c34b0
      try clear c34b1
      try clear p35
      try clear q35
      try clear hx35
      try clear c37
      try clear c37b0
      try clear c37b1
      try clear c38
      try clear c38b0
      try clear c38b1
      try clear c39
      try clear c39b0
      try clear c39b1
      try clear c40
      try clear c42
      try clear c42b0
      try clear c42b1
      try clear c43
      try clear c43b0
      try clear c43b1
      try clear c44
      try clear p11
      try clear p19
      try clear p2
      try clear p23
      try clear p31
      try clear p35
      try clear p7
      try clear q11
      try clear q19
      try clear q23
      try clear q31
      try clear q35
      try clear q7
      obtain ⟨x6_2, rfl, HA, HK2, HO_4, HB⟩ := hrel
      cases gk with
      | zero => exact absurd HA.out (by simp [newelref10_Split.l2])
      | succ k2 =>
       have H := HA.out
       clear HA
       simp only [newelref10_Split.l2] at H
       by_cases c45 : x6_2 < (a0.size : Int)
       ·rw [if_pos c45] at H
        have c45b0 : decide (x6_2 < (a0.size : Int)) = true := decide_eq_true c45
        clear c45
        replace H := Option.bind_eq_some_iff.mp H
        obtain ⟨t140, A460, H⟩ := H
        replace H : (if t140 = true then (if 0 ≤ x5_1 then (if x5_1 ≤ x6_2 then (if x6_2 ≤ (a0.size : Int) then (if x4_1.length < 5864062014805 then (newelref10_Split.l0 k2 a0 (x4_1 ++ [(⟨false, a0.extract (x5_1 : Int).toNat (x6_2 : Int).toNat⟩ : S29)]) x6_2) else (none)) else (none)) else (none)) else (none)) else (newelref10_Split.l2 k2 a0 x4_1 x5_1 (wrap64 (x6_2 + 1)))) = some (r1, r2) := H
        have A46 := Aside0.mk A460
        clear A460
        by_cases c47 : t140 = true
        ·subst c47
         have H1 : (if 0 ≤ x5_1 then (if x5_1 ≤ x6_2 then (if x6_2 ≤ (a0.size : Int) then (if x4_1.length < 5864062014805 then (newelref10_Split.l0 k2 a0 (x4_1 ++ [(⟨false, a0.extract (x5_1 : Int).toNat (x6_2 : Int).toNat⟩ : S29)]) x6_2) else (none)) else (none)) else (none)) else (none)) = some (r1, r2) := by rw [if_pos rfl] at H; exact H
         clear H
         have H := H1
         clear H1
         by_cases c48 : 0 ≤ x5_1
         ·rw [if_pos c48] at H
          have c48b0 := eq_true c48
          have c48b1 : decide (0 ≤ x5_1) = true := decide_eq_true c48
          clear c48
          by_cases c49 : x5_1 ≤ x6_2
          ·rw [if_pos c49] at H
           have c49b0 := eq_true c49
           have c49b1 : decide (x5_1 ≤ x6_2) = true := decide_eq_true c49
           clear c49
           by_cases c50 : x6_2 ≤ (a0.size : Int)
           ·rw [if_pos c50] at H
            have c50b0 := eq_true c50
            have c50b1 : decide (x6_2 ≤ (a0.size : Int)) = true := decide_eq_true c50
            clear c50
            by_cases c51 : x4_1.length < 5864062014805
            ·rw [if_pos c51] at H
             have LMc51 := Aside0.mk c51
             clear c51
             obtain ⟨y141, hy141⟩ : ∃ y_ : List (S29), y_ = (x4_1 ++ [(⟨false, a0.extract (x5_1 : Int).toNat (x6_2 : Int).toNat⟩ : S29)]) := ⟨_, rfl⟩
             replace H : (newelref10_Split.l0 k2 a0 y141 x6_2) = some (r1, r2) := by first | (rw [hy141]; with_reducible exact H) | (have H2_ := (Option.bind_some _ _).symm.trans H; rw [hy141]; with_reducible exact H2_) | (have H2_ := (Option.bind_some _ _).symm.trans H; with_reducible exact H2_) | with_reducible exact H | (rw [hy141]; exact H) | exact H
             have Ny141 := Aside0.mk hy141
             clear hy141
             have H' := Aside0.mk H
             clear H
             go_wp2_with (first | (go_at_call 39; (with_reducible refine (newelref10_begins.calls a0 x6_2 true _ ?side1 A46.out).mono ?_); (case side1 => exact Glob.step HG.out (by repeat (first | (with_reducible first | exact HB.out | apply below_alloc | apply pw_below_drewN | apply below_drew1) | exact HB.out))); rintro e w' ⟨rfl, ⟨nd, rfl⟩⟩) | ((with_reducible refine gate_builtin (b := .append) (xs := #[.tmp 80, .tmp 86]) rfl ?_); (try (refine gate_guard (by rfl) ?_; dsimp only)); at_builtin; refine Kd.R_append k29 (w0 := w) w.heap.size rfl (.tmp 80) (.tmp 86) 22 29 (.agg #[(.bool false), (.string ⟨#[]⟩)]) 24 rfl Try.underlying22 info29 rfl (by decide) (by omega) u4 x4_1 (⟨false, a0.extract (x5_1 : Int).toNat (x6_2 : Int).toNat⟩ : S29) [.bool false, .string (a0.extract (x5_1 : Int).toNat (x6_2 : Int).toNat)] (fun _ => True) (fun _ => False) rfl rfl ?aP (fun _ hk => hk.elim) ?aF ?aO ?aB ?aS ?aL ?_; (case aP => exact k29_mkM _ _ _ (⟨false, a0.extract (x5_1 : Int).toNat (x6_2 : Int).toNat⟩ : S29)); (case aB => exact (by repeat (first | (with_reducible first | exact HB.out | apply below_alloc | apply pw_below_drewN | apply below_drew1) | exact HB.out))); (case aF => exact (fun _ _ => trivial)); (case aO => exact (by (with_reducible repeat (first | apply Kd.R_alloc | apply Kd.R_drewN | apply Kd.R_drew)); exact HO_4.out)); (case aS => exact (below_size (by repeat (first | (with_reducible first | exact HB.out | apply below_alloc | apply pw_below_drewN | apply below_drew1) | exact HB.out)))); (case aL => have := LMc51.out; omega); intro v142 w52 ho hb hg hat; rw [← Ny141.out] at ho; have n0_ := Aside0.mk (hb); have n1_ := Aside0.mk (ho); clear HB; clear HO_4; have HB := n0_; have HO143 := n1_; clear n0_ n1_; clear ho hb hg hat))
             go_roundg k2
             case measure => have := HK1.out; have := HK2.out; omega
             case rel => exact ⟨(y141), (x6_2), (by first | rfl | (simp; done) | (simp [*]; done) | (simp; exact isEmpty_bne _)), H', ⟨by have := HK1.out; have := HK2.out; omega⟩, ⟨by (with_reducible repeat (first | apply Kd.R_alloc | apply Kd.R_drewN | apply Kd.R_drew)); exact HO143.out⟩, ⟨by repeat (first | (with_reducible first | exact HB.out | apply below_alloc | apply pw_below_drewN | apply below_drew1) | exact HB.out)⟩⟩
            ·rw [if_neg c51] at H
             exact absurd H (by simp)
           ·rw [if_neg c50] at H
            exact absurd H (by simp)
          ·rw [if_neg c49] at H
           exact absurd H (by simp)
         ·rw [if_neg c48] at H
          exact absurd H (by simp)
        ·replace c47 := Bool.eq_false_iff.mpr c47
         subst c47
         have H1 : (newelref10_Split.l2 k2 a0 x4_1 x5_1 (wrap64 (x6_2 + 1))) = some (r1, r2) := by rw [if_neg (show ¬ (false = true) by decide)] at H; exact H
         clear H
         have H := H1
         clear H1
         have H' := Aside0.mk H
         clear H
         go_wp2_with (first | (go_at_call 39; (with_reducible refine (newelref10_begins.calls a0 x6_2 false _ ?side1 A46.out).mono ?_); (case side1 => exact Glob.step HG.out (by repeat (first | (with_reducible first | exact HB.out | apply below_alloc | apply pw_below_drewN | apply below_drew1) | exact HB.out))); rintro e w' ⟨rfl, ⟨nd, rfl⟩⟩))
         go_roundg k2
         case measure => have := HK1.out; have := HK2.out; omega
         case rel => exact ⟨(wrap64 (x6_2 + 1)), (by first | rfl | (simp; done) | (simp [*]; done) | (simp; exact isEmpty_bne _)), H', ⟨by have := HK1.out; have := HK2.out; omega⟩, ⟨by (with_reducible repeat (first | apply Kd.R_alloc | apply Kd.R_drewN | apply Kd.R_drew)); exact HO_4.out⟩, ⟨by repeat (first | (with_reducible first | exact HB.out | apply below_alloc | apply pw_below_drewN | apply below_drew1) | exact HB.out)⟩⟩
       ·rw [if_neg c45] at H
        have c45b0 : decide (x6_2 < (a0.size : Int)) = false := decide_eq_false c45
        clear c45
        by_cases c53 : 0 ≤ x5_1
        ·rw [if_pos c53] at H
         have c53b0 := eq_true c53
         have c53b1 : decide (0 ≤ x5_1) = true := decide_eq_true c53
         clear c53
         by_cases c54 : x5_1 ≤ x6_2
         ·rw [if_pos c54] at H
          have c54b0 := eq_true c54
          have c54b1 : decide (x5_1 ≤ x6_2) = true := decide_eq_true c54
          clear c54
          by_cases c55 : x6_2 ≤ (a0.size : Int)
          ·rw [if_pos c55] at H
           have c55b0 := eq_true c55
           have c55b1 : decide (x6_2 ≤ (a0.size : Int)) = true := decide_eq_true c55
           clear c55
           by_cases c56 : x4_1.length < 5864062014805
           ·rw [if_pos c56] at H
            have LMc56 := Aside0.mk c56
            clear c56
            obtain ⟨y144, hy144⟩ : ∃ y_ : List (S29), y_ = (x4_1 ++ [(⟨false, a0.extract (x5_1 : Int).toNat (x6_2 : Int).toNat⟩ : S29)]) := ⟨_, rfl⟩
            replace H : (newelref10_Split.l0 k2 a0 y144 x6_2) = some (r1, r2) := by first | (rw [hy144]; with_reducible exact H) | (have H2_ := (Option.bind_some _ _).symm.trans H; rw [hy144]; with_reducible exact H2_) | (have H2_ := (Option.bind_some _ _).symm.trans H; with_reducible exact H2_) | with_reducible exact H | (rw [hy144]; exact H) | exact H
            have Ny144 := Aside0.mk hy144
            clear hy144
            have H' := Aside0.mk H
            clear H
            go_wp2_with (first | ((with_reducible refine gate_builtin (b := .append) (xs := #[.tmp 80, .tmp 86]) rfl ?_); (try (refine gate_guard (by rfl) ?_; dsimp only)); at_builtin; refine Kd.R_append k29 (w0 := w) w.heap.size rfl (.tmp 80) (.tmp 86) 22 29 (.agg #[(.bool false), (.string ⟨#[]⟩)]) 24 rfl Try.underlying22 info29 rfl (by decide) (by omega) u4 x4_1 (⟨false, a0.extract (x5_1 : Int).toNat (x6_2 : Int).toNat⟩ : S29) [.bool false, .string (a0.extract (x5_1 : Int).toNat (x6_2 : Int).toNat)] (fun _ => True) (fun _ => False) rfl rfl ?aP (fun _ hk => hk.elim) ?aF ?aO ?aB ?aS ?aL ?_; (case aP => exact k29_mkM _ _ _ (⟨false, a0.extract (x5_1 : Int).toNat (x6_2 : Int).toNat⟩ : S29)); (case aB => exact (by repeat (first | (with_reducible first | exact HB.out | apply below_alloc | apply pw_below_drewN | apply below_drew1) | exact HB.out))); (case aF => exact (fun _ _ => trivial)); (case aO => exact (by (with_reducible repeat (first | apply Kd.R_alloc | apply Kd.R_drewN | apply Kd.R_drew)); exact HO_4.out)); (case aS => exact (below_size (by repeat (first | (with_reducible first | exact HB.out | apply below_alloc | apply pw_below_drewN | apply below_drew1) | exact HB.out)))); (case aL => have := LMc56.out; omega); intro v145 w57 ho hb hg hat; rw [← Ny144.out] at ho; have n0_ := Aside0.mk (hb); have n1_ := Aside0.mk (ho); clear HB; clear HO_4; have HB := n0_; have HO146 := n1_; clear n0_ n1_; clear ho hb hg hat))
            go_roundg k2
            case measure => have := HK1.out; have := HK2.out; omega
            case rel => exact ⟨(y144), (x6_2), (by first | rfl | (simp; done) | (simp [*]; done) | (simp; exact isEmpty_bne _)), H', ⟨by have := HK1.out; have := HK2.out; omega⟩, ⟨by (with_reducible repeat (first | apply Kd.R_alloc | apply Kd.R_drewN | apply Kd.R_drew)); exact HO146.out⟩, ⟨by repeat (first | (with_reducible first | exact HB.out | apply below_alloc | apply pw_below_drewN | apply below_drew1) | exact HB.out)⟩⟩
           ·rw [if_neg c56] at H
            exact absurd H (by simp)
          ·rw [if_neg c55] at H
           exact absurd H (by simp)
         ·rw [if_neg c54] at H
          exact absurd H (by simp)
        ·rw [if_neg c53] at H
         exact absurd H (by simp)
   ·rw [if_neg c2] at H
    have c2b0 : decide (x5_1 < (a0.size : Int)) = false := decide_eq_false c2
    clear c2
    simp only [Option.some.injEq, Prod.mk.injEq] at H
    obtain ⟨rfl, rfl⟩ := H
    go_wp2
    go_ret2
    exact ⟨_, by first | rfl | (simp [errW_none, errW_some] <;> rfl) | (simp [*, errW_none, errW_some] <;> rfl), by (with_reducible repeat (first | apply Kd.R_alloc | apply Kd.R_drewN | apply Kd.R_drew)); exact HO_4.out, by repeat (first | (with_reducible first | exact HB.out | apply below_alloc | apply pw_below_drewN | apply below_drew1) | exact HB.out)⟩

end Go.Proofs.Ytmpdpfojiepdkaa.Q

-- Printed by this session's wip/np.py over the kit's print program. Not trusted: Lean checks it.
namespace Go.Proofs.Ytmpdpfojiepdkaa.Q
open Go.RowKit Go.Proofs.YtmpdpfojiepdkaaW.PrintWords Go.Proofs.YtmpdpfojiepdkaaW.PrintLast Go.Proofs.YtmpdpfojiepdkaaW.Own Go.Proofs.YtmpdpfojiepdkaaW.PrintMore
attribute [local go_sem] max2_int min2_int max_two min_two max_three min_three max_four min_four
set_option linter.unusedVariables false
set_option linter.unusedSimpArgs false

/-! ### api_Piece_16: function 16 -/
def api_Piece_16.enc (p : S29) : List Value := [Value.bool p.f0, Value.string p.f1]
def api_Piece_16.three (x : List Value) : List Value := x ++ x ++ x
/-- What is known of a copy: its block, whole. -/
def api_Piece_16.Blk (w : World) (v : Value) (l : List S29) (x : List Value) : Prop := l.length ≤ 100000 ∧ ∃ g, v = .slice (some ⟨g, 0, none⟩) l.length (l.length + 3) ∧ w.heap[g]? = some (.cells (l.flatMap api_Piece_16.enc ++ (x ++ x ++ x)).toArray 29 (0, 0))
theorem api_Piece_16.Blk.below {w w' : World} {v : Value} {l : List S29} {x : List Value} (h : api_Piece_16.Blk w v l x) (hb : Below w.heap.size w w') : api_Piece_16.Blk w' v l x := by
 obtain ⟨hl, g, e, hg⟩ := h
 exact ⟨hl, g, e, blk_below hg hb⟩
theorem api_Piece_16.enc_len (l : List S29) : (l.flatMap api_Piece_16.enc).length = l.length * 2 := by
 induction l with
 | nil => rfl
 | cons p l ih => rw [List.flatMap_cons, List.length_append, ih, List.length_cons]; show 2 + _ = _; omega
theorem api_Piece_16.enc_get (l : List S29) (j i : Nat) (hi : i < 2) : (l.flatMap api_Piece_16.enc)[j * 2 + i]? = (l[j]?).bind fun p => (api_Piece_16.enc p)[i]? := by
 induction l generalizing j with
 | nil => simp
 | cons p l ih =>
  rw [List.flatMap_cons]
  cases j with
  | zero => rw [List.getElem?_append_left (by show _ < 2; omega)]; simp
  | succ j => rw [List.getElem?_append_right (by show 2 ≤ _; omega)]; have := ih j; simpa [show (j + 1) * 2 + i - (api_Piece_16.enc p).length = j * 2 + i from by show (j + 1) * 2 + i - 2 = _; omega] using this
theorem api_Piece_16.reps (w : World) (base : Nat) (ok : Nat → Prop) (l : List S29) : Reps (k29.M w base ok) 2 l (l.flatMap api_Piece_16.enc) := by
 refine ⟨api_Piece_16.enc_len l, fun j p hp => ?_⟩
 have e : ((l.flatMap api_Piece_16.enc).drop (j * 2)).take 2 = api_Piece_16.enc p := by
  apply List.ext_getElem?
  intro i
  rw [List.getElem?_take]
  split
  ·rename_i hi
   rw [List.getElem?_drop, api_Piece_16.enc_get l j i hi, hp]; rfl
  ·rename_i hi
   rw [List.getElem?_eq_none (show (api_Piece_16.enc p).length ≤ i by show 2 ≤ i; omega)]
 rw [e]
 exact k29_mkM w base ok p
/-- The elements' cells, read. -/
theorem api_Piece_16.cells {w : World} {A : Option Addr} {l : List S29} (h : k29.C w A l.length l) : ∀ ad, A = some ad → ∀ (j : Nat) u, (l.flatMap api_Piece_16.enc)[j]? = some u → w.cell? (ad.add j) = some u := by
 intro ad hA j u hu
 rw [show j = j / 2 * 2 + j % 2 from by omega, api_Piece_16.enc_get l _ _ (by omega), Option.bind_eq_some_iff] at hu
 obtain ⟨p, hp, hu⟩ := hu
 have hj : j / 2 < l.length := (List.getElem?_eq_some_iff.1 hp).1
 obtain ⟨ad', e, hc⟩ := h.2.2 (by omega)
 rw [hA] at e
 obtain rfl := Option.some.inj e
 obtain ⟨c, hs, hr, hcell⟩ := hc (j / 2) p hp
 obtain rfl := k29_open hr
 have := hcell (j % 2) u hu
 rwa [show j / 2 * k29.sz + j % 2 = j from by show j / 2 * 2 + j % 2 = j; omega] at this
/-- wpList_append_fits_any where a nil slice may bear any capacity. -/
theorem api_Piece_16.fits {P : Program} (w : World) {ops : Array Oper} {rest : List Oper} {o : Oper} {a : Act} {Q : Exit → Act → World → Prop}
 (hg : o.guard = none) (s x : Operand) (t : TypeId) (hop : o.op = Op.call { callee := Callee.builtin Builtin.append, args := #[s, x], argTypes := #[t, t] })
 (base : Nat) (e : TypeId) (i : TypeInfo) (size : Nat) (h1 : P.underlying t = some (.slice e)) (h2 : P.info? e = some i) (h4 : i.size = size)
 (g k cap : Nat) (xs : List Value) (hs : a.eval s = .slice (some ⟨g, 0, none⟩) k cap) (hown : w.ownsRow base e size (.slice (some ⟨g, 0, none⟩) k cap) k xs) (ao : Option Addr) (m c : Nat) (news : List Value) (hx : a.eval x = .slice ao m c) (hn : news.length = m * size)
 (hnone : ao = none → m = 0) (hc : ∀ ad, ao = some ad → ∀ j u, news[j]? = some u → w.cell? (ad.add j) = some u) (h1c : ∀ u ∈ news, u.oneCell' = true) (b1 : k + m ≤ cap)
 (hK : ∀ w', w'.ownsRow base e size (.slice (some ⟨g, 0, none⟩) (k + m) cap) (k + m) (xs ++ news) → w.grownBy w' (some g) → wpList P ops Q rest (a.put o.dst (.slice (some ⟨g, 0, none⟩) (k + m) cap)) w') :
 wpList P ops Q (o :: rest) a w := by
 cases ao with
 | some ad => exact wpList_append_fits w hg s x t hop base e i size h1 h2 h4 g k cap xs hs hown ad m c news hx hn (hc ad rfl) h1c b1 hK
 | none =>
  obtain rfl := hnone rfl
  have hnews : news = [] := List.eq_nil_of_length_eq_zero (by simpa using hn)
  subst hnews
  refine wpList_plain hg fun K hK' => ?_
  have hle : k ≤ cap := b1
  have hrun : (Builtin.append_ #[t, t] o.type #[.slice (some ⟨g, 0, none⟩) k cap, .slice none 0 c]).run P w = .ok (.slice (some ⟨g, 0, none⟩) k cap) w := by
   simp [Builtin.append_, run_underlying h1, sizeOf, typeInfo, h2, Builtin.lenOf, Builtin.firstCells, hle, storeCells]
  unfold Oper.wp
  simp [execOp, hop, resolve, invoke, builtin, hs, hx, hrun, Result.andThen]
  exact hK' _ _ (by simpa using hK w (by simpa using hown) (World.grownBy.refl _ _))
theorem api_Piece_16.put1 (cs : Array Value) (i : Nat) (v : Value) (h : i < cs.size) (n : Nat) (e : n = i + 1) : (cs.setIfInBounds i v).toList.take n = cs.toList.take i ++ [v] := by
 subst e
 rw [Array.toList_setIfInBounds, List.take_set, List.take_add_one, List.getElem?_eq_getElem (by simpa using h), List.set_append]
 rw [List.length_take, Nat.min_eq_left (by simpa using Nat.le_of_lt h), if_neg (by omega), Nat.sub_self]
 rfl
theorem api_Piece_16.put2 (cs : Array Value) (i : Nat) (u v : Value) (h : i + 1 < cs.size) (n : Nat) (e : n = i + 2) : ((cs.setIfInBounds i u).setIfInBounds (i + 1) v).toList.take n = cs.toList.take i ++ [u, v] := by
 rw [api_Piece_16.put1 _ (i + 1) v (by simpa using h) n (by omega), api_Piece_16.put1 cs i u (by omega) (i + 1) rfl, List.append_assoc]
 rfl
theorem api_Piece_16.rep_succ (j : Nat) (x : List Value) : (List.replicate (j + 1) x).flatten = (List.replicate j x).flatten ++ x := by
 rw [List.replicate_succ', List.flatten_append]; simp
def api_Piece_16.f (l0 : List S29) (a1_0 : Bool) (a1_1 : ByteArray) : Option (List S29) := if l0.length ≤ 100000 then some l0 else none
theorem api_Piece_16.info : (Try.prog.info? 29).map (fun i => (i.zero, i.size, i.bytes)) = some (some (.agg #[(.bool false), (.string ⟨#[]⟩)]), 2, 24) := by kernel_rfl
set_option maxHeartbeats 8000000 in
set_option maxRecDepth 100000 in
theorem api_Piece_16.callsB (A0 : Option Addr) (c0 : Nat) (l0 : List S29) (a1_0 : Bool) (a1_1 : ByteArray) (w : World) (hr0 : k29.C w A0 l0.length l0) (hc0 : l0.length ≤ c0) (hG : Glob w) (hl : l0.length ≤ 100000) :
 Calls Try.prog 16 #[.slice A0 l0.length c0, .agg #[Value.bool a1_0, Value.string a1_1]] w fun e w' => ∃ g, e = .returned (.slice (some ⟨g, 0, none⟩) l0.length (l0.length + 3)) ∧ w.heap.size ≤ g ∧ w'.heap[g]? = some (.cells (l0.flatMap api_Piece_16.enc ++ ([Value.bool a1_0, Value.string a1_1] ++ [Value.bool a1_0, Value.string a1_1] ++ [Value.bool a1_0, Value.string a1_1])).toArray 29 (0, 0)) ∧ Below w.heap.size w w' := by
 obtain ⟨i9, hi, hz0, hz1, hz2⟩ := info_parts api_Piece_16.info
 have hu9 := Try.underlying29
 have hnone : A0 = none → l0.length = 0 := fun e => by
  rcases Nat.eq_zero_or_pos l0.length with h | h
  ·exact h
  ·obtain ⟨ad, q, _⟩ := hr0.2.2 h
   rw [e] at q; cases q
 have hcells := api_Piece_16.cells hr0
 clear hr0
 have e3 : wrap64 ((l0.length : Int) + 3) = ((l0.length + 3 : Nat) : Int) := by unfold wrap64; omega
 have e3' : IntKind.i64.wrap ((l0.length : Int) + 3) = ((l0.length + 3 : Nat) : Int) := by rw [i64_w]; exact e3
 go_enter Try.func16, Try.ntmps16
 have HX := Aside0.mk (heap_alloc_new w (.cells #[Value.bool a1_0, Value.string a1_1] 29))
 have HBX := Aside0.mk ((Below.refl w.heap.size w).alloc (Nat.le_refl _) (.cells #[Value.bool a1_0, Value.string a1_1] 29))
 have hsz0 : w.heap.size ≤ (w.alloc (.cells #[Value.bool a1_0, Value.string a1_1] 29)).heap.size := HBX.out.size
 have hsz1 : (w.alloc (.cells #[Value.bool a1_0, Value.string a1_1] 29)).heap.size = w.heap.size + 1 := by show Array.size (Array.push _ _) = _; exact Array.size_push _
 have hlt : w.heap.size < (w.alloc (.cells #[Value.bool a1_0, Value.string a1_1] 29)).heap.size := blk_lt HX.out
 go_wp2_with (first | (at_make; go_loud (refine wpList_make_own _ rfl _ _ 22 rfl w.heap.size 29 i9 (.agg #[(.bool false), (.string ⟨#[]⟩)]) 2 Try.underlying22 hi hz0 hz1 _ _ _ (l0.length + 3) rfl rfl (by first | exact (Int.natCast_add _ _).symm | exact e3 | exact e3' | omega) (by rw [hz2]; omega) (by unfold maxLen; omega) hsz0 ?_; intro w1 hown1 hgrow1; rw [hsz1] at hown1)) | (at_builtin; go_loud (refine api_Piece_16.fits _ rfl _ _ 22 rfl w.heap.size 29 i9 2 Try.underlying22 hi hz1 _ 0 (l0.length + 3) [] rfl hown1 A0 l0.length c0 (l0.flatMap api_Piece_16.enc) rfl (api_Piece_16.enc_len l0) hnone (fun ad had j u hu => pw_cell_below (Below.grown HBX.out hgrow1 hsz0 (fun k hk => by cases hk)) (hcells ad had j u hu)) (fun u hu => by obtain ⟨x, _, hx⟩ := List.mem_flatMap.1 hu; simp only [api_Piece_16.enc, List.mem_cons, List.not_mem_nil, or_false] at hx; rcases hx with rfl | rfl <;> rfl) (by omega) ?_; intro w2 hown2 hgrow2)))
 have hB1 : Below w.heap.size w w1 := Below.grown HBX.out hgrow1 hsz0 (fun k hk => by cases hk)
 have hB2 : Below w.heap.size w w2 := Below.grown hB1 hgrow2 hB1.size (fun k hk => by injection hk with hk; omega)
 have hX1 := (hgrow1.block _ hlt (by simp)).trans HX.out
 have hX2 := (hgrow2.block _ (blk_lt hX1) (by first | (simp; done) | (simp; omega))).trans hX1
 obtain ⟨_, hq⟩ := hown2
 rcases hq with ⟨hv, _⟩ | ⟨g, cap, cur, hv, hbase, hh, hle, hmx, hsz, htk⟩
 ·cases hv
 injection hv with hv1 hv2 hv3
 injection hv1 with hv1
 injection hv1 with hv1
 subst hv3
 have hgw : w.heap.size < g := by omega
 rw [hv1] at *
 have HS0 := Aside0.mk (show cur.size = (l0.length + 3) * 2 ∧ cur.toList.take ((l0.length + 0) * 2) = l0.flatMap api_Piece_16.enc ++ (List.replicate 0 [Value.bool a1_0, Value.string a1_1]).flatten from ⟨by rw [hsz], by rw [Nat.zero_add] at htk; rw [Nat.add_zero, htk]; simp⟩)
 have BK0 := Aside0.mk hh
 have HB0 := Aside0.mk hB2
 have HX0 := Aside0.mk hX2
 have HGE := Aside0.mk hgw
 have HL := Aside0.mk hl
 clear hown1 hgrow1 hgrow2 hB1 hB2 hv2 hle hmx hsz htk hh hbase hcells hnone hl e3 e3' w1 hi hz0 hz1 hz2 hX1 hX2 HX HBX hsz0 hlt hgw hG hc0
 go_loopg [7] 3 (fun kq v7 w' => ∃ (x : Int) (j : Nat) (cur : Array Value), v7 = .int .i64 x ∧ Aside0 (x = l0.length + j ∧ kq + j = 3) ∧ Aside0 (cur.size = (l0.length + 3) * 2 ∧ cur.toList.take ((l0.length + j) * 2) = l0.flatMap api_Piece_16.enc ++ (List.replicate j [Value.bool a1_0, Value.string a1_1]).flatten) ∧ Aside0 (w'.heap[g]? = some (.cells cur 29 (0, 0))) ∧ Aside0 (w'.heap[w.heap.size]? = some (.cells #[Value.bool a1_0, Value.string a1_1] 29 (0, 0))) ∧ Aside0 (Below w.heap.size w w'))
 case atStart => exact ⟨l0.length, 0, cur, by first | rfl | (simp; done), ⟨by constructor <;> omega⟩, HS0, BK0, HX0, HB0⟩
 case round =>
  clear HS0 BK0 HB0 HX0
  clear cur
  obtain ⟨x, j, cur, rfl, HX, HS, BK, HY, HB⟩ := hrel
  obtain ⟨hx, hj⟩ := HX.out
  have hl := HL.out
  by_cases hlt : j < 3
  ·have d1 : decide (x < (l0.length : Int) + 3) = true := decide_eq_true (by omega)
   have d2 : decide (x < ((l0.length + 3 : Nat) : Int)) = true := decide_eq_true (by omega)
   have p1 := eq_true (show 0 ≤ x by omega)
   have p2 := eq_true (show x < (l0.length : Int) + 3 by omega)
   have p3 := eq_true (show x < ((l0.length + 3 : Nat) : Int) by omega)
   have hxn : x.toNat = l0.length + j := by omega
   have hcs : x.toNat * 2 + 1 < cur.size := by rw [HS.out.1]; omega
   obtain ⟨z, hz⟩ : ∃ z, cur[x.toNat * 2]? = some z := ⟨_, Array.getElem?_eq_getElem (by omega)⟩
   obtain ⟨z1, hz1⟩ : ∃ z, cur[x.toNat * 2 + 1]? = some z := ⟨_, Array.getElem?_eq_getElem hcs⟩
   have c0 := (blk_cell BK.out (x.toNat * 2)).trans hz
   have c1 := (blk_cell BK.out (x.toNat * 2 + 1)).trans hz1
   have f0 := blk_frozen BK.out (x.toNat * 2)
   have f1 := blk_frozen BK.out (x.toNat * 2 + 1)
   have y0 := (blk_cell HY.out 0).trans rfl
   have y1 := (blk_cell HY.out 1).trans rfl
   have HJ := Aside0.mk (show gk - 1 < gk ∧ wrap64 (x + 1) = l0.length + ((j + 1 : Nat) : Int) ∧ gk - 1 + (j + 1) = 3 from ⟨by omega, by unfold wrap64; omega, by omega⟩)
   have HT := Aside0.mk (show ((cur.setIfInBounds (x.toNat * 2) (Value.bool a1_0)).setIfInBounds (x.toNat * 2 + 1) (Value.string a1_1)).size = (l0.length + 3) * 2 ∧ ((cur.setIfInBounds (x.toNat * 2) (Value.bool a1_0)).setIfInBounds (x.toNat * 2 + 1) (Value.string a1_1)).toList.take ((l0.length + (j + 1)) * 2) = l0.flatMap api_Piece_16.enc ++ (List.replicate (j + 1) [Value.bool a1_0, Value.string a1_1]).flatten from by
    refine ⟨by rw [Array.size_setIfInBounds, Array.size_setIfInBounds]; exact HS.out.1, ?_⟩
    rw [api_Piece_16.put2 cur (x.toNat * 2) _ _ hcs ((l0.length + (j + 1)) * 2) (by omega), hxn, HS.out.2, api_Piece_16.rep_succ, List.append_assoc])
   have HGB := Aside0.mk (show w.heap.size ≠ g by have := HGE.out; omega)
   clear hx hj hl hlt hxn hcs hz hz1
   go_wp2
   go_roundg (gk - 1)
   case measure => exact HJ.out.1
   case rel => exact ⟨wrap64 (x + 1), j + 1, _, by first | rfl | (simp; done), ⟨HJ.out.2⟩, HT, ⟨blk_set (blk_set BK.out _ _) _ _⟩, ⟨by rw [Below.heap_setCell _ _ _ _ HGB.out, Below.heap_setCell _ _ _ _ HGB.out]; exact HY.out⟩, ⟨below_set (below_set HB.out (Nat.le_of_lt HGE.out)) (Nat.le_of_lt HGE.out)⟩⟩
  ·have d1 : decide (x < (l0.length : Int) + 3) = false := decide_eq_false (by omega)
   have d2 : decide (x < ((l0.length + 3 : Nat) : Int)) = false := decide_eq_false (by omega)
   have j3 : j = 3 := by omega
   subst j3
   have hcur : cur = (l0.flatMap api_Piece_16.enc ++ ([Value.bool a1_0, Value.string a1_1] ++ [Value.bool a1_0, Value.string a1_1] ++ [Value.bool a1_0, Value.string a1_1])).toArray := by
    have h := HS.out.2
    rw [List.take_of_length_le (by rw [Array.length_toList, HS.out.1]; omega)] at h
    exact Array.toList_inj.1 h
   rw [hcur] at BK
   clear hx hj hl hcur HS
   go_wp2
   go_ret
   exact ⟨g, rfl, Nat.le_of_lt HGE.out, BK.out, HB.out⟩
theorem api_Piece_16.calls (A0 : Option Addr) (c0 : Nat) (l0 : List S29) (a1_0 : Bool) (a1_1 : ByteArray) (r : List S29) (w : World) (hr0 : k29.C w A0 l0.length l0) (hc0 : l0.length ≤ c0) (hG : Glob w) (h : api_Piece_16.f l0 a1_0 a1_1 = some r) :
 Calls Try.prog 16 #[.slice A0 l0.length c0, .agg #[Value.bool a1_0, Value.string a1_1]] w fun e w' => ∃ v0_ : Value, e = .returned v0_ ∧ (k29.R 29 w' w.heap.size (fun _ => True) v0_ r ∧ api_Piece_16.Blk w' v0_ l0 [Value.bool a1_0, Value.string a1_1]) ∧ Below w.heap.size w w' := by
 unfold api_Piece_16.f at h
 split at h
 ·rename_i hl
  obtain rfl := Option.some.inj h
  refine (api_Piece_16.callsB A0 c0 l0 a1_0 a1_1 w hr0 hc0 hG hl).mono ?_
  rintro e w' ⟨g, rfl, hg, hb, hB⟩
  refine ⟨_, rfl, ⟨?_, hl, g, rfl, hb⟩, hB⟩
  refine ⟨fun _ _ => trivial, l0.flatMap api_Piece_16.enc, ⟨api_Piece_16.enc_len l0, .inr ⟨g, l0.length + 3, _, rfl, hg, hb, by omega, by unfold maxLen; omega, ?_, ?_⟩⟩, api_Piece_16.reps _ _ _ l0⟩
  ·have e := api_Piece_16.enc_len l0
   simp only [List.size_toArray, List.length_append, e, List.length_cons, List.length_nil]
   show _ = (l0.length + 3) * 2
   omega
  ·show ((l0.flatMap api_Piece_16.enc ++ _).toArray).toList.take (l0.length * 2) = _
   rw [List.toList_toArray, ← api_Piece_16.enc_len l0, List.take_left]
 ·cases h



end Go.Proofs.Ytmpdpfojiepdkaa.Q

namespace Go.Proofs.Ytmpdpfojiepdkaa.Q
open Go.RowKit Go.Proofs.YtmpdpfojiepdkaaW.PrintWords Go.Proofs.YtmpdpfojiepdkaaW.PrintLast Go.Proofs.YtmpdpfojiepdkaaW.Own Go.Proofs.YtmpdpfojiepdkaaW.PrintMore
set_option linter.unusedVariables false
set_option linter.unusedSimpArgs false
namespace Bld
open Go Go.RowKit
theorem sizeB : (Try.prog.info? 68).map (fun i => i.size) = some 2 := by kernel_rfl
theorem liesB : liesAt Try.prog Try.prog.depth 68 (2 / Try.prog.cellsOf 68) 0 68 1 = true := by kernel_rfl
theorem infoByte : (Try.prog.info? 5).map (fun i => (i.zero, i.size, i.bytes)) = some (some (.int .u8 0), 1, 1) := by kernel_rfl
set_option maxHeartbeats 1000000 in
set_option maxRecDepth 100000 in
theorem copyCheck_used (b : Nat) (w : World) (h0 : w.cell? ⟨b, 0, none⟩ = some (.pointer (some ⟨b, 0, none⟩))) :
    Calls Try.prog 58 #[.pointer (some ⟨b, 0, none⟩)] w fun e w' => e = .returned (.tuple #[]) ∧ w' = w := by
  obtain ⟨j, hj, _⟩ := Option.map_eq_some_iff.1 sizeB
  go_enter Try.func58, Try.ntmps58
  go_wp2
  rw [Lib.run_neq_ptr_same w _ Try.underlying65 hj]
  go_wp2
  go_end0
  exact ⟨rfl, rfl⟩
set_option maxHeartbeats 1000000 in
set_option maxRecDepth 100000 in
theorem copyCheck_fresh (b : Nat) (w : World) (h0 : w.cell? ⟨b, 0, none⟩ = some (.pointer none)) (hsh : w.shape? b = some (68, 2)) (hfz : w.frozen? ⟨b, 0, none⟩ = false) :
    Calls Try.prog 58 #[.pointer (some ⟨b, 0, none⟩)] w fun e w' => e = .returned (.tuple #[]) ∧ w' = w.setCell ⟨b, 0, none⟩ (.pointer (some ⟨b, 0, none⟩)) := by
  obtain ⟨j, hj, hjs⟩ := Option.map_eq_some_iff.1 sizeB
  go_enter Try.func58, Try.ntmps58
  go_wp2
  rw [Lib.run_to_unsafe w ⟨b, 0, none⟩ Try.underlying65 Try.underlying115 hj (by rw [hjs]; decide) hsh (Nat.zero_lt_succ 1)]
  simp only [Result.andThen]
  rw [Oper.upon_value]
  go_wp2
  rw [run_callFunc_extern Try.func70 (by kernel_rfl) (by kernel_rfl) (by kernel_rfl) (e := Extern.AbiNoEscape.same) (by kernel_rfl)]
  rw [Lib.run_noEscape]
  simp only [Result.andThen]
  rw [Oper.upon_value]
  go_wp2
  rw [Lib.run_from_unsafe w ⟨b, 0, none⟩ Try.underlying115 Try.underlying65 hj hsh liesB]
  simp only [Result.andThen]
  rw [Oper.upon_value]
  go_wp2
  go_end0
  exact ⟨rfl, rfl⟩
theorem copyCheck (B b : Nat) (bs : List Value) (w : World) (h : Lib.IsBuilder 68 5 B b bs w) :
    Calls Try.prog 58 #[.pointer (some ⟨b, 0, none⟩)] w fun e w' => e = .returned (.tuple #[]) ∧ (Lib.BuilderAt 68 5 B b (.pointer (some ⟨b, 0, none⟩)) bs w' ∧ Below B w w') := by
  rcases h with h | h
  · refine (copyCheck_fresh b w h.cell0 h.shape h.frozen0).mono ?_
    rintro e w' ⟨rfl, rfl⟩
    exact ⟨rfl, h.used _, (Below.refl B w).setCell (p := ⟨b, 0, none⟩) h.1 _⟩
  · refine (copyCheck_used b w h.cell0).mono ?_
    rintro e w' ⟨rfl, rfl⟩
    exact ⟨rfl, h, Below.refl B _⟩
set_option maxHeartbeats 2000000 in
set_option maxRecDepth 100000 in
theorem WriteString (B b : Nat) (bs : List Value) (s : ByteArray) (w : World) (h : Lib.IsBuilder 68 5 B b bs w) (hlen : bs.length + s.size ≤ 140737488355328) (hBw : B ≤ w.heap.size) :
    Calls Try.prog 42 #[.pointer (some ⟨b, 0, none⟩), .string s] w fun e w' => e = .returned (.tuple #[.int .i64 s.size, .nilIface]) ∧ (Lib.BuilderAt 68 5 B b (.pointer (some ⟨b, 0, none⟩)) (bs ++ Lib.strCells s) w' ∧ Below B w w') := by
  obtain ⟨i0, hi, hz0, hz1, hz2⟩ := info_parts infoByte
  go_enter Try.func42, Try.ntmps42
  go_wp2_with (go_at_call 58; refine (copyCheck B b bs _ h).mono ?_)
  rintro e w1 ⟨rfl, h1, hb1⟩
  obtain ⟨hB, v, hbk, hown, hne⟩ := h1
  have c0 : w1.cell? ⟨b, 0, none⟩ = some (.pointer (some ⟨b, 0, none⟩)) := by rw [Lib.cell_of_heap hbk]; rfl
  have c1 : w1.cell? ⟨b, 1, none⟩ = some v := by rw [Lib.cell_of_heap hbk]; rfl
  go_wp2_with (at_builtin; refine Lib.wpList_append_own_string _ rfl _ _ 66 9 rfl B 5 i0 Try.underlying66 Try.underlying9 hi hz0 hz1 hz2 _ _ _ rfl hown s rfl ?c3 ?c4 ?c5 ?_)
  case c3 => unfold maxLen; omega
  case c4 => omega
  case c5 => have := hb1.size; omega
  intro v' w2 hown' hgrow _
  have hlt : b < w1.heap.size := by
    rcases Nat.lt_or_ge b w1.heap.size with h' | h'
    · exact h'
    · simp [Array.getElem?_eq_none h'] at hbk
  have hb2 : w2.heap[b]? = some (.cells #[.pointer (some ⟨b, 0, none⟩), v] 68 (0, 0)) := by
    rw [hgrow.block b hlt (fun e => hne e.symm)]
    exact hbk
  have d0 : w2.cell? ⟨b, 0, none⟩ = some (.pointer (some ⟨b, 0, none⟩)) := by rw [Lib.cell_of_heap hb2]; rfl
  have d1 : w2.cell? ⟨b, 1, none⟩ = some v := by rw [Lib.cell_of_heap hb2]; rfl
  have f1 : w2.frozen? ⟨b, 1, none⟩ = false := Lib.frozen_of_heap hb2 1
  obtain ⟨ao, n', cap, rfl⟩ : ∃ ao n' cap, v' = .slice ao n' cap := by
    rcases hown'.2 with ⟨hv, _⟩ | ⟨g, cap, cur, hv, _⟩
    · exact ⟨_, _, _, hv⟩
    · exact ⟨_, _, _, hv⟩
  go_wp2
  go_ret2
  refine ⟨rfl, ?_, ?_⟩
  · exact Lib.BuilderAt.put (T := 68) (e := 5) hB hb2 (bs' := bs ++ Lib.strCells s) (by simpa [Lib.strCells_length] using hown') (by decide)
  · exact (hb1.grown hgrow (by have := hb1.size; omega) (fun k hk => (hown.lt k hk).1)).setCell (p := ⟨b, 1, none⟩) hB _
/-- A builder under a name of its own: block b of the call's own holds the text s. -/
def Holds (B b : Nat) (s : ByteArray) (w : World) : Prop := Lib.IsBuilder 68 5 B b (Lib.byteCells s.data.toList) w ∧ B ≤ w.heap.size
theorem byteCells_app (a b : ByteArray) : Lib.byteCells a.data.toList ++ Lib.strCells b = Lib.byteCells (a ++ b).data.toList := by
  simp [Lib.byteCells, Lib.strCells]
theorem at_below {B b : Nat} {p : Value} {bs : List Value} {w w1 : World} (h : Lib.BuilderAt 68 5 B b p bs w) (hb : Below w.heap.size w w1) : Lib.BuilderAt 68 5 B b p bs w1 := by
  have hlt := h.lt
  obtain ⟨hB, v, hk, ho, hne⟩ := h
  exact ⟨hB, v, by rw [hb.block b hlt]; exact hk, own_move ho (fun k hk => hb.block k (own_lt ho k hk)), hne⟩
/-- What is made behind it leaves it as it was. -/
theorem Holds.below {B b : Nat} {s : ByteArray} {w w1 : World} (h : Holds B b s w) (hb : Below w.heap.size w w1) : Holds B b s w1 :=
  ⟨h.1.imp (fun h => at_below h hb) (fun h => at_below h hb), Nat.le_trans h.2 hb.size⟩
theorem Holds.write {B b : Nat} {s t : ByteArray} {w : World} (h : Holds B b s w) (hlen : s.size + t.size ≤ 140737488355328) :
    Calls Try.prog 42 #[.pointer (some ⟨b, 0, none⟩), .string t] w fun e w' => e = .returned (.tuple #[.int .i64 t.size, .nilIface]) ∧ Holds B b (s ++ t) w' ∧ Below B w w' := by
  refine (WriteString B b _ t w h.1 (by rw [Lib.byteCells_length, Array.length_toList]; exact hlen) h.2).mono ?_
  rintro e w' ⟨he, h1, hb⟩
  refine ⟨he, ⟨?_, Nat.le_trans h.2 hb.size⟩, hb⟩
  rw [← byteCells_app]
  exact .inr h1
theorem Holds.string {B b : Nat} {s : ByteArray} {w : World} (h : Holds B b s w) :
    Calls Try.prog 43 #[.pointer (some ⟨b, 0, none⟩)] w fun e w' => e = .returned (.string s) ∧ Below B w w' :=
  (Try.Builder_String_any B b s.data.toList w h.1 h.2).mono fun e w' hh => ⟨by rw [hh.1], hh.2⟩
theorem Holds.fresh (w : World) : Holds w.heap.size w.heap.size ⟨#[]⟩ (w.alloc (.cells #[.pointer none, .slice none 0 0] 68)) :=
  ⟨.inl ⟨Nat.le_refl _, .slice none 0 0, by show (w.heap.push _)[w.heap.size]? = _; simp, ⟨by simp [Lib.byteCells], .inl ⟨rfl, rfl⟩⟩, by simp [Value.ownBlock]⟩, by simp⟩
end Bld

end Go.Proofs.Ytmpdpfojiepdkaa.Q

-- Printed by this session's wip/np.py over the kit's print program. Not trusted: Lean checks it.
namespace Go.Proofs.Ytmpdpfojiepdkaa.Q
open Go.RowKit Go.Proofs.YtmpdpfojiepdkaaW.PrintWords Go.Proofs.YtmpdpfojiepdkaaW.PrintLast Go.Proofs.YtmpdpfojiepdkaaW.Own Go.Proofs.YtmpdpfojiepdkaaW.PrintMore
attribute [local go_sem] max2_int min2_int max_two min_two max_three min_three max_four min_four
set_option linter.unusedVariables false
set_option linter.unusedSimpArgs false

/-! ### expr_Join: function 18 -/
namespace ExprJoin
def piece (p : S29) : ByteArray := if p.f0 = true then (⟨#[36, 123]⟩ : ByteArray) ++ p.f1 ++ (⟨#[125]⟩ : ByteArray) else p.f1
def joined (l : List S29) : ByteArray := l.foldl (fun s p => s ++ piece p) ⟨#[]⟩
def room (l : List S29) : Nat := (l.map fun p => p.f1.size + 3).sum
theorem room_app (a b : List S29) : room (a ++ b) = room a + room b := by simp [room]
theorem room_cons (p : S29) (l : List S29) : room (p :: l) = p.f1.size + 3 + room l := by simp [room]
theorem room_len (l : List S29) : l.length ≤ room l := by
 induction l with
 | nil => exact Nat.zero_le _
 | cons p l ih =>
  rw [room_cons, List.length_cons]
  omega
theorem joined_snoc (l : List S29) (p : S29) : joined (l ++ [p]) = joined l ++ piece p := by simp [joined]
theorem piece_size (p : S29) : (piece p).size ≤ p.f1.size + 3 := by
 unfold piece
 split
 ·simp only [ByteArray.size_append]
  have e1 : (⟨#[36, 123]⟩ : ByteArray).size = 2 := rfl
  have e2 : (⟨#[125]⟩ : ByteArray).size = 1 := rfl
  omega
 ·omega
theorem joined_size (l : List S29) : (joined l).size ≤ room l := by
 rw [← List.reverse_reverse l]
 generalize l.reverse = m
 induction m with
 | nil => exact Nat.zero_le _
 | cons p m ih =>
  rw [List.reverse_cons, joined_snoc, ByteArray.size_append]
  have := piece_size p
  have e : room (m.reverse ++ [p]) = room m.reverse + (p.f1.size + 3) := by simp [room]
  omega
theorem room_take (l : List S29) (i : Nat) (h : i < l.length) : room (l.take i) + ((l[i]'h).f1.size + 3) ≤ room l := by
 have e : l = l.take i ++ l[i] :: l.drop (i + 1) := by rw [List.getElem_cons_drop, List.take_append_drop]
 have e2 : room l = room (l.take i) + ((l[i]'h).f1.size + 3 + room (l.drop (i + 1))) := by
  conv => lhs; rw [e]
  rw [room_app, room_cons]
 omega
theorem rd_take (l : List S29) (i : Nat) (h : i < l.length) : rd_T29 l (i : Int) = l[i]'h := by
 simp [rd_T29, List.getD, h]
end ExprJoin
def expr_Join.f (l0 : List S29) : Option ByteArray := if ExprJoin.room l0 ≤ 140737488355328 then some (ExprJoin.joined l0) else none
set_option maxHeartbeats 8000000 in
set_option maxRecDepth 100000 in
theorem expr_Join.calls (A0 : Option Addr) (c0 : Nat) (l0 : List S29) (r : ByteArray) (w : World) (hr0 : Kd.C k29 w A0 l0.length l0) (hc0 : l0.length ≤ c0) (hG : Glob w) (h : expr_Join.f l0 = some r) :
 Calls Try.prog 18 #[.slice A0 l0.length c0] w fun e w' => e = .returned (.string r) ∧ Below w.heap.size w w' := by
 unfold expr_Join.f at h
 split at h
 ·rename_i hroom
  obtain rfl := Option.some.inj h
  have HR0 := Aside0.mk hr0
  have HRM := Aside0.mk hroom
  clear hr0 hroom h hG
  have hu := Try.underlying68
  have hup := Try.underlying29
  go_enter Try.func18, Try.ntmps18
  go_wp2_with (fail)
  have HF := Aside0.mk (Bld.Holds.fresh w)
  have HB0 := Aside0.mk ((Below.refl w.heap.size w).alloc (Nat.le_refl _) (.cells #[.pointer none, .slice none 0 0] 68))
  generalize w.alloc _ = wi at *
  go_loopg [8] l0.length (fun g v8 w' => ∃ i : Nat, i + g = l0.length ∧ v8 = .int .i64 i ∧ Aside0 (Bld.Holds w.heap.size w.heap.size (ExprJoin.joined (l0.take i)) w') ∧ Aside0 (Below w.heap.size w w'))
  case atStart => exact ⟨0, by omega, rfl, ⟨by rw [List.take_zero]; exact HF.out⟩, HB0⟩
  case round =>
   clear HF HB0
   obtain ⟨i, hig, rfl, HH, HB⟩ := hrel
   by_cases hi : i < l0.length
   ·obtain ⟨g, rfl⟩ : ∃ g, gk = g + 1 := ⟨gk - 1, by omega⟩
    obtain ⟨ad, e, hx0, hx1⟩ := at_T29 (Kd.C_below HR0.out HB.out) (i : Int) (by omega) (by omega)
    cases e
    obtain ⟨p, hp⟩ : ∃ p, rd_T29 l0 (i : Int) = p := ⟨_, rfl⟩
    rw [hp] at hx0 hx1
    simp only [Int.toNat_natCast] at hx0 hx1
    have HP := Aside0.mk hp
    clear hp
    have d1 : decide ((i : Int) < (l0.length : Int)) = true := decide_eq_true (by omega)
    have d2 : (0 : Int) ≤ (i : Int) := by omega
    have hpi : p = l0[i]'hi := by rw [← HP.out]; exact ExprJoin.rd_take l0 i hi
    have hsz := ExprJoin.room_take l0 i hi
    rw [← hpi] at hsz
    have hj := ExprJoin.joined_size (l0.take i)
    have hrm := HRM.out
    have htk : ExprJoin.joined (l0.take (i + 1)) = ExprJoin.joined (l0.take i) ++ ExprJoin.piece p := by
     rw [List.take_succ_eq_append_getElem hi, ExprJoin.joined_snoc, hpi]
    have hps := ExprJoin.piece_size p
    have HT := Aside0.mk htk
    have hp1 : p.f1.size ≤ 140737488355328 := by omega
    have hib : (i : Int) ≤ 140737488355328 := by have := ExprJoin.room_len l0; omega
    have hq1 : (ExprJoin.joined (l0.take i)).size + (ExprJoin.piece p).size ≤ 140737488355328 := by omega
    have HQ := Aside0.mk hq1
    clear hpi hsz hj hrm htk hps hq1
    rcases hf : p.f0 with _ | _
    ·have hpc : ExprJoin.piece p = p.f1 := by simp [ExprJoin.piece, hf]
     have HPC := Aside0.mk hpc
     clear hpc
     go_wp2_with (fail)
     have hb1 : Below wr.heap.size wr (wr.alloc (.cells #[.bool false, .string p.f1] 29)) := (Below.refl _ _).alloc (Nat.le_refl _) _
     refine ((HH.out.below hb1).write (by rw [← HPC.out]; exact HQ.out)).mono ?_
     rintro e w3 ⟨rfl, hh3, hb3⟩
     have HH3 := Aside0.mk hh3
     have HB3 := Aside0.mk (below_step HB.out hb1 |>.trans hb3)
     clear hh3 hb3 hb1
     go_wp2
     go_roundg g
     case measure => omega
     case rel => exact ⟨i + 1, by omega, by go_num, ⟨by rw [HT.out, HPC.out]; exact HH3.out⟩, HB3⟩
    ·have hpc : ExprJoin.piece p = (⟨#[36, 123]⟩ : ByteArray) ++ p.f1 ++ (⟨#[125]⟩ : ByteArray) := by simp [ExprJoin.piece, hf]
     have HPC := Aside0.mk hpc
     clear hpc
     go_wp2_with (fail)
     have hb1 : Below wr.heap.size wr (wr.alloc (.cells #[.bool true, .string p.f1] 29)) := (Below.refl _ _).alloc (Nat.le_refl _) _
     refine ((HH.out.below hb1).write (by rw [← HPC.out]; exact HQ.out)).mono ?_
     rintro e w3 ⟨rfl, hh3, hb3⟩
     have HH3 := Aside0.mk hh3
     have HB3 := Aside0.mk (below_step HB.out hb1 |>.trans hb3)
     clear hh3 hb3 hb1
     go_wp2
     go_roundg g
     case measure => omega
     case rel => exact ⟨i + 1, by omega, by go_num, ⟨by rw [HT.out, HPC.out]; exact HH3.out⟩, HB3⟩
   ·obtain rfl : i = l0.length := by omega
    go_wp2_with (fail)
    refine HH.out.string.mono ?_
    rintro e w3 ⟨rfl, hb3⟩
    go_wp2
    go_ret
    exact ⟨by first | rfl | simp, HB.out.trans (hb3.mono (Nat.le_refl _))⟩
 ·exact absurd h (by simp)


end Go.Proofs.Ytmpdpfojiepdkaa.Q

-- Printed by this session's wip/np.py over the kit's print program. Not trusted: Lean checks it.
namespace Go.Proofs.Ytmpdpfojiepdkaa.Q
open Go.RowKit Go.Proofs.YtmpdpfojiepdkaaW.PrintWords Go.Proofs.YtmpdpfojiepdkaaW.PrintLast Go.Proofs.YtmpdpfojiepdkaaW.Own Go.Proofs.YtmpdpfojiepdkaaW.PrintMore
attribute [local go_sem] max2_int min2_int max_two min_two max_three min_three max_four min_four
set_option linter.unusedVariables false
set_option linter.unusedSimpArgs false

/-! ### newelref10_Join: function 19 -/
def newelref10_Join.l0 : Nat → List (S29) → ByteArray → Int → Option (ByteArray)
 | 0, _, _, _ => none
 | k + 1, x0, x3, x4 => if x4 < (x0.length : Int) then (if 0 ≤ x4 then (if (rd_T29 x0 x4).f0 = true then (if x3.size + 1 ≤ 9223372036854775807 then (if (x3 ++ (⟨#[36]⟩ : ByteArray)).size + 1 ≤ 9223372036854775807 then (if ((x3 ++ (⟨#[36]⟩ : ByteArray)) ++ (⟨#[123]⟩ : ByteArray)).size + ((rd_T29 x0 x4).f1).size ≤ 9223372036854775807 then (if (((x3 ++ (⟨#[36]⟩ : ByteArray)) ++ (⟨#[123]⟩ : ByteArray)) ++ ((rd_T29 x0 x4).f1)).size + 1 ≤ 9223372036854775807 then (newelref10_Join.l0 k x0 ((((x3 ++ (⟨#[36]⟩ : ByteArray)) ++ (⟨#[123]⟩ : ByteArray)) ++ ((rd_T29 x0 x4).f1)) ++ (⟨#[125]⟩ : ByteArray)) (wrap64 (x4 + 1))) else (none)) else (none)) else (none)) else (none)) else (if x3.size + ((rd_T29 x0 x4).f1).size ≤ 9223372036854775807 then (newelref10_Join.l0 k x0 (x3 ++ ((rd_T29 x0 x4).f1)) (wrap64 (x4 + 1))) else (none))) else (none)) else (some x3)
def newelref10_Join.f (k : Nat) (l0 : List (S29)) : Option (ByteArray) := newelref10_Join.l0 k l0 (⟨#[]⟩ : ByteArray) 0
theorem newelref10_Join.mono_l : ∀ k, (∀ y0 y1 y2, LeO (newelref10_Join.l0 k y0 y1 y2) (newelref10_Join.l0 (k + 1) y0 y1 y2))
 | 0 => fun _ _ _ r h => by simp [newelref10_Join.l0] at h
 | k + 1 => by
  have ih0 := newelref10_Join.mono_l k
  ·intro y0 y1 y2
   unfold newelref10_Join.l0
   repeat' first
   | (with_reducible exact ih0 _ _ _)
   | (with_reducible exact LeO.refl _)
   | (with_reducible exact LeO.none _)
   | (with_reducible refine LeO.ite ?_ ?_)
   | (with_reducible refine LeO.bind ?_ (fun _ => ?_))
   | exact ih0 _ _ _
   | exact LeO.none _
   | refine LeO.ite ?_ ?_
   | refine LeO.bind ?_ (fun _ => ?_)
theorem newelref10_Join.mono : ∀ a0 k, LeO (newelref10_Join.f k a0) (newelref10_Join.f (k + 1) a0) := by
 intro a0 k
 have ih0 := newelref10_Join.mono_l k
 unfold newelref10_Join.f
 repeat' first
  | (with_reducible exact ih0 _ _ _)
  | (with_reducible exact LeO.refl _)
  | (with_reducible exact LeO.none _)
  | (with_reducible refine LeO.ite ?_ ?_)
  | (with_reducible refine LeO.bind ?_ (fun _ => ?_))
  | exact ih0 _ _ _
  | exact LeO.none _
  | refine LeO.ite ?_ ?_
  | refine LeO.bind ?_ (fun _ => ?_)
set_option maxHeartbeats 8000000 in
set_option maxRecDepth 100000 in
theorem newelref10_Join.calls (k : Nat) (A0 : Option Addr) (c0 : Nat) (l0 : List (S29)) (r : ByteArray) (w : World) (hr0 : Kd.C k29 w A0 l0.length l0) (hc0 : l0.length ≤ c0) (hG : Glob w) (h : newelref10_Join.f k l0 = some r) :
 Calls Try.prog 19 #[.slice A0 l0.length c0] w fun e w' => e = .returned (.string r) ∧ Drawn0 w w' := by
 have HG := Aside0.mk hG
 clear hG
 have HR0 := Aside0.mk hr0
 have HC0 := Aside0.mk hc0
 clear hr0 hc0
 have H : (newelref10_Join.l0 k l0 (⟨#[]⟩ : ByteArray) 0) = some r := h
 clear h
 have H' := Aside0.mk H
 clear H
 go_enter Try.func19, Try.ntmps19
 go_wp2
 go_loopg [3, 4] k (fun kq v3 v4 w' => ∃ (x3_1 : ByteArray) (x4_1 : Int), v3 = .string x3_1 ∧ v4 = .int .i64 x4_1 ∧ Aside0 (newelref10_Join.l0 kq l0 x3_1 x4_1 = some r) ∧ Aside0 (kq ≤ k) ∧ Drawn0 w w')
 case atStart => exact ⟨((⟨#[]⟩ : ByteArray)), (0), (by first | rfl | (simp; done) | (simp [*]; done) | (simp; exact isEmpty_bne _)), (by first | rfl | (simp; done) | (simp [*]; done) | (simp; exact isEmpty_bne _)), H', ⟨Nat.le_refl _⟩, by repeat (first | exact Drawn0.refl _ | apply Drawn0.step)⟩
 case round =>
  clear H'
  try clear c1
  obtain ⟨x3_1, x4_1, rfl, rfl, HA, HK1, ⟨m1, rfl⟩⟩ := hrel
  cases gk with
  | zero => exact absurd HA.out (by simp [newelref10_Join.l0])
  | succ k1 =>
   have H := HA.out
   clear HA
   simp only [newelref10_Join.l0] at H
   (try simp only [toList_lit] at H)
   by_cases c2 : x4_1 < (l0.length : Int)
   ·rw [if_pos c2] at H
    have c2b0 : decide (x4_1 < (l0.length : Int)) = true := decide_eq_true c2
    clear c2
    by_cases c3 : 0 ≤ x4_1
    ·rw [if_pos c3] at H
     have c3b0 : decide (0 ≤ x4_1) = true := decide_eq_true c3
     clear c3
     obtain ⟨bq4, hbq4⟩ : ∃ b_ : Bool, b_ = ((rd_T29 l0 x4_1).f0) := ⟨_, rfl⟩
     replace H : (if bq4 = true then (if x3_1.size + 1 ≤ 9223372036854775807 then (if (x3_1 ++ (⟨#[36]⟩ : ByteArray)).size + 1 ≤ 9223372036854775807 then (if ((x3_1 ++ (⟨#[36]⟩ : ByteArray)) ++ (⟨#[123]⟩ : ByteArray)).size + ((rd_T29 l0 x4_1).f1).size ≤ 9223372036854775807 then (if (((x3_1 ++ (⟨#[36]⟩ : ByteArray)) ++ (⟨#[123]⟩ : ByteArray)) ++ ((rd_T29 l0 x4_1).f1)).size + 1 ≤ 9223372036854775807 then (newelref10_Join.l0 k1 l0 ((((x3_1 ++ (⟨#[36]⟩ : ByteArray)) ++ (⟨#[123]⟩ : ByteArray)) ++ ((rd_T29 l0 x4_1).f1)) ++ (⟨#[125]⟩ : ByteArray)) (wrap64 (x4_1 + 1))) else (none)) else (none)) else (none)) else (none)) else (if x3_1.size + ((rd_T29 l0 x4_1).f1).size ≤ 9223372036854775807 then (newelref10_Join.l0 k1 l0 (x3_1 ++ ((rd_T29 l0 x4_1).f1)) (wrap64 (x4_1 + 1))) else (none))) = some r := by rw [← hbq4] at H; exact H
     have Nbq4 := Aside0.mk hbq4
     clear hbq4
     by_cases c5 : bq4 = true
     ·subst c5
      have H1 : (if x3_1.size + 1 ≤ 9223372036854775807 then (if (x3_1 ++ (⟨#[36]⟩ : ByteArray)).size + 1 ≤ 9223372036854775807 then (if ((x3_1 ++ (⟨#[36]⟩ : ByteArray)) ++ (⟨#[123]⟩ : ByteArray)).size + ((rd_T29 l0 x4_1).f1).size ≤ 9223372036854775807 then (if (((x3_1 ++ (⟨#[36]⟩ : ByteArray)) ++ (⟨#[123]⟩ : ByteArray)) ++ ((rd_T29 l0 x4_1).f1)).size + 1 ≤ 9223372036854775807 then (newelref10_Join.l0 k1 l0 ((((x3_1 ++ (⟨#[36]⟩ : ByteArray)) ++ (⟨#[123]⟩ : ByteArray)) ++ ((rd_T29 l0 x4_1).f1)) ++ (⟨#[125]⟩ : ByteArray)) (wrap64 (x4_1 + 1))) else (none)) else (none)) else (none)) else (none)) = some r := by rw [if_pos rfl] at H; exact H
      clear H
      have H := H1
      clear H1
      by_cases c6 : x3_1.size + 1 ≤ 9223372036854775807
      ·rw [if_pos c6] at H
       have c6b0 := eq_true c6
       have c6b1 : decide (x3_1.size + 1 ≤ 9223372036854775807) = true := decide_eq_true c6
       try have c6b2 : (9223372036854775807 < x3_1.size + 1) = False := eq_false (Nat.not_lt.2 c6)
       by_cases c7 : (x3_1 ++ (⟨#[36]⟩ : ByteArray)).size + 1 ≤ 9223372036854775807
       ·rw [if_pos c7] at H
        have c7b0 := eq_true c7
        have c7b1 : decide ((x3_1 ++ (⟨#[36]⟩ : ByteArray)).size + 1 ≤ 9223372036854775807) = true := decide_eq_true c7
        try have c7b2 : (9223372036854775807 < (x3_1 ++ (⟨#[36]⟩ : ByteArray)).size + 1) = False := eq_false (Nat.not_lt.2 c7)
        have c7n : (x3_1.size + 1) + 1 ≤ 9223372036854775807 := by have z_ := c7; simp only [ByteArray.size_append] at z_; exact z_
        have c7m : (9223372036854775807 < (x3_1.size + 1) + 1) = False := eq_false (Nat.not_lt.2 c7n)
        clear c7 c7b0 c7b1
        try clear c7b2
        by_cases c8 : ((x3_1 ++ (⟨#[36]⟩ : ByteArray)) ++ (⟨#[123]⟩ : ByteArray)).size + ((rd_T29 l0 x4_1).f1).size ≤ 9223372036854775807
        ·rw [if_pos c8] at H
         have c8b0 := eq_true c8
         have c8b1 : decide (((x3_1 ++ (⟨#[36]⟩ : ByteArray)) ++ (⟨#[123]⟩ : ByteArray)).size + ((rd_T29 l0 x4_1).f1).size ≤ 9223372036854775807) = true := decide_eq_true c8
         try have c8b2 : (9223372036854775807 < ((x3_1 ++ (⟨#[36]⟩ : ByteArray)) ++ (⟨#[123]⟩ : ByteArray)).size + ((rd_T29 l0 x4_1).f1).size) = False := eq_false (Nat.not_lt.2 c8)
         have c8n : ((x3_1.size + 1) + 1) + ((rd_T29 l0 x4_1).f1).size ≤ 9223372036854775807 := by have z_ := c8; simp only [ByteArray.size_append] at z_; exact z_
         have c8m : (9223372036854775807 < ((x3_1.size + 1) + 1) + ((rd_T29 l0 x4_1).f1).size) = False := eq_false (Nat.not_lt.2 c8n)
         clear c8 c8b0 c8b1
         try clear c8b2
         by_cases c9 : (((x3_1 ++ (⟨#[36]⟩ : ByteArray)) ++ (⟨#[123]⟩ : ByteArray)) ++ ((rd_T29 l0 x4_1).f1)).size + 1 ≤ 9223372036854775807
         ·rw [if_pos c9] at H
          have c9b0 := eq_true c9
          have c9b1 : decide ((((x3_1 ++ (⟨#[36]⟩ : ByteArray)) ++ (⟨#[123]⟩ : ByteArray)) ++ ((rd_T29 l0 x4_1).f1)).size + 1 ≤ 9223372036854775807) = true := decide_eq_true c9
          try have c9b2 : (9223372036854775807 < (((x3_1 ++ (⟨#[36]⟩ : ByteArray)) ++ (⟨#[123]⟩ : ByteArray)) ++ ((rd_T29 l0 x4_1).f1)).size + 1) = False := eq_false (Nat.not_lt.2 c9)
          have c9n : (((x3_1.size + 1) + 1) + ((rd_T29 l0 x4_1).f1).size) + 1 ≤ 9223372036854775807 := by have z_ := c9; simp only [ByteArray.size_append] at z_; exact z_
          have c9m : (9223372036854775807 < (((x3_1.size + 1) + 1) + ((rd_T29 l0 x4_1).f1).size) + 1) = False := eq_false (Nat.not_lt.2 c9n)
          clear c9 c9b0 c9b1
          try clear c9b2
          have H' := Aside0.mk H
          clear H
          have p147 : 0 ≤ (x4_1 : Int) := of_decide_eq_true (by first | (with_reducible assumption) | assumption)
          have q147 : x4_1 < (l0.length : Int) := of_decide_eq_true (by first | (with_reducible assumption) | assumption)
          obtain ⟨ad147, e147, hx147_0, hx147_1⟩ := at_T29 HR0.out x4_1 p147 q147
          (try rw [← Nbq4.out] at hx147_0)
          cases e147
          replace p147 := eq_true p147
          replace q147 := eq_true q147
          have p148 : 0 ≤ (x4_1 : Int) := of_decide_eq_true (by first | (with_reducible assumption) | assumption)
          have q148 : x4_1 < (l0.length : Int) := of_decide_eq_true (by first | (with_reducible assumption) | assumption)
          obtain ⟨ad148, e148, hx148_0, hx148_1⟩ := at_T29 HR0.out x4_1 p148 q148
          (try rw [← Nbq4.out] at hx148_0)
          obtain rfl : ad147 = ad148 := (by injection e148)
          replace p148 := eq_true p148
          replace q148 := eq_true q148
          go_wp2
          go_roundg k1
          case measure => have := HK1.out; omega
          case rel => exact ⟨((((x3_1 ++ (⟨#[36]⟩ : ByteArray)) ++ (⟨#[123]⟩ : ByteArray)) ++ ((rd_T29 l0 x4_1).f1)) ++ (⟨#[125]⟩ : ByteArray)), (wrap64 (x4_1 + 1)), (by first | rfl | (simp; done) | (simp [*]; done) | (simp; exact isEmpty_bne _)), (by first | rfl | (simp; done) | (simp [*]; done) | (simp; exact isEmpty_bne _)), H', ⟨by have := HK1.out; omega⟩, by repeat (first | exact Drawn0.refl _ | apply Drawn0.step)⟩
         ·rw [if_neg c9] at H
          exact absurd H (by simp)
        ·rw [if_neg c8] at H
         exact absurd H (by simp)
       ·rw [if_neg c7] at H
        exact absurd H (by simp)
      ·rw [if_neg c6] at H
       exact absurd H (by simp)
     ·replace c5 := Bool.eq_false_iff.mpr c5
      subst c5
      have H1 : (if x3_1.size + ((rd_T29 l0 x4_1).f1).size ≤ 9223372036854775807 then (newelref10_Join.l0 k1 l0 (x3_1 ++ ((rd_T29 l0 x4_1).f1)) (wrap64 (x4_1 + 1))) else (none)) = some r := by rw [if_neg (show ¬ (false = true) by decide)] at H; exact H
      clear H
      have H := H1
      clear H1
      by_cases c10 : x3_1.size + ((rd_T29 l0 x4_1).f1).size ≤ 9223372036854775807
      ·rw [if_pos c10] at H
       have c10b0 := eq_true c10
       have c10b1 : decide (x3_1.size + ((rd_T29 l0 x4_1).f1).size ≤ 9223372036854775807) = true := decide_eq_true c10
       try have c10b2 : (9223372036854775807 < x3_1.size + ((rd_T29 l0 x4_1).f1).size) = False := eq_false (Nat.not_lt.2 c10)
       have H' := Aside0.mk H
       clear H
       have p147 : 0 ≤ (x4_1 : Int) := of_decide_eq_true (by first | (with_reducible assumption) | assumption)
       have q147 : x4_1 < (l0.length : Int) := of_decide_eq_true (by first | (with_reducible assumption) | assumption)
       obtain ⟨ad147, e147, hx147_0, hx147_1⟩ := at_T29 HR0.out x4_1 p147 q147
       (try rw [← Nbq4.out] at hx147_0)
       cases e147
       replace p147 := eq_true p147
       replace q147 := eq_true q147
       have p149 : 0 ≤ (x4_1 : Int) := of_decide_eq_true (by first | (with_reducible assumption) | assumption)
       have q149 : x4_1 < (l0.length : Int) := of_decide_eq_true (by first | (with_reducible assumption) | assumption)
       obtain ⟨ad149, e149, hx149_0, hx149_1⟩ := at_T29 HR0.out x4_1 p149 q149
       (try rw [← Nbq4.out] at hx149_0)
       obtain rfl : ad147 = ad149 := (by injection e149)
       replace p149 := eq_true p149
       replace q149 := eq_true q149
       go_wp2
       go_roundg k1
       case measure => have := HK1.out; omega
       case rel => exact ⟨(x3_1 ++ ((rd_T29 l0 x4_1).f1)), (wrap64 (x4_1 + 1)), (by first | rfl | (simp; done) | (simp [*]; done) | (simp; exact isEmpty_bne _)), (by first | rfl | (simp; done) | (simp [*]; done) | (simp; exact isEmpty_bne _)), H', ⟨by have := HK1.out; omega⟩, by repeat (first | exact Drawn0.refl _ | apply Drawn0.step)⟩
      ·rw [if_neg c10] at H
       exact absurd H (by simp)
    ·rw [if_neg c3] at H
     exact absurd H (by simp)
   ·rw [if_neg c2] at H
    have c2b0 : decide (x4_1 < (l0.length : Int)) = false := decide_eq_false c2
    clear c2
    obtain rfl := Option.some.inj H
    go_wp2
    go_ret
    exact ⟨by first | rfl | (simp; done) | (simp [*]; done), by repeat (first | exact Drawn0.refl _ | apply Drawn0.step)⟩

end Go.Proofs.Ytmpdpfojiepdkaa.Q

-- Printed by this session's wip/np.py over the kit's print program. Not trusted: Lean checks it.
namespace Go.Proofs.Ytmpdpfojiepdkaa.Q
open Go.RowKit Go.Proofs.YtmpdpfojiepdkaaW.PrintWords Go.Proofs.YtmpdpfojiepdkaaW.PrintLast Go.Proofs.YtmpdpfojiepdkaaW.Own Go.Proofs.YtmpdpfojiepdkaaW.PrintMore
attribute [local go_sem] max2_int min2_int max_two min_two max_three min_three max_four min_four
set_option linter.unusedVariables false
set_option linter.unusedSimpArgs false

/-! ### newelref10_Has: function 21 -/
def newelref10_Has.l0 : Nat → ByteArray → Int → Option (Bool)
 | 0, _, _ => none
 | k + 1, x0, x3 => if x3 < (x0.size : Int) then ((newelref10_begins.f x0 x3).bind fun t150 => (if t150 = true then (some true) else (newelref10_Has.l0 k x0 (wrap64 (x3 + 1))))) else (some false)
def newelref10_Has.f (k : Nat) (a0 : ByteArray) : Option (Bool) := newelref10_Has.l0 k a0 0
theorem newelref10_Has.mono_l : ∀ k, (∀ y0 y1, LeO (newelref10_Has.l0 k y0 y1) (newelref10_Has.l0 (k + 1) y0 y1))
 | 0 => fun _ _ r h => by simp [newelref10_Has.l0] at h
 | k + 1 => by
  have ih0 := newelref10_Has.mono_l k
  ·intro y0 y1
   unfold newelref10_Has.l0
   repeat' first
   | (with_reducible exact ih0 _ _)
   | (with_reducible exact LeO.refl _)
   | (with_reducible exact LeO.none _)
   | (with_reducible refine LeO.ite ?_ ?_)
   | (with_reducible refine LeO.bind ?_ (fun _ => ?_))
   | exact ih0 _ _
   | exact LeO.none _
   | refine LeO.ite ?_ ?_
   | refine LeO.bind ?_ (fun _ => ?_)
theorem newelref10_Has.mono : ∀ a0 k, LeO (newelref10_Has.f k a0) (newelref10_Has.f (k + 1) a0) := by
 intro a0 k
 have ih0 := newelref10_Has.mono_l k
 unfold newelref10_Has.f
 repeat' first
  | (with_reducible exact ih0 _ _)
  | (with_reducible exact LeO.refl _)
  | (with_reducible exact LeO.none _)
  | (with_reducible refine LeO.ite ?_ ?_)
  | (with_reducible refine LeO.bind ?_ (fun _ => ?_))
  | exact ih0 _ _
  | exact LeO.none _
  | refine LeO.ite ?_ ?_
  | refine LeO.bind ?_ (fun _ => ?_)
set_option maxHeartbeats 8000000 in
set_option maxRecDepth 100000 in
theorem newelref10_Has.calls (k : Nat) (a0 : ByteArray) (r : Bool) (w : World) (hG : Glob w) (h : newelref10_Has.f k a0 = some r) :
 Calls Try.prog 21 #[.string a0] w fun e w' => e = .returned (.bool r) ∧ Drawn0 w w' := by
 have HG := Aside0.mk hG
 clear hG
 have H : (newelref10_Has.l0 k a0 0) = some r := h
 clear h
 have H' := Aside0.mk H
 clear H
 go_enter Try.func21, Try.ntmps21
 go_wp2
 go_loopg [3] k (fun kq v3 w' => ∃ (x3_1 : Int), v3 = .int .i64 x3_1 ∧ Aside0 (newelref10_Has.l0 kq a0 x3_1 = some r) ∧ Aside0 (kq ≤ k) ∧ Drawn0 w w')
 case atStart => exact ⟨(0), (by first | rfl | (simp; done) | (simp [*]; done) | (simp; exact isEmpty_bne _)), H', ⟨Nat.le_refl _⟩, by repeat (first | exact Drawn0.refl _ | apply Drawn0.step)⟩
 case round =>
  clear H'
  obtain ⟨x3_1, rfl, HA, HK1, ⟨m1, rfl⟩⟩ := hrel
  cases gk with
  | zero => exact absurd HA.out (by simp [newelref10_Has.l0])
  | succ k1 =>
   have H := HA.out
   clear HA
   simp only [newelref10_Has.l0] at H
   by_cases c2 : x3_1 < (a0.size : Int)
   ·rw [if_pos c2] at H
    have c2b0 : decide (x3_1 < (a0.size : Int)) = true := decide_eq_true c2
    clear c2
    replace H := Option.bind_eq_some_iff.mp H
    obtain ⟨t150, A30, H⟩ := H
    replace H : (if t150 = true then (some true) else (newelref10_Has.l0 k1 a0 (wrap64 (x3_1 + 1)))) = some r := H
    have A3 := Aside0.mk A30
    clear A30
    by_cases c4 : t150 = true
    ·subst c4
     have H1 : (some true) = some r := by rw [if_pos rfl] at H; exact H
     clear H
     have H := H1
     clear H1
     obtain rfl := Option.some.inj H
     go_wp2_with (first | ((with_reducible refine gate_callee (f := 39) rfl ?_); refine goesL_ (some 12) rfl rfl Try.func39 (by kernel_rfl) rfl #[.string a0, .int .i64 x3_1] rfl (by (try simp only [List.map_toArray, List.map_cons, List.map_nil]); first | done | rfl | (simp only [List.length_drop, List.length_take]; rfl)) ?_; (with_reducible refine (newelref10_begins.calls a0 x3_1 true _ ?side1 A3.out).mono ?_); (case side1 => exact Glob.drawn HG.out (by repeat (first | exact Drawn0.refl _ | apply Drawn0.step))); rintro e w' ⟨rfl, ⟨nd, rfl⟩⟩; refine ⟨_, rfl, ?_⟩))
     go_ret
     exact ⟨by first | rfl | (simp; done) | (simp [*]; done), by repeat (first | exact Drawn0.refl _ | apply Drawn0.step)⟩
    ·replace c4 := Bool.eq_false_iff.mpr c4
     subst c4
     have H1 : (newelref10_Has.l0 k1 a0 (wrap64 (x3_1 + 1))) = some r := by rw [if_neg (show ¬ (false = true) by decide)] at H; exact H
     clear H
     have H := H1
     clear H1
     have H' := Aside0.mk H
     clear H
     go_wp2_with (first | ((with_reducible refine gate_callee (f := 39) rfl ?_); refine goesL_ (some 12) rfl rfl Try.func39 (by kernel_rfl) rfl #[.string a0, .int .i64 x3_1] rfl (by (try simp only [List.map_toArray, List.map_cons, List.map_nil]); first | done | rfl | (simp only [List.length_drop, List.length_take]; rfl)) ?_; (with_reducible refine (newelref10_begins.calls a0 x3_1 false _ ?side1 A3.out).mono ?_); (case side1 => exact Glob.drawn HG.out (by repeat (first | exact Drawn0.refl _ | apply Drawn0.step))); rintro e w' ⟨rfl, ⟨nd, rfl⟩⟩; refine ⟨_, rfl, ?_⟩))
     go_roundg k1
     case measure => have := HK1.out; omega
     case rel => exact ⟨(wrap64 (x3_1 + 1)), (by first | rfl | (simp; done) | (simp [*]; done) | (simp; exact isEmpty_bne _)), H', ⟨by have := HK1.out; omega⟩, by repeat (first | exact Drawn0.refl _ | apply Drawn0.step)⟩
   ·rw [if_neg c2] at H
    have c2b0 : decide (x3_1 < (a0.size : Int)) = false := decide_eq_false c2
    clear c2
    obtain rfl := Option.some.inj H
    go_wp2
    go_ret
    exact ⟨by first | rfl | (simp; done) | (simp [*]; done), by repeat (first | exact Drawn0.refl _ | apply Drawn0.step)⟩

end Go.Proofs.Ytmpdpfojiepdkaa.Q

-- Printed by this session's wip/np.py over the kit's print program. Not trusted: Lean checks it.
namespace Go.Proofs.Ytmpdpfojiepdkaa.Q
open Go.RowKit Go.Proofs.YtmpdpfojiepdkaaW.PrintWords Go.Proofs.YtmpdpfojiepdkaaW.PrintLast Go.Proofs.YtmpdpfojiepdkaaW.Own Go.Proofs.YtmpdpfojiepdkaaW.PrintMore
attribute [local go_sem] max2_int min2_int max_two min_two max_three min_three max_four min_four
set_option linter.unusedVariables false
set_option linter.unusedSimpArgs false

/-! ### api_Piece_22: function 22 -/
attribute [local go_sem high] eqA29
def api_Piece_22.f (k : Nat) (l0 l1 : List S29) (a2_0 : Bool) (a2_1 : ByteArray) : Option Bool := if l0.length = l1.length then api_Piece_17.f k l0 l1 else none
theorem api_Piece_22.mono : ∀ a0 a1 a2 a3 k, LeO (api_Piece_22.f k a0 a1 a2 a3) (api_Piece_22.f (k + 1) a0 a1 a2 a3) := by
 intro a0 a1 a2 a3 k
 unfold api_Piece_22.f
 split
 ·exact api_Piece_17.mono a0 a1 k
 ·intro r h; cases h
set_option maxHeartbeats 8000000 in
set_option maxRecDepth 100000 in
theorem api_Piece_22.callsB (k : Nat) (A0 : Option Addr) (c0 : Nat) (l0 : List S29) (A1 : Option Addr) (c1 : Nat) (l1 : List S29) (a2_0 : Bool) (a2_1 : ByteArray) (r : Bool) (w : World) (hr0 : k29.C w A0 l0.length l0) (hc0 : l0.length ≤ c0) (hr1 : k29.C w A1 l1.length l1) (hc1 : l1.length ≤ c1) (hG : Glob w) (h : api_Piece_22.f k l0 l1 a2_0 a2_1 = some r) (lB : List S29) (hb : api_Piece_16.Blk w (.slice A0 l0.length c0) lB [Value.bool a2_0, Value.string a2_1]) :
 Calls Try.prog 22 #[.slice A0 l0.length c0, .slice A1 l1.length c1, .agg #[Value.bool a2_0, Value.string a2_1]] w fun e w' => e = .returned (.bool r) ∧ Below w.heap.size w w' := by
 obtain ⟨hl, g, hv, hb0⟩ := hb
 injection hv with hv1 hv2 hv3
 subst hv1
 subst hv3
 unfold api_Piece_22.f at h
 by_cases hll : l0.length = l1.length
 case neg => rw [if_neg hll] at h; cases h
 rw [if_pos hll] at h
 rw [← hv2] at hl hc0 ⊢
 have HV := Aside0.mk hr0
 have HW := Aside0.mk hc0
 have HR1 := Aside0.mk hr1
 have HC1 := Aside0.mk hc1
 have HL := Aside0.mk hl
 have A5 := Aside0.mk h
 have hlb := hv2.symm
 have hu9 := Try.underlying29
 have e3 : wrap64 ((l1.length : Int) + 3) = (l0.length : Int) + 3 := by unfold wrap64; omega
 have d0 : decide ((l0.length : Int) + 3 < (l0.length : Int) + 3) = false := decide_eq_false (by omega)
 have d0' := eq_true (show (0 : Int) ≤ (l0.length : Int) + 3 by omega)
 have HX := Aside0.mk (heap_alloc_new w (.cells #[Value.bool a2_0, Value.string a2_1] 29))
 have HBX := Aside0.mk ((Below.refl w.heap.size w).alloc (Nat.le_refl _) (.cells #[Value.bool a2_0, Value.string a2_1] 29))
 have HG := Aside0.mk hG
 have HBK := Aside0.mk hb0
 have HLB := Aside0.mk (And.intro hll hlb)
 clear hb0 hr1 hc1 hG hl h hr0 hc0 hll hlb hv2
 go_enter Try.func22, Try.ntmps22
 cases r
 ·go_wp2_with (first | ((with_reducible refine gate_callee (f := 17) rfl ?_); refine goesL_ (some 11) rfl rfl Try.func17 (by kernel_rfl) rfl #[.slice (some ⟨g, 0, none⟩) l0.length (l0.length + 3), .slice A1 l1.length c1] rfl (by (try simp only [List.map_toArray, List.map_cons, List.map_nil]); first | done | rfl) ?_; (with_reducible refine (api_Piece_17.calls k _ _ l0 _ _ l1 false _ (Kd.C_below HV.out HBX.out) HW.out (Kd.C_below HR1.out HBX.out) HC1.out (HG.out.step HBX.out) A5.out).mono ?_); rintro e w1 ⟨rfl, hb⟩; refine ⟨_, rfl, ?_⟩; have HB1 := Aside0.mk (below_step HBX.out hb); clear hb))
  go_ret
  exact ⟨rfl, HB1.out⟩
 ·go_wp2_with (first | ((with_reducible refine gate_callee (f := 17) rfl ?_); refine goesL_ (some 11) rfl rfl Try.func17 (by kernel_rfl) rfl #[.slice (some ⟨g, 0, none⟩) l0.length (l0.length + 3), .slice A1 l1.length c1] rfl (by (try simp only [List.map_toArray, List.map_cons, List.map_nil]); first | done | rfl) ?_; (with_reducible refine (api_Piece_17.calls k _ _ l0 _ _ l1 true _ (Kd.C_below HV.out HBX.out) HW.out (Kd.C_below HR1.out HBX.out) HC1.out (HG.out.step HBX.out) A5.out).mono ?_); rintro e w1 ⟨rfl, hb⟩; refine ⟨_, rfl, ?_⟩; have HB1 := Aside0.mk (below_step HBX.out hb); have HX1 := Aside0.mk (blk_below HX.out hb); have BK0 := Aside0.mk (blk_below (blk_below HBK.out HBX.out) hb); clear hb))
  go_loopg [8] 3 (fun kq v8 w' => ∃ (x : Int) (j : Nat), v8 = .int .i64 x ∧ Aside0 (x = l1.length + j ∧ kq + j = 3) ∧ Aside0 (w'.heap[g]? = some (.cells (lB.flatMap api_Piece_16.enc ++ ([Value.bool a2_0, Value.string a2_1] ++ [Value.bool a2_0, Value.string a2_1] ++ [Value.bool a2_0, Value.string a2_1])).toArray 29 (0, 0))) ∧ Aside0 (w'.heap[w.heap.size]? = some (.cells #[Value.bool a2_0, Value.string a2_1] 29 (0, 0))) ∧ Aside0 (Below w.heap.size w w'))
  case atStart => exact ⟨l1.length, 0, by first | rfl | (simp; done), ⟨by constructor <;> omega⟩, BK0, HX1, HB1⟩
  case round =>
   clear BK0 HB1 HX1 HX HBX d0 d0'
   obtain ⟨x, j, rfl, HX, BK1, HY, HB1⟩ := hrel
   obtain ⟨hx, hj⟩ := HX.out
   have hl := HL.out
   obtain ⟨hll, hlb⟩ := HLB.out
   by_cases hlt : j < 3
   ·have d1 : decide (x < (l0.length : Int) + 3) = true := decide_eq_true (by omega)
    have d2 : decide (x < ((l0.length + 3 : Nat) : Int)) = true := decide_eq_true (by omega)
    have p1 := eq_true (show 0 ≤ x by omega)
    have p2 := eq_true (show x < (l0.length : Int) + 3 by omega)
    have p3 := eq_true (show x < ((l0.length + 3 : Nat) : Int) by omega)
    have hxj : x.toNat = l0.length + j := by omega
    have hel : (lB.flatMap api_Piece_16.enc).length = l0.length * 2 := by rw [api_Piece_16.enc_len, hlb]
    have c0 : wr.cell? ⟨g, x.toNat * 2, none⟩ = some (Value.bool a2_0) := by
     refine (blk_cell BK1.out (x.toNat * 2)).trans ?_
     rw [hxj, List.getElem?_toArray, List.getElem?_append_right (by omega), hel, show (l0.length + j) * 2 - l0.length * 2 = j * 2 from by omega]
     rcases j with _ | _ | _ | j
     ·rfl
     ·rfl
     ·rfl
     ·omega
    have c1 : wr.cell? ⟨g, x.toNat * 2 + 1, none⟩ = some (Value.string a2_1) := by
     refine (blk_cell BK1.out (x.toNat * 2 + 1)).trans ?_
     rw [hxj, List.getElem?_toArray, List.getElem?_append_right (by omega), hel, show (l0.length + j) * 2 + 1 - l0.length * 2 = j * 2 + 1 from by omega]
     rcases j with _ | _ | _ | j
     ·rfl
     ·rfl
     ·rfl
     ·omega
    have y0 := (blk_cell HY.out 0).trans rfl
    have y1 := (blk_cell HY.out 1).trans rfl
    have HJ := Aside0.mk (show gk - 1 < gk ∧ wrap64 (x + 1) = l1.length + ((j + 1 : Nat) : Int) ∧ gk - 1 + (j + 1) = 3 from ⟨by omega, by unfold wrap64; omega, by omega⟩)
    clear hx hj hl hlt hxj hel hll hlb
    go_wp2
    go_quiet (fail)
    go_wp2
    go_roundg (gk - 1)
    case measure => exact HJ.out.1
    case rel => exact ⟨wrap64 (x + 1), j + 1, by first | rfl | (simp; done), ⟨HJ.out.2⟩, ⟨BK1.out⟩, ⟨HY.out⟩, ⟨pw_below_drewN HB1.out _⟩⟩
   ·have d1 : decide (x < (l0.length : Int) + 3) = false := decide_eq_false (by omega)
    have d2 : decide (x < ((l0.length + 3 : Nat) : Int)) = false := decide_eq_false (by omega)
    clear hx hj hl hll hlb
    go_wp2
    go_ret
    exact ⟨rfl, HB1.out⟩


end Go.Proofs.Ytmpdpfojiepdkaa.Q
