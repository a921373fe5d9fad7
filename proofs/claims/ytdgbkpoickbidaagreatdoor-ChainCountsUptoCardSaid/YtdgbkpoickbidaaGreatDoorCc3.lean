/- Contracts of library functions at this seat, laid by a tool of the kit. Contracts of library functions at this seat, laid by a tool of the kit. The laid contracts that the texts lean on. stamp.Print: how a time is written. strconv.FormatUint at base 10, of any number of 64 bits; its table stands as it was laid. How many digits a number has. Plain. A time as it is written, by the program and by the document: both the same. Times that are written alike are the same. Plain. Lists of changes in memory; a map from times' texts to changes. What comes in: lists of lists of changes, of a bulk that is bounded. slices.IndexFunc, ContainsFunc at times, by any predicate that makes new memory at most. chain.Beyond, Leq: what they answer. chain.copied, slices.Clone at times; a list of times that grows by one. A row of structs that the library has sorted, in the words of owned slices. stamp.Cmp, with the world behind it told to the block. Conditions: each theorem states its own. -/
import Derived.Shelf.Strings.Builder1
import Derived.Shelf.Strings.Builder2
import Derived.Shelf.Strings.OnBuilder
import Derived.Shelf.Small.Bits
import Derived.Shelf.Small.Wraps
import Derived.Shelf.Strings.BuilderF
import Derived.Shelf.Strings.BuilderK
import Derived.Shelf.Strings.Builder2Cap
import Derived.Shelf.Strconv.Itoa0
import Derived.Shelf.Strconv.Itoa1
import Derived.Shelf.LaysM
import Derived.Shelf.Strconv.Itoa2
import Derived.Ground.Names2Prog
import Derived.Shelf.Slices.SearchI
import Derived.Ground.SlgnProg
import Derived.Shelf.SlicesG.SearchI
import Derived.Shelf.SlicesE.Clone
import Derived.Test.YtdgbkpoickbidaaGreatDoorProg
import Derived.Shelf.Unicode.ValidAny
import Derived.Ground.NamesProg
import Derived.Test.YtdgbkpoickbidaaGreatDoorCc1
import Derived.Lib.ItoaMem
import Derived.Lib.LaidTab
import Derived.Lib.AppendIntMem
import Derived.Lib.LaidU8
import Derived.Test.YtdgbkpoickbidaaGreatDoorCc2
import Derived.Maps.OwnSet
import Derived.Maps.RangeWalk
import Derived.Deep.LoopGhost
import Derived.Shelf.Abstract
import Derived.Shelf.SlSortCmp.WholeK
import Derived.Sort.Grow
namespace Go.Proofs
open Go.Shelf
def Tryz.lays169_ren : Go.Shelf.Ren := ⟨fun | 169 => 234 | n => n, fun | 70 => 286 | 9 => 9 | 0 => 0 | 72 => 288 | 37 => 226 | 127 => 324 | 3 => 3 | 5 => 5 | n => n, fun | n => n⟩
theorem Tryz.lays169 : Go.Proofs.Lays.n169 Tryz.prog Tryz.lays169_ren := {
  mixed := by kernel_rfl
  f169 := Tryz.func234.trans (congrArg some (by kernel_rfl))
  t0 := Tryz.underlying0
  a0 := Tryz.isAgg0
  z0 := Tryz.sizeOf0
  v0 := Tryz.zeroValue0
  t3 := Tryz.underlying3
  a3 := Tryz.isAgg3
  z3 := Tryz.sizeOf3
  v3 := Tryz.zeroValue3
  t9 := Tryz.underlying9
  a9 := Tryz.isAgg9
  z9 := Tryz.sizeOf9
  v9 := Tryz.zeroValue9
  t37 := Tryz.underlying226
  a37 := Tryz.isAgg226
  z37 := Tryz.sizeOf226
  v37 := Tryz.zeroValue226
  t70 := Tryz.underlying286
  a70 := Tryz.isAgg286
  z70 := Tryz.sizeOf286
  v70 := Tryz.zeroValue286
  t72 := Tryz.underlying288
  a72 := Tryz.isAgg288
  z72 := Tryz.sizeOf288
  v72 := Tryz.zeroValue288
  t127 := Tryz.underlying324
  a127 := Tryz.isAgg324
  z127 := Tryz.sizeOf324
  v127 := Tryz.zeroValue324 }
theorem Tryz.Builder_Extra_169 : Builder.Extra Tryz.prog Tryz.lays169_ren := {
  sizeBuilder := by kernel_rfl
  liesBuilder := by kernel_rfl
  t5 := Tryz.underlying5
  a5 := Tryz.isAgg5
  z5 := Tryz.sizeOf5
  v5 := Tryz.zeroValue5
  infoByte := by kernel_rfl
  cellsByte := by kernel_rfl
  sizeByte := by kernel_rfl
  neB5 := by decide }
open Go.RowKit in

theorem Tryz.Builder_String (B b : Nat) (l : List UInt8) (w : World) (h : Lib.IsBuilder 288 5 B b (Lib.byteCells l) w) (h0 : l ≠ []) :
    Calls Tryz.prog 234 #[.pointer (some ⟨b, 0, none⟩)] w fun e w' => e = .returned (.string ⟨l.toArray⟩) ∧ Below B w w' := Any.Builder_String Tryz.lays169 Tryz.Builder_Extra_169 B b l w h h0
open Go.RowKit in

theorem Tryz.Builder_String_empty (B b : Nat) (w : World) (h : Lib.IsBuilder 288 5 B b [] w) (hBw : B ≤ w.heap.size) :
    Calls Tryz.prog 234 #[.pointer (some ⟨b, 0, none⟩)] w fun e w' => e = .returned (.string ⟨#[]⟩) ∧ Below B w w' := Any.Builder_String_empty Tryz.lays169 Tryz.Builder_Extra_169 B b w h hBw
open Go.RowKit in

theorem Tryz.Builder_String_any (B b : Nat) (l : List UInt8) (w : World) (h : Lib.IsBuilder 288 5 B b (Lib.byteCells l) w) (hBw : B ≤ w.heap.size) :
    Calls Tryz.prog 234 #[.pointer (some ⟨b, 0, none⟩)] w fun e w' => e = .returned (.string ⟨l.toArray⟩) ∧ Below B w w' := Any.Builder_String_any Tryz.lays169 Tryz.Builder_Extra_169 B b l w h hBw
def Tryz.lays241_ren : Go.Shelf.Ren := ⟨fun | 241 => 271 | 277 => 293 | n => n, fun | 70 => 286 | 3 => 3 | 0 => 0 | 72 => 288 | 37 => 226 | 5 => 5 | n => n, fun | n => n⟩
theorem Tryz.lays241 : Go.Proofs.Lays.n241 Tryz.prog Tryz.lays241_ren := {
  mixed := by kernel_rfl
  f241 := Tryz.func271.trans (congrArg some (by kernel_rfl))
  f277 := Tryz.func293.trans (congrArg some (by kernel_rfl))
  t0 := Tryz.underlying0
  a0 := Tryz.isAgg0
  z0 := Tryz.sizeOf0
  v0 := Tryz.zeroValue0
  t3 := Tryz.underlying3
  a3 := Tryz.isAgg3
  z3 := Tryz.sizeOf3
  v3 := Tryz.zeroValue3
  t37 := Tryz.underlying226
  a37 := Tryz.isAgg226
  z37 := Tryz.sizeOf226
  v37 := Tryz.zeroValue226
  t70 := Tryz.underlying286
  a70 := Tryz.isAgg286
  z70 := Tryz.sizeOf286
  v70 := Tryz.zeroValue286
  t72 := Tryz.underlying288
  a72 := Tryz.isAgg288
  z72 := Tryz.sizeOf288
  v72 := Tryz.zeroValue288 }
theorem Tryz.Builder_Extra_241 : Builder.Extra Tryz.prog Tryz.lays241_ren := {
  sizeBuilder := by kernel_rfl
  liesBuilder := by kernel_rfl
  t5 := Tryz.underlying5
  a5 := Tryz.isAgg5
  z5 := Tryz.sizeOf5
  v5 := Tryz.zeroValue5
  infoByte := by kernel_rfl
  cellsByte := by kernel_rfl
  sizeByte := by kernel_rfl
  neB5 := by decide }
open Go.RowKit in

theorem Tryz.Builder_grow_fresh (B b n : Nat) (w : World) (hB : B ≤ b) (hbk : w.heap[b]? = some (.cells #[.pointer (some ⟨b, 0, none⟩), .slice none 0 0] 288 (0, 0))) (hBw : B ≤ w.heap.size) (hn : n ≤ 281474976710656) :
    Calls Tryz.prog 271 #[.pointer (some ⟨b, 0, none⟩), .int .i64 n] w fun e w' => e = .returned (.tuple #[]) ∧ (Lib.BuilderAt 288 5 B b (.pointer (some ⟨b, 0, none⟩)) [] w' ∧ Below B w w') := Any.Builder_grow_fresh Tryz.lays241 Tryz.Builder_Extra_241 B b n w hB hbk hBw hn
def Tryz.lays165_ren : Go.Shelf.Ren := ⟨fun | 165 => 232 | 240 => 270 | 241 => 271 | 276 => 292 | 277 => 293 | n => n, fun | 70 => 286 | 3 => 3 | 0 => 0 | 4 => 4 | 9 => 9 | 20 => 20 | 72 => 288 | 37 => 226 | 164 => 344 | 5 => 5 | n => n, fun | n => n⟩
theorem Tryz.lays165 : Go.Proofs.Lays.n165 Tryz.prog Tryz.lays165_ren := {
  mixed := by kernel_rfl
  f165 := Tryz.func232.trans (congrArg some (by kernel_rfl))
  f240 := Tryz.func270.trans (congrArg some (by kernel_rfl))
  f241 := Tryz.func271.trans (congrArg some (by kernel_rfl))
  f276 := Tryz.func292.trans (congrArg some (by kernel_rfl))
  f277 := Tryz.func293.trans (congrArg some (by kernel_rfl))
  t0 := Tryz.underlying0
  a0 := Tryz.isAgg0
  z0 := Tryz.sizeOf0
  v0 := Tryz.zeroValue0
  t3 := Tryz.underlying3
  a3 := Tryz.isAgg3
  z3 := Tryz.sizeOf3
  v3 := Tryz.zeroValue3
  t4 := Tryz.underlying4
  a4 := Tryz.isAgg4
  z4 := Tryz.sizeOf4
  v4 := Tryz.zeroValue4
  t9 := Tryz.underlying9
  a9 := Tryz.isAgg9
  z9 := Tryz.sizeOf9
  v9 := Tryz.zeroValue9
  t20 := Tryz.underlying20
  a20 := Tryz.isAgg20
  z20 := Tryz.sizeOf20
  v20 := Tryz.zeroValue20
  t37 := Tryz.underlying226
  a37 := Tryz.isAgg226
  z37 := Tryz.sizeOf226
  v37 := Tryz.zeroValue226
  t70 := Tryz.underlying286
  a70 := Tryz.isAgg286
  z70 := Tryz.sizeOf286
  v70 := Tryz.zeroValue286
  t72 := Tryz.underlying288
  a72 := Tryz.isAgg288
  z72 := Tryz.sizeOf288
  v72 := Tryz.zeroValue288
  t164 := Tryz.underlying344
  a164 := Tryz.isAgg344
  z164 := Tryz.sizeOf344
  v164 := Tryz.zeroValue344 }
theorem Tryz.Builder_Extra_165 : Builder.Extra Tryz.prog Tryz.lays165_ren := {
  sizeBuilder := by kernel_rfl
  liesBuilder := by kernel_rfl
  t5 := Tryz.underlying5
  a5 := Tryz.isAgg5
  z5 := Tryz.sizeOf5
  v5 := Tryz.zeroValue5
  infoByte := by kernel_rfl
  cellsByte := by kernel_rfl
  sizeByte := by kernel_rfl
  neB5 := by decide }
open Go.RowKit in

theorem Tryz.Builder_Grow_fresh (B b n : Nat) (w : World) (hB : B ≤ b) (hbk : w.heap[b]? = some (.cells #[.pointer none, .slice none 0 0] 288 (0, 0))) (hBw : B ≤ w.heap.size) (hn : n ≤ 281474976710656) :
    Calls Tryz.prog 232 #[.pointer (some ⟨b, 0, none⟩), .int .i64 n] w fun e w' => e = .returned (.tuple #[]) ∧ (Lib.BuilderAt 288 5 B b (.pointer (some ⟨b, 0, none⟩)) [] w' ∧ Below B w w') := Any.Builder_Grow_fresh Tryz.lays165 Tryz.Builder_Extra_165 B b n w hB hbk hBw hn
def Tryz.lays156_ren : Go.Shelf.Ren := ⟨fun | 156 => 203 | 165 => 232 | 166 => 233 | 169 => 234 | 240 => 270 | 241 => 271 | 276 => 292 | 277 => 293 | n => n, fun | 31 => 237 | 9 => 9 | 3 => 3 | 4 => 4 | 0 => 0 | 20 => 20 | 72 => 288 | 76 => 292 | 70 => 286 | 37 => 226 | 75 => 291 | 127 => 324 | 164 => 344 | 5 => 5 | 80 => 294 | n => n, fun | n => n⟩
theorem Tryz.lays156 : Go.Proofs.Lays.n156 Tryz.prog Tryz.lays156_ren := {
  mixed := by kernel_rfl
  f156 := Tryz.func203.trans (congrArg some (by kernel_rfl))
  f165 := Tryz.func232.trans (congrArg some (by kernel_rfl))
  f166 := Tryz.func233.trans (congrArg some (by kernel_rfl))
  f169 := Tryz.func234.trans (congrArg some (by kernel_rfl))
  f240 := Tryz.func270.trans (congrArg some (by kernel_rfl))
  f241 := Tryz.func271.trans (congrArg some (by kernel_rfl))
  f276 := Tryz.func292.trans (congrArg some (by kernel_rfl))
  f277 := Tryz.func293.trans (congrArg some (by kernel_rfl))
  t0 := Tryz.underlying0
  a0 := Tryz.isAgg0
  z0 := Tryz.sizeOf0
  v0 := Tryz.zeroValue0
  t3 := Tryz.underlying3
  a3 := Tryz.isAgg3
  z3 := Tryz.sizeOf3
  v3 := Tryz.zeroValue3
  t4 := Tryz.underlying4
  a4 := Tryz.isAgg4
  z4 := Tryz.sizeOf4
  v4 := Tryz.zeroValue4
  t9 := Tryz.underlying9
  a9 := Tryz.isAgg9
  z9 := Tryz.sizeOf9
  v9 := Tryz.zeroValue9
  t20 := Tryz.underlying20
  a20 := Tryz.isAgg20
  z20 := Tryz.sizeOf20
  v20 := Tryz.zeroValue20
  t31 := Tryz.underlying237
  a31 := Tryz.isAgg237
  z31 := Tryz.sizeOf237
  v31 := Tryz.zeroValue237
  t37 := Tryz.underlying226
  a37 := Tryz.isAgg226
  z37 := Tryz.sizeOf226
  v37 := Tryz.zeroValue226
  t70 := Tryz.underlying286
  a70 := Tryz.isAgg286
  z70 := Tryz.sizeOf286
  v70 := Tryz.zeroValue286
  t72 := Tryz.underlying288
  a72 := Tryz.isAgg288
  z72 := Tryz.sizeOf288
  v72 := Tryz.zeroValue288
  t75 := Tryz.underlying291
  a75 := Tryz.isAgg291
  z75 := Tryz.sizeOf291
  v75 := Tryz.zeroValue291
  t76 := Tryz.underlying292
  a76 := Tryz.isAgg292
  z76 := Tryz.sizeOf292
  v76 := Tryz.zeroValue292
  t127 := Tryz.underlying324
  a127 := Tryz.isAgg324
  z127 := Tryz.sizeOf324
  v127 := Tryz.zeroValue324
  t164 := Tryz.underlying344
  a164 := Tryz.isAgg344
  z164 := Tryz.sizeOf344
  v164 := Tryz.zeroValue344 }
theorem Tryz.Builder_Extra_156 : Builder.Extra Tryz.prog Tryz.lays156_ren := {
  sizeBuilder := by kernel_rfl
  liesBuilder := by kernel_rfl
  t5 := Tryz.underlying5
  a5 := Tryz.isAgg5
  z5 := Tryz.sizeOf5
  v5 := Tryz.zeroValue5
  infoByte := by kernel_rfl
  cellsByte := by kernel_rfl
  sizeByte := by kernel_rfl
  neB5 := by decide }
open Go.RowKit in

theorem Tryz.strings_Join_none (a : Option Addr) (c : Nat) (sep : ByteArray) (w : World) :
    Calls Tryz.prog 203 #[.slice a 0 c, .string sep] w fun e w' => e = .returned (.string ⟨#[]⟩) ∧ w' = w := Any.strings_Join_none Tryz.lays156 Tryz.Builder_Extra_156 a c sep w
open Go.RowKit in

theorem Tryz.strings_Join (bk o c : Nat) (xs : List ByteArray) (sep : ByteArray) (w : World) (hcells : ∀ (j : Nat) x, xs[j]? = some x → w.cell? ⟨bk, o + j, none⟩ = some (.string x)) (hbk : bk < w.heap.size) (hN : xs.length ≤ 140737488355328) (hcap : xs.length ≤ c) (hlen : (Lib.join (xs.map (·.data.toList)) sep.data.toList).length ≤ 140737488355328) :
    Calls Tryz.prog 203 #[.slice (some ⟨bk, o, none⟩) xs.length c, .string sep] w fun e w' => e = .returned (.string ⟨(Lib.join (xs.map (·.data.toList)) sep.data.toList).toArray⟩) ∧ Below w.heap.size w w' := Any.strings_Join Tryz.lays156 Tryz.Builder_Extra_156 bk o c xs sep w hcells hbk hN hcap hlen
def Tryz.lays128_ren : Go.Shelf.Ren := ⟨fun | 128 => 246 | n => n, fun | 51 => 180 | 3 => 3 | 4 => 4 | 46 => 267 | 5 => 5 | 9 => 9 | n => n, fun | n => n⟩
theorem Tryz.lays128 : Go.Proofs.Lays.n128 Tryz.prog Tryz.lays128_ren := {
  mixed := by kernel_rfl
  f128 := Tryz.func246.trans (congrArg some (by kernel_rfl))
  t3 := Tryz.underlying3
  a3 := Tryz.isAgg3
  z3 := Tryz.sizeOf3
  v3 := Tryz.zeroValue3
  t4 := Tryz.underlying4
  a4 := Tryz.isAgg4
  z4 := Tryz.sizeOf4
  v4 := Tryz.zeroValue4
  t5 := Tryz.underlying5
  a5 := Tryz.isAgg5
  z5 := Tryz.sizeOf5
  v5 := Tryz.zeroValue5
  t9 := Tryz.underlying9
  a9 := Tryz.isAgg9
  z9 := Tryz.sizeOf9
  v9 := Tryz.zeroValue9
  t46 := Tryz.underlying267
  a46 := Tryz.isAgg267
  z46 := Tryz.sizeOf267
  v46 := Tryz.zeroValue267
  t51 := Tryz.underlying180
  a51 := Tryz.isAgg180
  z51 := Tryz.sizeOf180
  v51 := Tryz.zeroValue180 }

theorem Tryz.bits_Len32 (x : Int) (w : World) (h0 : 0 ≤ x) (h1 : x ≤ 4294967295) :
    Calls Tryz.prog 246 #[.int .u32 x] w fun e w' => e = .returned (.int .i64 (Lib.bitLen x.toNat)) ∧ w' = w := Any.bits_Len32 Tryz.lays128 x w h0 h1
def Tryz.lays125_ren : Go.Shelf.Ren := ⟨fun | 125 => 209 | 128 => 246 | 129 => 247 | n => n, fun | 46 => 267 | 3 => 3 | 51 => 180 | 53 => 23 | 4 => 4 | 5 => 5 | 9 => 9 | n => n, fun | n => n⟩
theorem Tryz.lays125 : Go.Proofs.Lays.n125 Tryz.prog Tryz.lays125_ren := {
  mixed := by kernel_rfl
  f125 := Tryz.func209.trans (congrArg some (by kernel_rfl))
  f128 := Tryz.func246.trans (congrArg some (by kernel_rfl))
  f129 := Tryz.func247.trans (congrArg some (by kernel_rfl))
  t3 := Tryz.underlying3
  a3 := Tryz.isAgg3
  z3 := Tryz.sizeOf3
  v3 := Tryz.zeroValue3
  t4 := Tryz.underlying4
  a4 := Tryz.isAgg4
  z4 := Tryz.sizeOf4
  v4 := Tryz.zeroValue4
  t5 := Tryz.underlying5
  a5 := Tryz.isAgg5
  z5 := Tryz.sizeOf5
  v5 := Tryz.zeroValue5
  t9 := Tryz.underlying9
  a9 := Tryz.isAgg9
  z9 := Tryz.sizeOf9
  v9 := Tryz.zeroValue9
  t46 := Tryz.underlying267
  a46 := Tryz.isAgg267
  z46 := Tryz.sizeOf267
  v46 := Tryz.zeroValue267
  t51 := Tryz.underlying180
  a51 := Tryz.isAgg180
  z51 := Tryz.sizeOf180
  v51 := Tryz.zeroValue180
  t53 := Tryz.underlying23
  a53 := Tryz.isAgg23
  z53 := Tryz.sizeOf23
  v53 := Tryz.zeroValue23 }

theorem Tryz.bits_Len (x : Int) (w : World) (h0 : 0 ≤ x) (h1 : x ≤ 18446744073709551615) :
    Calls Tryz.prog 209 #[.int .u64 x] w fun e w' => e = .returned (.int .i64 (Lib.bitLen x.toNat)) ∧ w' = w := Any.bits_Len Tryz.lays125 x w h0 h1
def Tryz.lays215_ren : Go.Shelf.Ren := ⟨fun | 215 => 235 | n => n, fun | 3 => 3 | 4 => 4 | n => n, fun | n => n⟩
theorem Tryz.lays215 : Go.Proofs.Lays.n215 Tryz.prog Tryz.lays215_ren := {
  mixed := by kernel_rfl
  f215 := Tryz.func235.trans (congrArg some (by kernel_rfl))
  t3 := Tryz.underlying3
  a3 := Tryz.isAgg3
  z3 := Tryz.sizeOf3
  v3 := Tryz.zeroValue3
  t4 := Tryz.underlying4
  a4 := Tryz.isAgg4
  z4 := Tryz.sizeOf4
  v4 := Tryz.zeroValue4 }
open Go.RowKit in

theorem Tryz.cmp_isNaN_int (x : Int) (w : World) :
    Calls Tryz.prog 235 #[.int .i64 x] w fun e w' => e = .returned (.bool false) ∧ w' = w := Any.cmp_isNaN_int Tryz.lays215 x w
def Tryz.lays122_ren : Go.Shelf.Ren := ⟨fun | 122 => 205 | 215 => 235 | n => n, fun | 3 => 3 | 4 => 4 | n => n, fun | n => n⟩
theorem Tryz.lays122 : Go.Proofs.Lays.n122 Tryz.prog Tryz.lays122_ren := {
  mixed := by kernel_rfl
  f122 := Tryz.func205.trans (congrArg some (by kernel_rfl))
  f215 := Tryz.func235.trans (congrArg some (by kernel_rfl))
  t3 := Tryz.underlying3
  a3 := Tryz.isAgg3
  z3 := Tryz.sizeOf3
  v3 := Tryz.zeroValue3
  t4 := Tryz.underlying4
  a4 := Tryz.isAgg4
  z4 := Tryz.sizeOf4
  v4 := Tryz.zeroValue4 }
open Go.RowKit in

theorem Tryz.cmp_Compare_int (x y : Int) (w : World) :
    Calls Tryz.prog 205 #[.int .i64 x, .int .i64 y] w fun e w' => e = .returned (.int .i64 (Lib.compareInt x y)) ∧ w' = w := Any.cmp_Compare_int Tryz.lays122 x y w
open Go.RowKit in

theorem Tryz.Builder_String_f (B b : Nat) (l : List UInt8) (w : World) (h : Lib.IsBuilderF 288 5 B b (Lib.byteCells l) w) (h0 : l ≠ []) :
    Calls Tryz.prog 234 #[.pointer (some ⟨b, 0, none⟩)] w fun e w' => e = .returned (.string ⟨l.toArray⟩) ∧ (Lib.IsBuilderF 288 5 B b (Lib.byteCells l) w' ∧ Below B w w') := Any.Builder_String_f Tryz.lays169 Tryz.Builder_Extra_169 B b l w h h0
open Go.RowKit in

theorem Tryz.Builder_String_empty_f (B b : Nat) (w : World) (h : Lib.IsBuilderF 288 5 B b [] w) (hBw : B ≤ w.heap.size) :
    Calls Tryz.prog 234 #[.pointer (some ⟨b, 0, none⟩)] w fun e w' => e = .returned (.string ⟨#[]⟩) ∧ (Lib.IsBuilderF 288 5 B b [] w' ∧ Below B w w') := Any.Builder_String_empty_f Tryz.lays169 Tryz.Builder_Extra_169 B b w h hBw
open Go.RowKit in

theorem Tryz.Builder_String_any_f (B b : Nat) (l : List UInt8) (w : World) (h : Lib.IsBuilderF 288 5 B b (Lib.byteCells l) w) (hBw : B ≤ w.heap.size) :
    Calls Tryz.prog 234 #[.pointer (some ⟨b, 0, none⟩)] w fun e w' => e = .returned (.string ⟨l.toArray⟩) ∧ (Lib.IsBuilderF 288 5 B b (Lib.byteCells l) w' ∧ Below B w w') := Any.Builder_String_any_f Tryz.lays169 Tryz.Builder_Extra_169 B b l w h hBw
open Go.RowKit in

theorem Tryz.Builder_String_k (B b : Nat) (l : List UInt8) (w : World) (h : Lib.IsBuilderF 288 5 B b (Lib.byteCells l) w) (h0 : l ≠ []) :
    Calls Tryz.prog 234 #[.pointer (some ⟨b, 0, none⟩)] w fun e w' => e = .returned (.string ⟨l.toArray⟩) ∧ (Lib.IsBuilderF 288 5 B b (Lib.byteCells l) w' ∧ Below B w w' ∧ Lib.OthersKept 5 (some b) w w') := Any.Builder_String_k Tryz.lays169 Tryz.Builder_Extra_169 B b l w h h0
open Go.RowKit in

theorem Tryz.Builder_String_empty_k (B b : Nat) (w : World) (h : Lib.IsBuilderF 288 5 B b [] w) (hBw : B ≤ w.heap.size) :
    Calls Tryz.prog 234 #[.pointer (some ⟨b, 0, none⟩)] w fun e w' => e = .returned (.string ⟨#[]⟩) ∧ (Lib.IsBuilderF 288 5 B b [] w' ∧ Below B w w' ∧ Lib.OthersKept 5 (some b) w w') := Any.Builder_String_empty_k Tryz.lays169 Tryz.Builder_Extra_169 B b w h hBw
open Go.RowKit in

theorem Tryz.Builder_String_any_k (B b : Nat) (l : List UInt8) (w : World) (h : Lib.IsBuilderF 288 5 B b (Lib.byteCells l) w) (hBw : B ≤ w.heap.size) :
    Calls Tryz.prog 234 #[.pointer (some ⟨b, 0, none⟩)] w fun e w' => e = .returned (.string ⟨l.toArray⟩) ∧ (Lib.IsBuilderF 288 5 B b (Lib.byteCells l) w' ∧ Below B w w' ∧ Lib.OthersKept 5 (some b) w w') := Any.Builder_String_any_k Tryz.lays169 Tryz.Builder_Extra_169 B b l w h hBw
open Go.RowKit in

theorem Tryz.Builder_grow_fresh_cap (B b n : Nat) (w : World) (hB : B ≤ b) (hbk : w.heap[b]? = some (.cells #[.pointer (some ⟨b, 0, none⟩), .slice none 0 0] 288 (0, 0))) (hBw : B ≤ w.heap.size) (hn : n ≤ 281474976710656) :
    Calls Tryz.prog 271 #[.pointer (some ⟨b, 0, none⟩), .int .i64 n] w fun e w' => e = .returned (.tuple #[]) ∧ (Lib.BuilderAt 288 5 B b (.pointer (some ⟨b, 0, none⟩)) [] w' ∧ Below B w w') ∧ ∃ p cap, w'.cell? ⟨b, 1, none⟩ = some (.slice p 0 cap) ∧ n ≤ cap := Any.Builder_grow_fresh_cap Tryz.lays241 Tryz.Builder_Extra_241 B b n w hB hbk hBw hn
open Go.RowKit in

theorem Tryz.Builder_Grow_fresh_cap (B b n : Nat) (w : World) (hB : B ≤ b) (hbk : w.heap[b]? = some (.cells #[.pointer none, .slice none 0 0] 288 (0, 0))) (hBw : B ≤ w.heap.size) (hn : n ≤ 281474976710656) :
    Calls Tryz.prog 232 #[.pointer (some ⟨b, 0, none⟩), .int .i64 n] w fun e w' => e = .returned (.tuple #[]) ∧ (Lib.BuilderAt 288 5 B b (.pointer (some ⟨b, 0, none⟩)) [] w' ∧ Below B w w') ∧ ∃ p cap, w'.cell? ⟨b, 1, none⟩ = some (.slice p 0 cap) ∧ n ≤ cap := Any.Builder_Grow_fresh_cap Tryz.lays165 Tryz.Builder_Extra_165 B b n w hB hbk hBw hn
def Tryz.lays129_ren : Go.Shelf.Ren := ⟨fun | 129 => 247 | n => n, fun | 53 => 23 | 3 => 3 | 4 => 4 | 46 => 267 | 5 => 5 | 9 => 9 | n => n, fun | n => n⟩
theorem Tryz.lays129 : Go.Proofs.Lays.n129 Tryz.prog Tryz.lays129_ren := {
  mixed := by kernel_rfl
  f129 := Tryz.func247.trans (congrArg some (by kernel_rfl))
  t3 := Tryz.underlying3
  a3 := Tryz.isAgg3
  z3 := Tryz.sizeOf3
  v3 := Tryz.zeroValue3
  t4 := Tryz.underlying4
  a4 := Tryz.isAgg4
  z4 := Tryz.sizeOf4
  v4 := Tryz.zeroValue4
  t5 := Tryz.underlying5
  a5 := Tryz.isAgg5
  z5 := Tryz.sizeOf5
  v5 := Tryz.zeroValue5
  t9 := Tryz.underlying9
  a9 := Tryz.isAgg9
  z9 := Tryz.sizeOf9
  v9 := Tryz.zeroValue9
  t46 := Tryz.underlying267
  a46 := Tryz.isAgg267
  z46 := Tryz.sizeOf267
  v46 := Tryz.zeroValue267
  t53 := Tryz.underlying23
  a53 := Tryz.isAgg23
  z53 := Tryz.sizeOf23
  v53 := Tryz.zeroValue23 }

theorem Tryz.bits_Len64 (x : Int) (w : World) (h0 : 0 ≤ x) (h1 : x ≤ 18446744073709551615) :
    Calls Tryz.prog 247 #[.int .u64 x] w fun e w' => e = .returned (.int .i64 (Lib.bitLen x.toNat)) ∧ w' = w := Any.bits_Len64 Tryz.lays129 x w h0 h1
def Tryz.lays317_ren : Go.Shelf.Ren := ⟨fun | 317 => 288 | n => n, fun | 3 => 3 | 46 => 267 | n => n, fun | n => n⟩
theorem Tryz.lays317 : Go.Proofs.Lays.n317 Tryz.prog Tryz.lays317_ren := {
  mixed := by kernel_rfl
  f317 := Tryz.func288.trans (congrArg some (by kernel_rfl))
  t3 := Tryz.underlying3
  a3 := Tryz.isAgg3
  z3 := Tryz.sizeOf3
  v3 := Tryz.zeroValue3
  t46 := Tryz.underlying267
  a46 := Tryz.isAgg267
  z46 := Tryz.sizeOf267
  v46 := Tryz.zeroValue267 }
open Go.Lib in

theorem Tryz.internal_strconv_log10Pow2 (x : Nat) (h : x ≤ 64) (w : World) :
    Calls Tryz.prog 288 #[.int .i64 x] w fun e w' => e = .returned (.int .i64 (Lib.l10 x)) ∧ w' = w := Any.internal_strconv_log10Pow2 Tryz.lays317 x h w
def Tryz.lays318_ren : Go.Shelf.Ren := ⟨fun | 318 => 289 | n => n, fun | 3 => 3 | 4 => 4 | n => n, fun | n => n⟩
theorem Tryz.lays318 : Go.Proofs.Lays.n318 Tryz.prog Tryz.lays318_ren := {
  mixed := by kernel_rfl
  f318 := Tryz.func289.trans (congrArg some (by kernel_rfl))
  t3 := Tryz.underlying3
  a3 := Tryz.isAgg3
  z3 := Tryz.sizeOf3
  v3 := Tryz.zeroValue3
  t4 := Tryz.underlying4
  a4 := Tryz.isAgg4
  z4 := Tryz.sizeOf4
  v4 := Tryz.zeroValue4 }
open Go.Lib in

theorem Tryz.internal_strconv_bool2_int (b : Bool) (w : World) :
    Calls Tryz.prog 289 #[.bool b] w fun e w' => e = .returned (.int .i64 (if b then 1 else 0)) ∧ w' = w := Any.internal_strconv_bool2_int Tryz.lays318 b w
def Tryz.lays283_ren : Go.Shelf.Ren := ⟨fun | 283 => 266 | n => n, fun | 3 => 3 | 9 => 9 | 4 => 4 | n => n, fun | n => n⟩
theorem Tryz.lays283 : Go.Proofs.Lays.n283 Tryz.prog Tryz.lays283_ren := {
  mixed := by kernel_rfl
  f283 := Tryz.func266.trans (congrArg some (by kernel_rfl))
  t3 := Tryz.underlying3
  a3 := Tryz.isAgg3
  z3 := Tryz.sizeOf3
  v3 := Tryz.zeroValue3
  t4 := Tryz.underlying4
  a4 := Tryz.isAgg4
  z4 := Tryz.sizeOf4
  v4 := Tryz.zeroValue4
  t9 := Tryz.underlying9
  a9 := Tryz.isAgg9
  z9 := Tryz.sizeOf9
  v9 := Tryz.zeroValue9 }
open Go.Lib in

theorem Tryz.internal_strconv_small (i : Nat) (h : i < 100) (w : World) :
    Calls Tryz.prog 266 #[.int .i64 i] w fun e w' => e = .returned (.string ⟨(Lib.decDigits i).toArray⟩) ∧ w' = w := Any.internal_strconv_small Tryz.lays283 i h w
def Tryz.laysM284_ren : Go.Shelf.Ren := ⟨fun | 284 => 267 | 129 => 247 | 317 => 288 | 318 => 289 | n => n, fun | 53 => 23 | 3 => 3 | 212 => 342 | 0 => 0 | 4 => 4 | 46 => 267 | 5 => 5 | 9 => 9 | n => n, fun | 17 => 2 | n => n⟩
theorem Tryz.laysM284 : Go.Proofs.LaysM.n284 Tryz.prog Tryz.laysM284_ren := {
  mixed := by kernel_rfl
  f129 := Tryz.func247.trans (congrArg some (by kernel_rfl))
  f284 := Tryz.func267.trans (congrArg some (by kernel_rfl))
  f317 := Tryz.func288.trans (congrArg some (by kernel_rfl))
  f318 := Tryz.func289.trans (congrArg some (by kernel_rfl))
  t0 := Tryz.underlying0
  a0 := Tryz.isAgg0
  z0 := Tryz.sizeOf0
  v0 := Tryz.zeroValue0
  t3 := Tryz.underlying3
  a3 := Tryz.isAgg3
  z3 := Tryz.sizeOf3
  v3 := Tryz.zeroValue3
  t4 := Tryz.underlying4
  a4 := Tryz.isAgg4
  z4 := Tryz.sizeOf4
  v4 := Tryz.zeroValue4
  t5 := Tryz.underlying5
  a5 := Tryz.isAgg5
  z5 := Tryz.sizeOf5
  v5 := Tryz.zeroValue5
  t9 := Tryz.underlying9
  a9 := Tryz.isAgg9
  z9 := Tryz.sizeOf9
  v9 := Tryz.zeroValue9
  t46 := Tryz.underlying267
  a46 := Tryz.isAgg267
  z46 := Tryz.sizeOf267
  v46 := Tryz.zeroValue267
  t53 := Tryz.underlying23
  a53 := Tryz.isAgg23
  z53 := Tryz.sizeOf23
  v53 := Tryz.zeroValue23
  t212 := Tryz.underlying342
  a212 := Tryz.isAgg342
  z212 := Tryz.sizeOf342
  v212 := Tryz.zeroValue342
  g17 := by kernel_rfl
  i0 := by kernel_rfl
  i3 := by kernel_rfl
  i4 := by kernel_rfl
  i5 := by kernel_rfl
  i9 := by kernel_rfl
  i46 := by kernel_rfl
  i53 := by kernel_rfl
  i212 := by kernel_rfl
  m17 := by kernel_rfl }
open Go.Lib in

theorem Tryz.internal_strconv_numDigits (u : Nat) (h1 : 1 ≤ u) (h2 : u < 18446744073709551616) (w : World) (htab : Lib.TabIs Tryz.prog w "internal/strconv.uint64pow10" .u64 Lib.pow10Tab) :
    Calls Tryz.prog 267 #[.int .u64 u] w fun e w' => e = .returned (.int .i64 (Lib.nDigits u)) ∧ w' = w := Any.internal_strconv_numDigits Tryz.laysM284 u h1 h2 w htab
def Tryz.lays285_ren : Go.Shelf.Ren := ⟨fun | 285 => 268 | n => n, fun | 37 => 226 | 53 => 23 | 3 => 3 | 4 => 4 | 51 => 180 | 9 => 9 | 5 => 5 | 0 => 0 | n => n, fun | n => n⟩
theorem Tryz.lays285 : Go.Proofs.Lays.n285 Tryz.prog Tryz.lays285_ren := {
  mixed := by kernel_rfl
  f285 := Tryz.func268.trans (congrArg some (by kernel_rfl))
  t0 := Tryz.underlying0
  a0 := Tryz.isAgg0
  z0 := Tryz.sizeOf0
  v0 := Tryz.zeroValue0
  t3 := Tryz.underlying3
  a3 := Tryz.isAgg3
  z3 := Tryz.sizeOf3
  v3 := Tryz.zeroValue3
  t4 := Tryz.underlying4
  a4 := Tryz.isAgg4
  z4 := Tryz.sizeOf4
  v4 := Tryz.zeroValue4
  t5 := Tryz.underlying5
  a5 := Tryz.isAgg5
  z5 := Tryz.sizeOf5
  v5 := Tryz.zeroValue5
  t9 := Tryz.underlying9
  a9 := Tryz.isAgg9
  z9 := Tryz.sizeOf9
  v9 := Tryz.zeroValue9
  t37 := Tryz.underlying226
  a37 := Tryz.isAgg226
  z37 := Tryz.sizeOf226
  v37 := Tryz.zeroValue226
  t51 := Tryz.underlying180
  a51 := Tryz.isAgg180
  z51 := Tryz.sizeOf180
  v51 := Tryz.zeroValue180
  t53 := Tryz.underlying23
  a53 := Tryz.isAgg23
  z53 := Tryz.sizeOf23
  v53 := Tryz.zeroValue23 }
open Go.RowKit Go.Sort Go.Lib in

theorem Tryz.internal_strconv_formatBase10 (blk off cap : Nat) (u : Nat) (d : Array UInt8) (w : World) (hH : Holds (fun (b : UInt8) => Value.int .u8 (b.toNat : Int)) w blk off d) (hu : u < 10 ^ d.size) (hu64 : u < 18446744073709551616) (hsz : d.size < 4611686018427387904) :
    Calls Tryz.prog 268 #[.slice (some ⟨blk, off, none⟩) d.size cap, .int .u64 u] w fun e w' =>
      e = .returned (.tuple #[]) ∧ ∃ (n v' : Nat) (dk : Array UInt8), w' = (putRow (fun (b : UInt8) => Value.int .u8 (b.toNat : Int)) w blk off dk).drewN n ∧ FmtInv d.size u 0 v' dk := Any.internal_strconv_formatBase10 Tryz.lays285 blk off cap u d w hH hu hu64 hsz
def Tryz.laysNm237_ren : Go.Shelf.Ren := ⟨fun | 37 => 235 | n => n, fun | 3 => 3 | 4 => 4 | n => n, fun | n => n⟩
theorem Tryz.laysNm237 : Go.Proofs.Lays2.n37 Tryz.prog Tryz.laysNm237_ren := {
  mixed := by kernel_rfl
  f37 := Tryz.func235.trans (congrArg some (by kernel_rfl))
  t3 := Tryz.underlying3
  a3 := Tryz.isAgg3
  z3 := Tryz.sizeOf3
  v3 := Tryz.zeroValue3
  t4 := Tryz.underlying4
  a4 := Tryz.isAgg4
  z4 := Tryz.sizeOf4
  v4 := Tryz.zeroValue4 }
open Go.RowKit Go.Lib in

theorem Tryz.cmp_isNaN_int2 (x : Int) (w : World) :
    Calls Tryz.prog 235 #[.int .i64 x] w fun e w' => e = .returned (.bool false) ∧ w' = w := Any.cmp_isNaN_int2 Tryz.laysNm237 x w
def Tryz.laysSlN68_f280_ren : Go.Shelf.Ren := ⟨fun | 68 => 280 | n => n, fun | 23 => 2 | 4 => 4 | n => n, fun | n => n⟩
theorem Tryz.laysSlN68_f280 : Go.Proofs.SlLaysN.n68 Tryz.prog Tryz.laysSlN68_f280_ren := {
  mixed := by kernel_rfl
  f68 := ⟨Tryz.f280.name, by decide, Tryz.func280.trans (congrArg some (by kernel_rfl))⟩
  t4 := Tryz.underlying4
  a4 := Tryz.isAgg4
  z4 := Tryz.sizeOf4
  v4 := Tryz.zeroValue4
  t23 := Tryz.underlying2
  a23 := Tryz.isAgg2
  z23 := Tryz.sizeOf2
  v23 := Tryz.zeroValue2 }
open Go.RowKit Go.Lib in

theorem Tryz.cmp_isNaN_int2_f280 (x : Int) (w : World) :
    Calls Tryz.prog 280 #[.int .i64 x] w fun e w' => e = .returned (.bool false) ∧ w' = w := AnyG.cmp_isNaN_int2 Tryz.laysSlN68_f280 x w
def Tryz.laysSlE041_f184_ren : Go.Shelf.Ren := ⟨fun | 41 => 184 | n => n, fun | 22 => 24 | 23 => 180 | 4 => 4 | n => n, fun | n => n⟩
theorem Tryz.laysSlE041_f184 : Go.Proofs.SlLaysE0.n41 Tryz.prog Tryz.laysSlE041_f184_ren := {
  mixed := by kernel_rfl
  f41 := ⟨Tryz.f184.name, by decide, Tryz.func184.trans (congrArg some (by kernel_rfl))⟩
  t4 := Tryz.underlying4
  a4 := Tryz.isAgg4
  z4 := Tryz.sizeOf4
  v4 := Tryz.zeroValue4
  t22 := Tryz.underlying24
  a22 := Tryz.isAgg24
  z22 := Tryz.sizeOf24
  v22 := Tryz.zeroValue24 }
open Go.RowKit Go.Lib in

theorem Tryz.slices_Clone (i0 : TypeInfo) (z : Value) (size bytes : Nat) (hi : Tryz.prog.info? 180 = some i0) (hz0 : i0.zero = some z) (hz1 : i0.size = size) (hz2 : i0.bytes = bytes) (hzs : z.cells.size = size) (hsz : 0 < size) (z23 : ∀ w, (Go.sizeOf 180).run Tryz.prog w = .ok size w) (b off n c : Nat) (news : List Value) (w : World) (hl : news.length = n * size) (hn : n ≤ maxLen) (hbig : n * bytes ≤ 140737488355328) (hc : ∀ j u, news[j]? = some u → w.cell? ⟨b, off + j, none⟩ = some u) (h1 : ∀ u ∈ news, u.oneCell' = true) :
    Calls Tryz.prog 184 #[.slice (some ⟨b, off, none⟩) n c] w fun e w' => ∃ v', e = .returned v' ∧ w'.ownsRow w.heap.size 180 size v' n news ∧ v' ≠ .slice none 0 0 ∧ Below w.heap.size w w' := AnyE.slices_Clone Tryz.laysSlE041_f184 i0 z size bytes hi hz0 hz1 hz2 hzs hsz z23 b off n c news w hl hn hbig hc h1
open Go.RowKit Go.Lib in

theorem Tryz.slices_Clone_nil (n c : Nat) (w : World) :
    Calls Tryz.prog 184 #[.slice none n c] w fun e w' => e = .returned (.slice none 0 0) ∧ w' = w := AnyE.slices_Clone_nil Tryz.laysSlE041_f184 n c w
end Go.Proofs
namespace Go.Proofs
open Go.Shelf
def Tryz.laysValid_ren : Go.Shelf.Ren := ⟨fun | 196 => 248 | 259 => 278 | n => n, fun | 9 => 9 | 4 => 4 | 3 => 3 | 5 => 5 | 12 => 12 | 119 => 332 | 0 => 0 | 46 => 267 | 139 => 335 | 138 => 334 | 53 => 23 | n => n, fun | 3 => 0 | 4 => 1 | n => n⟩
theorem Tryz.laysValid : Go.Proofs.Lays.n196 Tryz.prog Tryz.laysValid_ren := {
  mixed := by kernel_rfl
  f196 := Tryz.func248.trans (congrArg some (by kernel_rfl))
  f259 := Tryz.func278.trans (congrArg some (by kernel_rfl))
  t0 := Tryz.underlying0
  a0 := Tryz.isAgg0
  z0 := Tryz.sizeOf0
  v0 := Tryz.zeroValue0
  t3 := Tryz.underlying3
  a3 := Tryz.isAgg3
  z3 := Tryz.sizeOf3
  v3 := Tryz.zeroValue3
  t4 := Tryz.underlying4
  a4 := Tryz.isAgg4
  z4 := Tryz.sizeOf4
  v4 := Tryz.zeroValue4
  t5 := Tryz.underlying5
  a5 := Tryz.isAgg5
  z5 := Tryz.sizeOf5
  v5 := Tryz.zeroValue5
  t9 := Tryz.underlying9
  a9 := Tryz.isAgg9
  z9 := Tryz.sizeOf9
  v9 := Tryz.zeroValue9
  t12 := Tryz.underlying12
  a12 := Tryz.isAgg12
  z12 := Tryz.sizeOf12
  v12 := Tryz.zeroValue12
  t46 := Tryz.underlying267
  a46 := Tryz.isAgg267
  z46 := Tryz.sizeOf267
  v46 := Tryz.zeroValue267
  t53 := Tryz.underlying23
  a53 := Tryz.isAgg23
  z53 := Tryz.sizeOf23
  v53 := Tryz.zeroValue23
  t119 := Tryz.underlying332
  a119 := Tryz.isAgg332
  z119 := Tryz.sizeOf332
  t138 := Tryz.underlying334
  a138 := Tryz.isAgg334
  z138 := Tryz.sizeOf334
  v138 := Tryz.zeroValue334
  t139 := Tryz.underlying335
  a139 := Tryz.isAgg335
  z139 := Tryz.sizeOf335
  v139 := Tryz.zeroValue335
  g3 := by kernel_rfl
  g4 := by kernel_rfl }
end Go.Proofs

namespace Go.Proofs.YtdgbkpoickbidaaGreatDoor
open Go.RowKit

set_option maxRecDepth 100000 in
set_option maxHeartbeats 400000 in
theorem format_small (i : Nat) (hi : i < 100) (w : World) :
    Calls Tryz.prog 202 #[.int .u64 i, .int .i64 10] w fun e w' => e = .returned (.string ⟨(Lib.decDigits i).toArray⟩) ∧ Ext w w' := by
  have i0 : IntKind.i64.wrap (i : Int) = i := IntWalk.i64_in _ (by omega)
  have i1 : (i : Int) < 100 := by omega
  go_enter Tryz.func202, Tryz.ntmps202
  go_wp2_with (first | (go_at_call 266; refine (Tryz.internal_strconv_small i hi _).mono ?_; rintro r w1 ⟨rfl, rfl⟩) | go_in)
  refine bodyPost_ret (v := .string ⟨(Lib.decDigits i).toArray⟩) (by simp only [results, Tryz.results202]; go_simp) rfl ?_
  exact ⟨rfl, Ext.refl _⟩

theorem elemStrings : Elem Tryz.prog 237 9 1 16 (.string ⟨#[]⟩) := ⟨by kernel_rfl, by kernel_rfl, by rfl, by omega⟩

/-- the pieces as cells -/
def strs (l : List ByteArray) : List Value := l.map Value.string

theorem join_le (digs : Int → ByteArray) (hsz : ∀ x, (digs x).size ≤ 20) (l : List Int) : (Lib.join ((l.map digs).map (·.data.toList)) [44]).length ≤ 21 * l.length := by
  induction l with
  | nil => simp [Lib.join]
  | cons x r ih =>
    have hx : (digs x).data.toList.length ≤ 20 := by have := hsz x; simpa using this
    cases r with
    | nil => simp only [List.map_cons, List.map_nil, Lib.join_one, List.length_cons, List.length_nil]; omega
    | cons y r =>
      rw [List.map_cons, List.map_cons, Lib.join_length]
      rw [List.map_cons, List.map_cons, Lib.join_length] at ih
      simp only [List.map_cons, List.length_cons, List.length_nil, Lib.lens, List.length_map, List.sum_cons] at ih ⊢
      omega
def printT (digs : Int → ByteArray) (e : Int) (l : List Int) : ByteArray :=
  digs e ++ ⟨#[40]⟩ ++ ⟨(Lib.join ((l.map digs).map (·.data.toList)) [44]).toArray⟩ ++ ⟨#[41]⟩

set_option maxRecDepth 100000 in
set_option maxHeartbeats 1000000 in
theorem print_some (e : Int) (A : Option Addr) (n c : Nat) (l : List Int) (digs : Int → ByteArray) (w : World) (h : Sl w 1 A n c (wds l)) (u : U32 l) (hn : n ≤ 1000) (h0 : 0 < n) (hsz : ∀ x, (digs x).size ≤ 20)
    (HF : Hid (∀ (x : Int) (W : World), Ext w W → x = e ∨ x ∈ l → Calls Tryz.prog 202 #[.int .u64 x, .int .i64 10] W fun r w' => r = .returned (.string (digs x)) ∧ Ext W w')) :
    Calls Tryz.prog 141 #[.agg #[.int .u64 e, .slice A n c]] w fun r w' => r = .returned (.string (printT digs e l)) ∧ Ext w w' := by
  obtain ⟨ad, rfl, _, _⟩ := h.word h0
  have hl := h.wlen
  go_enter Tryz.func141, Tryz.ntmps141
  have q0 : ((n : Int) == 0) = false := by simp; omega
  go_wp2_with (go_at_call 202; refine (HF.out e _ ((Ext.refl w).alloc _) (Or.inl rfl)).mono ?_; rintro r w1 ⟨rfl, x1⟩; have y0 := (Bk.new w 26 #[.int .u64 e, .slice (some ad) n c]).ext x1; have y1 : w1.cell? ⟨w.heap.size, 1, none⟩ = some (.slice (some ad) n c) := y0.cell 1)
  have X1 : Ext w w1 := ((Ext.refl w).alloc _).trans x1
  clear y0 y1 x1
  go_loopw [4, 18] (fun t v wr => ∃ (k : Nat) (A : Option Addr) (c : Nat), k ≤ n ∧ v = .int .i64 k ∧ t = .slice A k c ∧ Ext w1 wr ∧ Own wr w1.heap.size 9 1 A k c (strs ((l.take k).map digs)))
    (fun _ v _ => n - (intOf v).toNat)
  case atStart => exact ⟨0, none, 0, Nat.zero_le _, rfl, rfl, Ext.refl _, by simpa [strs] using Own.nil _ _ _ _⟩
  case round =>
    obtain ⟨k, A, c', hk, rfl, rfl, er, hown⟩ := hrel
    by_cases hlt : k < n
    · obtain ⟨_, he, hc1, _⟩ := (h.ext (X1.trans er)).word hlt
      cases he
      obtain ⟨x, hx⟩ : ∃ x, x = l.getD k 0 := ⟨_, rfl⟩
      have hm : x ∈ l := by rw [hx, List.getD_eq_getElem?_getD, List.getElem?_eq_getElem (show k < l.length by omega)]; exact List.getElem_mem _
      have r1 : 0 ≤ x ∧ x ≤ 4294967295 := u x hm
      rw [← hx] at hc1
      have HX := Lib.hid hx
      clear hx
      have E1 : IntKind.u64.wrap x = x := IntWalk.u64_in _ (by omega)
      have i1 : (k : Int) < (n : Int) := by omega
      go_wp2_with (first | (go_at_call 202; refine (HF.out x _ (X1.trans er) (Or.inr hm)).mono ?_; rintro r w2 ⟨rfl, x2⟩) | (at_builtin; refine wpList_append_gen _ elemStrings w1.heap.size _ _ (by rfl) (by rfl) A k c' _ (by rfl) ((hown.ext x2).alloc _) (some ⟨w2.heap.size, 0, none⟩) 1 1 _ (by rfl) (Sl.one w2 _ _ 1 rfl) (by simp [Value.oneCell']) (by omega) (by omega) (by have := er.size; have := x2.size; simp; omega) ?_; intro A' c2 w3 ho1 hg1 hk1))
      refine ⟨⟨k + 1, A', c2, by omega, by go_num, rfl, ?_, ?_⟩, by simp [intOf]; omega⟩
      · exact ((er.trans x2).alloc _).grown hg1 (fun g hg => hown.lt g hg |>.1)
      · have e1 : strs ((l.take (k + 1)).map digs) = strs ((l.take k).map digs) ++ [.string (digs x)] := by
          rw [take_succ_getD _ _ (by omega), ← HX.out, List.map_append]
          exact List.map_append
        rw [e1]
        exact ho1
    · obtain rfl : k = n := by omega
      obtain ⟨g, rfl, _, hg1, hg2, hcg, _⟩ := hown.form h0
      have hle := hown.le
      have htk : l.take k = l := by rw [← hl]; exact List.take_length
      rw [htk] at hcg
      obtain ⟨J, hJ⟩ : ∃ J, J = Lib.join ((l.map digs).map (·.data.toList)) [44] := ⟨_, rfl⟩
      have hjl : J.length ≤ 21 * l.length := hJ ▸ join_le digs hsz l
      have hsz0 := hsz e
      have CJ : ∀ _ : True, Calls Tryz.prog 203 #[.slice (some ⟨g, 0, none⟩) k c', .string ⟨#[44]⟩] wr fun r w' => r = .returned (.string ⟨J.toArray⟩) ∧ Below wr.heap.size wr w' := by
        intro _
        have := Tryz.strings_Join g 0 c' (l.map digs) ⟨#[44]⟩ wr (fun j x hx => by rw [Nat.zero_add]; exact hcg j _ (by simpa [strs] using hx)) hg2 (by simp; omega) (by simp; omega) (by rw [← show J = _ from hJ]; omega)
        rw [List.length_map, hl] at this
        rw [hJ]
        exact this
      have hPT : printT digs e l = digs e ++ ⟨#[40]⟩ ++ ⟨J.toArray⟩ ++ ⟨#[41]⟩ := by rw [hJ]; rfl
      have HPT := Lib.hid hPT
      clear hJ hPT
      have k1 : ¬ 9223372036854775807 < (digs e).size + 1 := by omega
      have k2 : ¬ 9223372036854775807 < (digs e).size + 1 + J.length := by omega
      have k3 : ¬ 9223372036854775807 < (digs e).size + 1 + J.length + 1 := by omega
      go_wp2_with (go_at_call 203; refine (CJ trivial).mono ?_; rintro r w2 ⟨rfl, x2⟩)
      refine bodyPost_ret (v := .string (digs e ++ ⟨#[40]⟩ ++ ⟨J.toArray⟩ ++ ⟨#[41]⟩)) (by simp only [results, Tryz.results141]; go_simp) rfl ?_
      rw [HPT.out]
      exact ⟨rfl, (X1.trans er).trans x2⟩

set_option maxRecDepth 100000 in
set_option maxHeartbeats 400000 in
theorem print_none (e : Int) (A : Option Addr) (c : Nat) (digs : Int → ByteArray) (w : World)
    (HF : Hid (∀ (x : Int) (W : World), Ext w W → x = e → Calls Tryz.prog 202 #[.int .u64 x, .int .i64 10] W fun r w' => r = .returned (.string (digs x)) ∧ Ext W w')) :
    Calls Tryz.prog 141 #[.agg #[.int .u64 e, .slice A 0 c]] w fun r w' => r = .returned (.string (digs e)) ∧ Ext w w' := by
  go_enter Tryz.func141, Tryz.ntmps141
  go_wp2_with (go_at_call 202; refine (HF.out e _ ((Ext.refl w).alloc _) rfl).mono ?_; rintro r w1 ⟨rfl, x1⟩; have y0 := (Bk.new w 26 #[.int .u64 e, .slice A 0 c]).ext x1; have y1 : w1.cell? ⟨w.heap.size, 1, none⟩ = some (.slice A 0 c) := y0.cell 1)
  refine bodyPost_ret (v := .string (digs e)) (by simp only [results, Tryz.results141]; go_simp) rfl ?_
  exact ⟨rfl, ((Ext.refl w).alloc _).trans x1⟩
end Go.Proofs.YtdgbkpoickbidaaGreatDoor
namespace Go.Proofs.YtdgbkpoickbidaaGreatDoor
open Go.ChangeShapes Go.WideShapes Go.ChangeAt Go.RowKit Go.WideElems Go.Sort

/-- the table of powers of ten stands as it was laid -/
structure Pow (w : World) : Prop where
  pow : ∀ W, Ext w W → Lib.TabIs Tryz.prog W "internal/strconv.uint64pow10" .u64 Lib.pow10Tab
theorem Pow.ext {w w' : World} (h : Pow w) (x : Ext w w') : Pow w' := ⟨fun W y => h.pow W (x.trans y)⟩
theorem pow_is : (Rows.laid_internal_strconv_uint64pow10 : DataW Unit) = Lib.tabData .u64 Lib.pow10Tab := by kernel_rfl
theorem tab_of_reads {P : Program} {W : World} {name : String} {k : IntKind} {zs : List Int} {g : Nat} {t e : TypeId} {n : Nat}
    (hg : P.globalNamed name = some g) (hty : (P.globals[g]?).map (·.type) = some t) (ht : P.underlying t = some (.array n e)) (he : P.underlying e = some (.int k)) (hce : P.cellsOf e = 1) (hct : P.cellsOf t = n)
    (h : Lib.VarReads P W name (Lib.tabData k zs)) : Lib.TabIs P W name k zs := by
  obtain ⟨g', t', cs, fuel, p, hg', ht', hvar, hd⟩ := h
  obtain rfl := Option.some.inj (hg.symm.trans hg')
  obtain rfl := Option.some.inj (hty.symm.trans ht')
  unfold Lib.TabIs
  rw [hvar, ← Lib.cells_of_tab ht he hce hct hd]
theorem pow_of {W : World} {l : List (String × DataW Unit)} (h : laidMet Tryz.prog l W) (h3 : ("internal/strconv.uint64pow10", Rows.laid_internal_strconv_uint64pow10) ∈ l) : Pow W := by
  have a := Lib.laidMet.reads h h3
  rw [pow_is] at a
  have ta : Lib.TabIs Tryz.prog W "internal/strconv.uint64pow10" .u64 Lib.pow10Tab := tab_of_reads (g := 2) (t := 342) (e := 23) (n := 20) (by kernel_rfl) (by kernel_rfl) Tryz.underlying342 Tryz.underlying23 (by kernel_rfl) (by kernel_rfl) a
  exact ⟨fun W' x => Lib.tabBelow_of_tabIs ta W' x⟩

theorem holds_zero0 (w : World) (T : TypeId) (nd : Nat) (hs : nd ≤ 24) : Holds (fun (b : UInt8) => Value.int .u8 (b.toNat : Int)) (w.alloc (.cells Lib.zeros24 T)) w.heap.size 0 (Array.replicate nd (0 : UInt8)) := fun j hj => by
  have hj' : j < nd := by simpa using hj
  refine ⟨?_, World.frozen?_alloc_new _ _ _ _⟩
  rw [World.cell?_alloc_new, Lib.zeros24_at _ (by omega), getElem!_pos _ j hj]
  simp
theorem fin_pos0 (w : World) (o : Obj) (dk : Array UInt8) (k : Nat) : ∃ os, (putRow (fun (b : UInt8) => Value.int .u8 (b.toNat : Int)) (w.alloc o) w.heap.size 0 dk).drewN k = grow (w.drewN k) os := by
  rw [alloc_eq_grow]
  obtain ⟨os', _, e⟩ := putRow_grow_new (fun (b : UInt8) => Value.int .u8 (b.toNat : Int)) w #[o] w.heap.size 0 dk (Nat.le_refl _)
  exact ⟨os', by rw [e]; rfl⟩

set_option maxRecDepth 100000 in
set_option maxHeartbeats 6400000 in
theorem inner_uint (u : Nat) (w : World) (hu1 : 100 ≤ u) (hu64 : u < 18446744073709551616) (htab : Lib.TabIs Tryz.prog w "internal/strconv.uint64pow10" .u64 Lib.pow10Tab) :
    Calls Tryz.prog 231 #[.int .u64 u, .int .i64 10] w fun e w' => e = .returned (.string ⟨(Lib.decDigits u).toArray⟩) ∧ ∃ k os, w' = grow (w.drewN k) os := by
  have hnd20 : Lib.nDigits u ≤ 20 := by have := Lib.numDigits_eq u (by omega) hu64; split at this <;> omega
  have hb3 : Lib.nDigits u ≤ 24 := by omega
  have hal : Tryz.prog.arrayLen 320 = 24 := by simp [Program.arrayLen, Tryz.underlying320]
  have hsl1 : ∀ W, (Instr.sliceAt 320 (.pointer (some ⟨w.heap.size, 0, none⟩)) none (some (.int .i64 (Lib.nDigits u : Int))) none).run Tryz.prog W = .ok (.slice (some ⟨w.heap.size, 0, none⟩) (Lib.nDigits u) 24) W := fun W => by
    rw [run_sliceAt_array_h W 320 ⟨w.heap.size, 0, none⟩ (by simp [Program.arrayLen, Program.elem, Tryz.underlying320]) .i64 (Lib.nDigits u : Int) (by omega) (by rw [hal]; omega)]
    go_simp
  have hH0 := holds_zero0 w 320 (Lib.nDigits u) (by omega)
  have hfmt := Tryz.internal_strconv_formatBase10 w.heap.size 0 24 u (Array.replicate (Lib.nDigits u) 0) (w.alloc (.cells Lib.zeros24 320)) hH0 (by rw [Array.size_replicate]; exact Lib.lt_pow_nDigits u) hu64 (by rw [Array.size_replicate]; omega)
  rw [Array.size_replicate] at hfmt
  have HH0 := Lib.hid hH0
  clear hH0 hal
  go_enter Tryz.func231, Tryz.ntmps231
  go_wp2_with (first
    | (go_at_call 267; go_loud (refine (Tryz.internal_strconv_numDigits u (by omega) hu64 _ (Lib.tabIs_alloc htab _)).mono ?_); rintro e w' ⟨rfl, rfl⟩))
  go_at_call 268
  refine hfmt.mono ?_
  rintro e w' ⟨rfl, k, v', dk, rfl, hF⟩
  have hcv : (convert 226 9 (.slice (some ⟨w.heap.size, 0, none⟩) (Lib.nDigits u) 24)).run Tryz.prog ((putRow (fun (b : UInt8) => Value.int .u8 (b.toNat : Int)) (w.alloc (.cells Lib.zeros24 320)) w.heap.size 0 dk).drewN k) = .ok (.string ⟨(Lib.decDigits u).toArray⟩) ((putRow (fun (b : UInt8) => Value.int .u8 (b.toNat : Int)) (w.alloc (.cells Lib.zeros24 320)) w.heap.size 0 dk).drewN k) := by
    have h := run_convert_bytes_back (P := Tryz.prog) ((putRow (fun (b : UInt8) => Value.int .u8 (b.toNat : Int)) (w.alloc (.cells Lib.zeros24 320)) w.heap.size 0 dk).drewN k) 226 9 5 ⟨w.heap.size, 0, none⟩ 24 (Lib.decDigits u) Tryz.underlying226 Tryz.underlying5 Tryz.underlying9 (fun j hj => by
      rw [Lib.row_is_numeral hF j hj, Lib.add_plain, World.cell?_drewN]
      exact cell?_putRow (fun (b : UInt8) => Value.int .u8 (b.toNat : Int)) _ w.heap.size 0 _ dk HH0.out (by rw [hF.size, Array.size_replicate]) j (by rw [hF.size]; rw [Lib.decDigits_length] at hj; exact hj))
    rw [Lib.decDigits_length] at h
    exact h
  go_wp2
  go_ret
  obtain ⟨os, eo⟩ := fin_pos0 w (.cells Lib.zeros24 320) dk k
  exact ⟨rfl, k, os, eo⟩
set_option maxRecDepth 100000 in
set_option maxHeartbeats 400000 in
theorem inner_small (i : Nat) (hi : i < 100) (w : World) :
    Calls Tryz.prog 231 #[.int .u64 i, .int .i64 10] w fun e w' => e = .returned (.string ⟨(Lib.decDigits i).toArray⟩) ∧ w = w' := by
  have i0 : IntKind.i64.wrap (i : Int) = i := IntWalk.i64_in _ (by omega)
  have i1 : (i : Int) < 100 := by omega
  go_enter Tryz.func231, Tryz.ntmps231
  go_wp2_with (go_at_call 266; refine (Tryz.internal_strconv_small i hi _).mono ?_; rintro r w1 ⟨rfl, rfl⟩)
  go_ret
  exact ⟨rfl, rfl⟩
theorem inner_any (u : Nat) (w : World) (hu64 : u < 18446744073709551616) (G : Pow w) :
    Calls Tryz.prog 231 #[.int .u64 u, .int .i64 10] w fun e w' => e = .returned (.string ⟨(Lib.decDigits u).toArray⟩) ∧ Ext w w' := by
  by_cases h : u < 100
  · exact (inner_small u h w).mono fun _ _ ⟨he, hw⟩ => ⟨he, hw ▸ Ext.refl _⟩
  · exact (inner_uint u w (by omega) hu64 (G.pow w (Ext.refl w))).mono fun _ _ ⟨he, k, os, hw⟩ => ⟨he, hw ▸ Lib.below_grow _ w (Nat.le_refl _) k os⟩
set_option maxRecDepth 100000 in
set_option maxHeartbeats 400000 in
theorem formatUint_any (u : Nat) (w : World) (hu64 : u < 18446744073709551616) (G : Pow w) :
    Calls Tryz.prog 202 #[.int .u64 u, .int .i64 10] w fun e w' => e = .returned (.string ⟨(Lib.decDigits u).toArray⟩) ∧ Ext w w' := by
  have H := Lib.hid hu64
  clear hu64
  go_enter Tryz.func202, Tryz.ntmps202
  go_wp2_with (go_at_call 231; refine (inner_any u _ H.out G).mono ?_; rintro e w1 ⟨rfl, x1⟩)
  go_ret
  exact ⟨rfl, x1⟩
end Go.Proofs.YtdgbkpoickbidaaGreatDoor
namespace Go.Proofs.YtdgbkpoickbidaaGreatDoor

theorem digits_len : ∀ (f u : Nat), u < 10 ^ (f + 1) → (Lib.decDigits u).length ≤ f + 1
  | 0, u, h => by
    unfold Lib.decDigits
    rw [dif_pos (by omega)]
    simp
  | f + 1, u, h => by
    unfold Lib.decDigits
    split
    · simp
    · have := digits_len f (u / 10) (by rw [Nat.pow_succ] at h; omega)
      simp
      omega
end Go.Proofs.YtdgbkpoickbidaaGreatDoor
namespace Go.Proofs.YtdgbkpoickbidaaGreatDoor
open Go.RowKit

/-! ### plain -/
def digB (x : Int) : ByteArray := ⟨(Lib.decDigits x.toNat).toArray⟩
theorem digB_size {x : Int} (h1 : x ≤ 18446744073709551615) : (digB x).size ≤ 20 := by
  have h := digits_len 19 x.toNat (by have : (10 : Nat) ^ 20 = 100000000000000000000 := by decide
                                      omega)
  simpa [digB, ByteArray.size] using h
/-- what the document's Print has behind k counters -/
def prK (e : Int) (l : List Int) : Nat → ByteArray
  | 0 => digB e
  | k + 1 => prK e l k ++ ⟨#[if k = 0 then 40 else 44]⟩ ++ digB (l.getD k 0)
def prT (e : Int) (l : List Int) : ByteArray := if l = [] then digB e else prK e l l.length ++ ⟨#[41]⟩
theorem prK_size {e : Int} {l : List Int} (he : e ≤ 18446744073709551615) (u : U32 l) : ∀ k, (prK e l k).size ≤ 20 + 21 * k
  | 0 => digB_size he
  | k + 1 => by
    have h1 := prK_size he u k
    have h2 := digB_size (x := l.getD k 0) (by have := (u.getD k).2; omega)
    show (prK e l k ++ ⟨#[if k = 0 then 40 else 44]⟩ ++ digB (l.getD k 0)).size ≤ _
    rw [ByteArray.size_append, ByteArray.size_append]
    have : (⟨#[if k = 0 then 40 else 44]⟩ : ByteArray).size = 1 := rfl
    omega
theorem join_snoc (sep : List UInt8) (xs : List (List UInt8)) (x : List UInt8) (h : xs ≠ []) : Lib.join (xs ++ [x]) sep = Lib.join xs sep ++ (sep ++ x) := by
  cases xs with
  | nil => exact absurd rfl h
  | cons y r =>
    rw [List.cons_append, Lib.join_cons, Lib.join_cons]
    unfold Lib.joinTail
    rw [List.map_append, List.flatten_append, List.append_assoc]
    simp
theorem prK_join (e : Int) (l : List Int) : ∀ k, k < l.length → prK e l (k + 1) = digB e ++ ⟨#[40]⟩ ++ ⟨(Lib.join (((l.take (k + 1)).map digB).map (·.data.toList)) [44]).toArray⟩
  | 0, h => by
    have e1 : l.take 1 = [l.getD 0 0] := by
      cases l with
      | nil => simp at h
      | cons a r => rfl
    show digB e ++ ⟨#[40]⟩ ++ digB (l.getD 0 0) = _
    rw [show (0 : Nat) + 1 = 1 from rfl, e1, List.map_cons, List.map_nil, List.map_cons, List.map_nil, Lib.join_one]
  | k + 1, h => by
    have ih := prK_join e l k (by omega)
    have e1 : l.take (k + 1 + 1) = l.take (k + 1) ++ [l.getD (k + 1) 0] := take_succ_getD _ _ h
    have hne : (((l.take (k + 1)).map digB).map (·.data.toList)) ≠ [] := by
      intro h0
      have := congrArg List.length h0
      rw [List.length_map, List.length_map, List.length_take, List.length_nil] at this
      omega
    show prK e l (k + 1) ++ ⟨#[if k + 1 = 0 then 40 else 44]⟩ ++ digB (l.getD (k + 1) 0) = _
    rw [ih, if_neg (by omega), e1, List.map_append, List.map_append, List.map_cons, List.map_nil, List.map_cons, List.map_nil, join_snoc _ _ _ hne]
    generalize Lib.join (((l.take (k + 1)).map digB).map (·.data.toList)) [44] = J
    generalize digB (l.getD (k + 1) 0) = D
    apply ByteArray.ext
    apply Array.toList_inj.1
    simp
theorem prT_is (e : Int) (l : List Int) (h : l ≠ []) : prT e l = printT digB e l := by
  unfold prT printT
  rw [if_neg h]
  obtain ⟨k, hk⟩ : ∃ k, l.length = k + 1 := ⟨l.length - 1, by have := List.length_pos_iff.2 h; omega⟩
  rw [hk, prK_join e l k (by omega), ← hk, List.take_length]

/-! ### the program -/
/-- numbers of 64 bits as they are written; nothing else -/
def digC (x : Int) : ByteArray := if x ≤ 18446744073709551615 then digB x else ⟨#[]⟩
theorem digC_size (x : Int) : (digC x).size ≤ 20 := by
  unfold digC
  split
  · exact digB_size (by assumption)
  · exact Nat.zero_le _
theorem digC_in {x : Int} (h : x ≤ 18446744073709551615) : digC x = digB x := if_pos h
theorem print_any (e : Int) (A : Option Addr) (n c : Nat) (l : List Int) (w : World) (h : Sl w 1 A n c (wds l)) (u : U32 l) (he : 0 ≤ e ∧ e ≤ 18446744073709551615) (hn : n ≤ 1000) (G : Pow w) :
    Calls Tryz.prog 141 #[.agg #[.int .u64 e, .slice A n c]] w fun r w' => r = .returned (.string (prT e l)) ∧ Ext w w' := by
  have hl := h.wlen
  have fm : ∀ (x : Int) (W : World), Ext w W → (0 ≤ x ∧ x ≤ 18446744073709551615) → Calls Tryz.prog 202 #[.int .u64 x, .int .i64 10] W fun r w' => r = .returned (.string (digC x)) ∧ Ext W w' := by
    intro x W X hx
    rw [digC_in hx.2]
    obtain ⟨m, rfl⟩ := Int.eq_ofNat_of_zero_le hx.1
    exact formatUint_any m W (by omega) (G.ext X)
  by_cases h0 : n = 0
  · subst h0
    have hnil : l = [] := List.eq_nil_of_length_eq_zero hl
    have := print_none e A c digC w (Lib.hid fun x W X hx => fm x W X (hx ▸ he))
    rw [digC_in he.2] at this
    subst hnil
    exact this
  · have hne : l ≠ [] := fun h9 => by subst h9; simp at hl; omega
    have := print_some e A n c l digC w h u hn (by omega) digC_size (Lib.hid fun x W X hx => fm x W X (by
      rcases hx with rfl | hx
      · exact he
      · have := u x hx; omega))
    rw [prT_is e l hne]
    have e1 : l.map digC = l.map digB := List.map_congr_left fun x hx => digC_in (by have := u x hx; omega)
    have e2 : printT digC e l = printT digB e l := by unfold printT; rw [e1, digC_in he.2]
    rw [← e2]
    exact this
/-! ### the document -/
end Go.Proofs.YtdgbkpoickbidaaGreatDoor
namespace Go.Proofs.YtdgbkpoickbidaaGreatDoor
open Go.RowKit

theorem digit_val {r : Nat} (h : r < 10) : (UInt8.ofNat (48 + r)).toNat = 48 + r := by
  rw [UInt8.toNat_ofNat']
  omega
def isDig (c : UInt8) : Prop := 48 ≤ c.toNat ∧ c.toNat ≤ 57
theorem digits_fine : ∀ (f u : Nat), u ≤ f → ∀ c ∈ Lib.decDigits u, isDig c
  | f, u, h => by
    intro c hc
    unfold isDig
    unfold Lib.decDigits at hc
    split at hc
    · simp only [List.mem_singleton] at hc
      subst hc
      rw [digit_val (by omega)]
      omega
    · rcases List.mem_append.1 hc with h1 | h1
      · match f, h with
        | 0, h => omega
        | f + 1, h => exact digits_fine f (u / 10) (by omega) c h1
      · simp only [List.mem_singleton] at h1
        subst h1
        rw [digit_val (by omega)]
        omega
def decVal (l : List UInt8) : Nat := l.foldl (fun a c => 10 * a + (c.toNat - 48)) 0
theorem val_digits : ∀ (f u : Nat), u ≤ f → decVal (Lib.decDigits u) = u
  | f, u, h => by
    unfold Lib.decDigits
    split
    · simp only [decVal, List.foldl_cons, List.foldl_nil]
      rw [digit_val (by omega)]
      omega
    · match f, h with
      | 0, h => omega
      | f + 1, h =>
        have ih := val_digits f (u / 10) (by omega)
        unfold decVal at ih ⊢
        rw [List.foldl_append, ih]
        simp only [List.foldl_cons, List.foldl_nil]
        rw [digit_val (by omega)]
        omega
theorem digits_inj {u v : Nat} (h : Lib.decDigits u = Lib.decDigits v) : u = v := by
  rw [← val_digits u u (Nat.le_refl _), ← val_digits v v (Nat.le_refl _), h]
theorem run_inj : ∀ {A B : List UInt8} {c d : UInt8} {x y : List UInt8}, (∀ z ∈ A, isDig z) → (∀ z ∈ B, isDig z) → ¬ isDig c → ¬ isDig d → A ++ c :: x = B ++ d :: y → A = B ∧ c = d ∧ x = y
  | [], [], c, d, x, y, _, _, _, _, h => by injection h with h1 h2; exact ⟨rfl, h1, h2⟩
  | [], b :: B, c, d, x, y, _, hB, hc, _, h => by injection h with h1 _; exact absurd (h1 ▸ hB b (by simp)) hc
  | a :: A, [], c, d, x, y, hA, _, _, hd, h => by injection h with h1 _; exact absurd (h1 ▸ hA a (by simp)) hd
  | a :: A, b :: B, c, d, x, y, hA, hB, hc, hd, h => by
    injection h with h1 h2
    obtain ⟨e1, e2, e3⟩ := run_inj (fun z hz => hA z (List.mem_cons_of_mem _ hz)) (fun z hz => hB z (List.mem_cons_of_mem _ hz)) hc hd h2
    exact ⟨by rw [h1, e1], e2, e3⟩
theorem dec_inj {a b : Int} (ha : 0 ≤ a) (hb : 0 ≤ b) {c d : UInt8} {x y : List UInt8} (hc : ¬ isDig c) (hd : ¬ isDig d) (h : Lib.decDigits a.toNat ++ c :: x = Lib.decDigits b.toNat ++ d :: y) : a = b ∧ c = d ∧ x = y := by
  obtain ⟨e1, e2, e3⟩ := run_inj (digits_fine _ _ (Nat.le_refl _)) (digits_fine _ _ (Nat.le_refl _)) hc hd h
  have := digits_inj e1
  exact ⟨by omega, e2, e3⟩
/-- the counters behind the first -/
def restL : List Int → List UInt8
  | [] => [41, 0]
  | y :: r => 44 :: (Lib.decDigits y.toNat ++ restL r)
theorem nd40 : ¬ isDig 40 := by unfold isDig; decide
theorem nd41 : ¬ isDig 41 := by unfold isDig; decide
theorem nd44 : ¬ isDig 44 := by unfold isDig; decide
theorem nd0 : ¬ isDig 0 := by unfold isDig; decide
theorem rest_head (l : List Int) : ∃ c x, restL l = c :: x ∧ ¬ isDig c := by
  cases l with
  | nil => exact ⟨41, _, rfl, nd41⟩
  | cons y r => exact ⟨44, _, rfl, nd44⟩
theorem rest_inj : ∀ {l m : List Int}, (∀ x ∈ l, 0 ≤ x) → (∀ x ∈ m, 0 ≤ x) → restL l = restL m → l = m
  | [], [], _, _, _ => rfl
  | [], y :: m, _, _, h => by unfold restL at h; injection h with h1 _; exact absurd h1 (by decide)
  | x :: l, [], _, _, h => by unfold restL at h; injection h with h1 _; exact absurd h1 (by decide)
  | x :: l, y :: m, hl, hm, h => by
    rw [restL, restL] at h
    injection h with _ h
    obtain ⟨c, p, e1, nc⟩ := rest_head l
    obtain ⟨d, q, e2, nd⟩ := rest_head m
    rw [e1, e2] at h
    obtain ⟨h1, h2, h3⟩ := dec_inj (hl x (by simp)) (hm y (by simp)) nc nd h
    rw [h1, rest_inj (fun z hz => hl z (List.mem_cons_of_mem _ hz)) (fun z hz => hm z (List.mem_cons_of_mem _ hz)) (by rw [e1, e2, h2, h3])]
theorem tail_rest (r : List Int) : Lib.joinTail [44] ((r.map digB).map (·.data.toList)) ++ [41, 0] = restL r := by
  induction r with
  | nil => rfl
  | cons y r ih =>
    rw [restL, ← ih]
    unfold Lib.joinTail digB
    simp
/-- a time's text, with an end -/
def prL (v : TV) : List UInt8 := match v.2 with | [] => Lib.decDigits v.1.toNat ++ [0] | x :: r => Lib.decDigits v.1.toNat ++ 40 :: (Lib.decDigits x.toNat ++ restL r)
theorem prT_list (v : TV) : (prT v.1 v.2).data.toList ++ [0] = prL v := by
  obtain ⟨e, l⟩ := v
  cases l with
  | nil => simp [prT, prL, digB]
  | cons x r =>
    show (prT e (x :: r)).data.toList ++ [0] = Lib.decDigits e.toNat ++ 40 :: (Lib.decDigits x.toNat ++ restL r)
    rw [prT_is e (x :: r) (by simp)]
    unfold printT
    rw [List.map_cons, List.map_cons, Lib.join_cons, ← tail_rest]
    simp [digB]
theorem prL_inj {v u : TV} (hv : 0 ≤ v.1 ∧ ∀ x ∈ v.2, 0 ≤ x) (hu : 0 ≤ u.1 ∧ ∀ x ∈ u.2, 0 ≤ x) (h : prL v = prL u) : v = u := by
  obtain ⟨e, l⟩ := v
  obtain ⟨f, m⟩ := u
  unfold prL at h
  cases l with
  | nil =>
    cases m with
    | nil =>
      have h1 := (dec_inj hv.1 hu.1 nd0 nd0 h).1
      simp only at h1
      rw [h1]
    | cons y m => exact absurd (dec_inj hv.1 hu.1 nd0 nd40 h).2.1 (by decide)
  | cons x l =>
    cases m with
    | nil => exact absurd (dec_inj hv.1 hu.1 nd40 nd0 h).2.1 (by decide)
    | cons y m =>
      obtain ⟨h1, _, h3⟩ := dec_inj hv.1 hu.1 nd40 nd40 h
      obtain ⟨c, p, e1, nc⟩ := rest_head l
      obtain ⟨d, q, e2, nd⟩ := rest_head m
      rw [e1, e2] at h3
      obtain ⟨k1, k2, k3⟩ := dec_inj (hv.2 x (by simp)) (hu.2 y (by simp)) nc nd h3
      have := rest_inj (fun z hz => hv.2 z (List.mem_cons_of_mem _ hz)) (fun z hz => hu.2 z (List.mem_cons_of_mem _ hz)) (show restL l = restL m by rw [e1, e2, k2, k3])
      simp only at h1
      rw [h1, k1, this]
theorem prT_inj {v u : TV} (hv : 0 ≤ v.1 ∧ ∀ x ∈ v.2, 0 ≤ x) (hu : 0 ≤ u.1 ∧ ∀ x ∈ u.2, 0 ≤ x) (h : (prT v.1 v.2).data.toList = (prT u.1 u.2).data.toList) : v = u :=
  prL_inj hv hu (by rw [← prT_list, ← prT_list, h])
end Go.Proofs.YtdgbkpoickbidaaGreatDoor
namespace Go.Proofs.YtdgbkpoickbidaaGreatDoor
open Go.RowKit

/-! ### changes -/
structure Cg where
  t : Tm
  d : Int
def Cg.zero : Cg := ⟨Tm.zero, 0⟩
instance : Inhabited Cg := ⟨Cg.zero⟩
def Cg.cv (x : Cg) : CV := (x.t.v, x.d)
def cgC (x : Cg) : List Value := [.int .u64 x.t.e, .slice x.t.A x.t.l.length x.t.c, .int .i64 x.d]
def cgV (x : Cg) : Value := .agg #[.int .u64 x.t.e, .slice x.t.A x.t.l.length x.t.c, .int .i64 x.d]
def cgsC (L : List Cg) : List Value := L.flatMap cgC
theorem cgsC_len (L : List Cg) : (cgsC L).length = L.length * 3 := by
  unfold cgsC
  induction L with
  | nil => rfl
  | cons d l ih => rw [List.flatMap_cons, List.length_append, ih, List.length_cons, show (cgC d).length = 3 from rfl]; omega
theorem cgsC_at : ∀ (L : List Cg) (i j : Nat), i < L.length → j < 3 → (cgsC L)[i * 3 + j]? = (cgC (L.getD i Cg.zero))[j]?
  | [], i, j, h, _ => absurd h (Nat.not_lt_zero _)
  | d :: l, 0, j, _, hj => by
    unfold cgsC
    rw [List.flatMap_cons, Nat.zero_mul, Nat.zero_add, List.getElem?_append_left (by rw [show (cgC d).length = 3 from rfl]; exact hj)]
    rfl
  | d :: l, i + 1, j, h, hj => by
    unfold cgsC
    rw [List.flatMap_cons, List.getElem?_append_right (by rw [show (cgC d).length = 3 from rfl]; omega), show (i + 1) * 3 + j - (cgC d).length = i * 3 + j by rw [show (cgC d).length = 3 from rfl]; omega]
    exact cgsC_at l i j (Nat.lt_of_succ_lt_succ h) hj
theorem cgsC_append (L M : List Cg) : cgsC (L ++ M) = cgsC L ++ cgsC M := List.flatMap_append
theorem cgsC_one (L : List Cg) : ∀ u ∈ cgsC L, u.oneCell' = true := by
  intro u hu
  obtain ⟨d, _, h⟩ := List.mem_flatMap.1 hu
  simp only [cgC, List.mem_cons, List.not_mem_nil, or_false] at h
  rcases h with rfl | rfl | rfl <;> rfl
theorem own_at3 {w : World} {n c : Nat} {A : Option Addr} {xs : List Value} (h : Sl w 3 A n c xs) {k : Nat} (hk : k < n) {l : List Value} {a b x : Value} (hl : l = [a, b, x]) (hx : ∀ q, q < 3 → xs[k * 3 + q]? = l[q]?) :
    ∃ ad, A = some ad ∧ w.cell? (ad.add (k * 3)) = some a ∧ w.cell? ⟨(ad.add (k * 3)).block, (ad.add (k * 3)).off + 1, none⟩ = some b ∧ w.cell? ⟨(ad.add (k * 3)).block, (ad.add (k * 3)).off + 2, none⟩ = some x := by
  subst hl
  obtain ⟨ad, e, hc⟩ := h.2.2.2.2 (by omega)
  exact ⟨ad, e, hc _ _ (hx 0 (by omega)), by rw [← addr_off _ _ 1 (by omega)]; exact hc _ _ (hx 1 (by omega)), by rw [← addr_off _ _ 2 (by omega)]; exact hc _ _ (hx 2 (by omega))⟩
/-- a list of changes as readings give it -/
structure Cin (w : World) (A : Option Addr) (c : Nat) (L : List Cg) : Prop where
  sl : Sl w 3 A L.length c (cgsC L)
  ls : ∀ x ∈ L, Sl w 1 x.t.A x.t.l.length x.t.c (wds x.t.l)
theorem Cin.ext {w w' : World} {A : Option Addr} {c : Nat} {L : List Cg} (h : Cin w A c L) (x : Ext w w') : Cin w' A c L := ⟨h.sl.ext x, fun y hy => (h.ls y hy).ext x⟩
theorem Cin.nil (w : World) : Cin w none 0 [] := ⟨Sl.nil w 3, fun x hx => (nomatch hx)⟩
theorem Cin.at {w : World} {A : Option Addr} {c : Nat} {L : List Cg} (h : Cin w A c L) {i : Nat} (hi : i < L.length) : ∃ ad, A = some ad ∧ w.cell? (ad.add (i * 3)) = some (.int .u64 (L.getD i Cg.zero).t.e) ∧
    w.cell? ⟨(ad.add (i * 3)).block, (ad.add (i * 3)).off + 1, none⟩ = some (.slice (L.getD i Cg.zero).t.A (L.getD i Cg.zero).t.l.length (L.getD i Cg.zero).t.c) ∧ w.cell? ⟨(ad.add (i * 3)).block, (ad.add (i * 3)).off + 2, none⟩ = some (.int .i64 (L.getD i Cg.zero).d) :=
  own_at3 h.sl hi (show cgC (L.getD i Cg.zero) = [.int .u64 (L.getD i Cg.zero).t.e, .slice (L.getD i Cg.zero).t.A (L.getD i Cg.zero).t.l.length (L.getD i Cg.zero).t.c, .int .i64 (L.getD i Cg.zero).d] from rfl) (fun q hq => cgsC_at L i q hi hq)
theorem getG_mem {L : List Cg} {i : Nat} (h : i < L.length) : L.getD i Cg.zero ∈ L := by
  rw [List.getD_eq_getElem?_getD, List.getElem?_eq_getElem h]
  exact List.getElem_mem h
theorem getG_cv {L : List Cg} {i : Nat} (h : i < L.length) : ∃ h2 : i < (L.map Cg.cv).length, (L.map Cg.cv)[i] = (L.getD i Cg.zero).cv := ⟨by rw [List.length_map]; exact h, by
  rw [List.getElem_map, List.getD_eq_getElem?_getD, List.getElem?_eq_getElem h]
  rfl⟩
theorem elemChg : Elem Tryz.prog 58 60 3 40 (.agg #[.int .u64 0, .slice none 0 0, .int .i64 0]) := ⟨by kernel_rfl, by kernel_rfl, rfl, by decide⟩

/-! ### the map -/
/-- a value told as it is -/
def tok (v : Value) : Option (DataW Value × List MemPlace) := some (.held v, [])
def keyT (v : TV) : Lit := .string (prT v.1 v.2).data.toList
/-- a time such as readings give: not too many counters -/
structure InV (v : TV) : Prop where
  e : 0 ≤ v.1 ∧ v.1 ≤ 18446744073709551615
  u : U32 v.2
  n : v.2.length ≤ 1000
theorem keyT_inj {v u : TV} (hv : InV v) (hu : InV u) (h : keyT v = keyT u) : v = u := by
  injection h with h
  exact prT_inj ⟨hv.e.1, fun x hx => (hv.u x hx).1⟩ ⟨hu.e.1, fun x hx => (hu.u x hx).1⟩ h
theorem keyedS : Maps.Keyed Tryz.prog 9 := Maps.string_keyed Tryz.underlying9
/-- block b is a map that holds the changes L, each at its time's text; their counters lie in memory -/
structure MapC (w : World) (b n : Nat) (D : DataW Value) (L : List Cg) : Prop where
  own : w.ownsMap Tryz.prog 9 tok b n D
  has : ∀ kl, Maps.has D kl = true ↔ ∃ x ∈ L, keyT x.t.v = kl
  atk : ∀ x ∈ L, ∀ z, D.atKey (keyT x.t.v) z = .held (cgV x)
  keys : KeysC (L.map Cg.cv)
  ls : ∀ x ∈ L, Sl w 1 x.t.A x.t.l.length x.t.c (wds x.t.l)
  inv : ∀ x ∈ L, InV x.t.v
  cnt : L.length ≤ n
section
variable {w w' : World} {b n : Nat} {D : DataW Value} {L : List Cg}
theorem owns_ext (h : w.ownsMap Tryz.prog 9 tok b n D) (x : Ext w w') : w'.ownsMap Tryz.prog 9 tok b n D := by
  have hlt := h.lt
  obtain ⟨es, clock, hb, r⟩ := h
  exact ⟨es, clock, x.heap hb, r⟩
theorem MapC.ext (h : MapC w b n D L) (x : Ext w w') : MapC w' b n D L := ⟨owns_ext h.own x, h.has, h.atk, h.keys, fun y hy => (h.ls y hy).ext x, h.inv, h.cnt⟩
theorem MapC.upd {S : Nat → Prop} (h : MapC w b n D L) (x : Upd S w w') (hb : ¬ S b) (hS : ∀ y ∈ L, ∀ k, blk y.t.A y.t.c = some k → ¬ S k) : MapC w' b n D L := by
  refine ⟨?_, h.has, h.atk, h.keys, fun y hy => (h.ls y hy).upd x (hS y hy), h.inv, h.cnt⟩
  have hlt := h.own.lt
  obtain ⟨es, clock, hb2, r⟩ := h.own
  exact ⟨es, clock, (x.block b hlt hb).trans hb2, r⟩
theorem MapC.new (w : World) : MapC (w.alloc (.map #[] 0)) w.heap.size 0 (.map []) [] :=
  ⟨World.ownsMap_made w _ _ _, fun kl => by simp [Maps.has_eq], fun x hx => (nomatch hx), List.Pairwise.nil, fun x hx => (nomatch hx), fun x hx => (nomatch hx), Nat.le_refl _⟩
theorem keyOf_prT (v : TV) (h : InV v) : keyOf Tryz.prog 9 (.string (prT v.1 v.2)) = some (keyT v) := Go.WideMaps.keyOf_string_mk Tryz.underlying9 (by
  have hp : (prT v.1 v.2).size ≤ 21 + 21 * v.2.length := by
    unfold prT
    split
    · have := digB_size h.e.2; omega
    · rw [ByteArray.size_append]
      have q := prK_size h.e.2 h.u v.2.length
      have : (⟨#[41]⟩ : ByteArray).size = 1 := rfl
      omega
  have := h.n
  unfold maxLen
  omega)
theorem zeroChg (w : World) : (zeroValue 60).run Tryz.prog w = .ok (.agg #[.int .u64 0, .slice none 0 0, .int .i64 0]) w := by kernel_rfl
/-- the change that is told at a time: its own, or nothing -/
def atC (L : List Cg) (v : TV) : Cg := (L.find? fun x => decide (x.t.v = v)).getD Cg.zero
theorem atC_d (L : List Cg) (v : TV) : (atC L v).d = getC (L.map Cg.cv) v := by
  unfold atC getC
  rw [List.find?_map]
  cases h : L.find? fun x => decide (x.t.v = v) with
  | none =>
    have : L.find? ((fun x : CV => decide (x.1 = v)) ∘ Cg.cv) = none := h
    rw [this]; rfl
  | some x =>
    have : L.find? ((fun x : CV => decide (x.1 = v)) ∘ Cg.cv) = some x := h
    rw [this]; rfl
set_option maxRecDepth 100000 in
theorem MapC.look (h : MapC w b n D L) {v : TV} (hv : InV v) : (Instr.lookup 176 (.map (some b)) (.string (prT v.1 v.2)) false).run Tryz.prog w = .ok (cgV (atC L v)) w := by
  obtain ⟨z, ps, hrun, hz⟩ := h.own.lookup keyedS Tryz.underlying176 (zeroChg w) (z := .agg #[.int .u64 0, .slice none 0 0, .int .i64 0]) (zd := .held (.agg #[.int .u64 0, .slice none 0 0, .int .i64 0])) (zp := []) rfl (keyOf_prT v hv)
  rw [hrun]
  have hz1 : (.held z : DataW Value) = D.atKey (keyT v) (.held (.agg #[.int .u64 0, .slice none 0 0, .int .i64 0])) := by
    unfold tok at hz
    injection hz with hz
    exact (Prod.mk.inj hz).1
  have key : z = cgV (atC L v) := by
    unfold atC
    cases hf : L.find? fun x => decide (x.t.v = v) with
    | none =>
      have hn : Maps.has D (keyT v) = false := by
        rw [Bool.eq_false_iff]
        intro q
        obtain ⟨x, hx, e⟩ := (h.has _).1 q
        have e2 := keyT_inj (h.inv x hx) hv e
        have := List.find?_eq_none.1 hf x hx
        simp [e2] at this
      rw [Maps.atKey_of_not_has hn] at hz1
      injection hz1 with hz1
    | some x =>
      have hx := List.mem_of_find?_eq_some hf
      have e := List.find?_some hf
      simp only [decide_eq_true_eq] at e
      rw [← e, h.atk x hx] at hz1
      injection hz1 with hz1
  rw [key]
end
end Go.Proofs.YtdgbkpoickbidaaGreatDoor
namespace Go.Proofs.YtdgbkpoickbidaaGreatDoor
open Go.ChangeShapes Go.WideShapes Go.ChangeAt Go.RowKit Go.WideElems

theorem bulk_one {H : Type} (d : DataW H) : 1 ≤ Rows.uptoBulk d := by
  cases d with
  | lit l => cases l <;> simp [Rows.uptoBulk]
  | nil => simp [Rows.uptoBulk]
  | ptr d => simp [Rows.uptoBulk]
  | slice elems spare => simp [Rows.uptoBulk]
  | agg parts => simp [Rows.uptoBulk]
  | iface t d => simp [Rows.uptoBulk]
  | map entries => simp [Rows.uptoBulk]
  | held h => simp [Rows.uptoBulk]
theorem bulk_part {H : Type} {d : DataW H} : ∀ {l : List (DataW H)}, d ∈ l → Rows.uptoBulk d ≤ Rows.uptoBulkAll l
  | x :: r, h => by
    simp only [Rows.uptoBulkAll]
    rcases List.mem_cons.1 h with rfl | h
    · omega
    · have := bulk_part h
      omega
theorem bulk_len {H : Type} : ∀ l : List (DataW H), l.length ≤ Rows.uptoBulkAll l
  | [] => Nat.zero_le _
  | x :: r => by
    have := bulk_one x
    have := bulk_len r
    simp only [Rows.uptoBulkAll, List.length_cons]
    omega
section
variable {H : Type} {enc : TypeId × Value → H} {W : World}
theorem one_i64g : Tryz.prog.cellsOf 2 = 1 := by kernel_rfl
theorem three_cg : Tryz.prog.cellsOf 60 = 3 := by kernel_rfl
theorem list3 {α : Type} {l : List α} (h : l.length = 3) : ∃ a b c, l = [a, b, c] := by
  match l, h with
  | [a, b, c], _ => exact ⟨a, b, c, rfl⟩
/-- what is known of a change that comes in -/
structure CgIn (x : Cg) : Prop where
  t : TmIn x.t
  d : -9223372036854775808 ≤ x.d ∧ x.d ≤ 9223372036854775807
set_option maxRecDepth 100000 in
theorem come_chgC {fuel : Nat} {cs : List Value} {y : DataW H × List MemPlace} (h : DataW.trod enc Tryz.prog W 0 (fun _ => true) true fuel 60 cs = some y) :
    ∃ x : Cg, cs = cgC x ∧ Sl W 1 x.t.A x.t.l.length x.t.c (wds x.t.l) ∧ CgIn x := by
  obtain ⟨y0, y1, n, _, hl, h0, h1⟩ := Go.ChangeShapes.trod_struct2 Tryz.underlying60 h
  rw [three_cg] at hl
  obtain ⟨c0, c1, c2, rfl⟩ := list3 hl
  have g0 : DataW.trod enc Tryz.prog W 0 (fun _ => true) true n 26 [c0, c1] = some y0 := by
    have : DataW.trod enc Tryz.prog W 0 (fun _ => true) true n 26 (([c0, c1, c2].drop 0).take (Tryz.prog.cellsOf 26)) = some y0 := h0
    rw [two_tm] at this
    exact this
  have g1 : DataW.trod enc Tryz.prog W 0 (fun _ => true) true n 2 [c2] = some y1 := by
    have : DataW.trod enc Tryz.prog W 0 (fun _ => true) true n 2 (([c0, c1, c2].drop (0 + Tryz.prog.cellsOf 26)).take (Tryz.prog.cellsOf 2)) = some y1 := h1
    rw [one_i64g, two_tm] at this
    exact this
  obtain ⟨x, e0, hs, hi⟩ := come_timeC g0
  obtain ⟨k, e1, _, w1⟩ := DataW.trod_int Tryz.underlying2 g1
  obtain rfl : c2 = .int .i64 k := by simpa using e1
  unfold tmC at e0
  injection e0 with e2 e3
  injection e3 with e3
  subst e2 e3
  exact ⟨⟨x, k⟩, rfl, hs, ⟨hi, wf_i64 w1⟩⟩
theorem come_chgsC {fuel : Nat} {cs : List Value} {y : DataW H × List MemPlace} (h : DataW.trod enc Tryz.prog W 0 (fun _ => true) true fuel 58 cs = some y) :
    ∃ A c L, cs = [.slice A (List.length L) c] ∧ Cin W A c L ∧ (∀ x ∈ L, CgIn x) ∧ L.length ≤ Rows.uptoBulk y.1 := by
  rcases Go.Deep.open_slice Tryz.underlying58 h with ⟨hcs, _⟩ | ⟨a, n, c, m, fu, D, Pl, hcs, _, hnc, hcm, hm, hy, hx⟩
  · exact ⟨none, 0, [], hcs, Cin.nil W, fun x hx => (nomatch hx), Nat.zero_le _⟩
  · rw [three_cg] at hx
    have hmn : n ≤ m := by rw [hm]; split <;> omega
    obtain ⟨F, hF⟩ := Go.Deep.choose_lt (α := Cg) (n := n) (p := fun i d => (∀ j, j < 3 → W.cell? (a.add (i * 3 + j)) = (cgC d)[j]?) ∧ Sl W 1 d.t.A d.t.l.length d.t.c (wds d.t.l) ∧ CgIn d) (fun i hi => by
      obtain ⟨cs', h1, h2⟩ := hx i (by omega)
      obtain ⟨_, _, h3⟩ := World.cells?_some h1
      obtain ⟨d, rfl, h4⟩ := come_chgC h2
      exact ⟨d, fun j hj => by rw [← add_add']; exact h3 j hj, h4⟩)
    have hlen : ((List.range n).map F).length = n := by simp
    have hmem : ∀ d ∈ (List.range n).map F, Sl W 1 d.t.A d.t.l.length d.t.c (wds d.t.l) ∧ CgIn d := fun d hd => by
      obtain ⟨i, hi, rfl⟩ := List.mem_map.1 hd
      exact (hF i (List.mem_range.1 hi)).2
    refine ⟨some a, c, (List.range n).map F, by rw [hlen]; exact hcs, ⟨⟨by rw [cgsC_len], by rw [hlen]; exact hnc, hcm, (fun h => nomatch h), fun _ => ⟨a, rfl, fun j u hu => ?_⟩⟩, fun d hd => (hmem d hd).1⟩, fun d hd => (hmem d hd).2, ?_⟩
    · have hj : j < n * 3 := by
        rcases Nat.lt_or_ge j (n * 3) with q | q
        · exact q
        · rw [List.getElem?_eq_none (by rw [cgsC_len, hlen]; exact q)] at hu
          cases hu
      have e : j = j / 3 * 3 + j % 3 := by omega
      rw [e, cgsC_at _ _ _ (by rw [hlen]; omega) (by omega)] at hu
      have e2 : ((List.range n).map F).getD (j / 3) Cg.zero = F (j / 3) := by
        rw [List.getD_eq_getElem?_getD, List.getElem?_map, List.getElem?_range (by omega)]
        rfl
      rw [e2] at hu
      rw [e, (hF (j / 3) (by omega)).1 (j % 3) (by omega)]
      exact hu
    · have := bulk_len ((List.range n).map D)
      rw [List.length_map, List.length_range] at this
      rw [hlen, hy]
      show n ≤ Rows.uptoBulk (DataW.slice ((List.range n).map D) ((List.range (m - n)).map fun j => D (n + j)))
      simp only [Rows.uptoBulk]
      omega
/-- a list of changes, its header -/
structure Gs where
  A : Option Addr
  c : Nat
  L : List Cg
def Gs.zero : Gs := ⟨none, 0, []⟩
instance : Inhabited Gs := ⟨Gs.zero⟩
def gsC (x : Gs) : Value := .slice x.A x.L.length x.c
/-- lists of lists of changes as readings give them -/
structure Gin (w : World) (A : Option Addr) (c : Nat) (M : List Gs) : Prop where
  sl : Sl w 1 A M.length c (M.map gsC)
  ls : ∀ x ∈ M, Cin w x.A x.c x.L
theorem Gin.ext {w w' : World} {A : Option Addr} {c : Nat} {M : List Gs} (h : Gin w A c M) (x : Ext w w') : Gin w' A c M := ⟨h.sl.ext x, fun y hy => (h.ls y hy).ext x⟩
theorem getGs_mem {M : List Gs} {i : Nat} (h : i < M.length) : M.getD i Gs.zero ∈ M := by
  rw [List.getD_eq_getElem?_getD, List.getElem?_eq_getElem h]
  exact List.getElem_mem h
theorem Gin.at {w : World} {A : Option Addr} {c : Nat} {M : List Gs} (h : Gin w A c M) {i : Nat} (hi : i < M.length) : ∃ ad, A = some ad ∧ w.cell? (ad.add i) = some (.slice (M.getD i Gs.zero).A (M.getD i Gs.zero).L.length (M.getD i Gs.zero).c) := by
  obtain ⟨ad, e, hc⟩ := h.sl.2.2.2.2 (by omega)
  refine ⟨ad, e, hc i _ ?_⟩
  rw [List.getElem?_map, List.getD_eq_getElem?_getD, List.getElem?_eq_getElem hi]
  rfl
set_option maxRecDepth 100000 in
theorem come_chgss {base : Nat} {v : Value} {d : DataW H} {p : List MemPlace} (hv : Value.okWide Tryz.prog W .any base 57 v) (h : DataW.Trod enc Tryz.prog W 0 (fun _ => true) true 57 v d p) :
    ∃ A c M, v = .slice A (List.length M) c ∧ Gin W A c M ∧ (∀ x ∈ M, (∀ y ∈ x.L, CgIn y) ∧ x.L.length ≤ Rows.uptoBulk d) ∧ M.length ≤ Rows.uptoBulk d := by
  obtain ⟨fuel, hf⟩ := h
  obtain ⟨A', n', c', rfl⟩ := okWide_slice Tryz.underlying57 hv
  rcases Go.Deep.open_slice1 Tryz.underlying57 (by kernel_rfl) hf with ⟨hcs, _⟩ | ⟨a, n, c, m, fu, V, D, Pl, hcs, _, hnc, hcm, hm, hy, hx⟩
  · have e : (Value.slice A' n' c') = .slice none 0 0 := by injection hcs
    obtain ⟨rfl, rfl, rfl⟩ : A' = none ∧ n' = 0 ∧ c' = 0 := by simpa using e
    exact ⟨none, 0, [], rfl, ⟨Sl.nil W 1, fun x hx => (nomatch hx)⟩, fun x hx => (nomatch hx), Nat.zero_le _⟩
  · have e : (Value.slice A' n' c') = .slice (some a) n c := by injection hcs
    obtain ⟨rfl, rfl, rfl⟩ : A' = some a ∧ n' = n ∧ c' = c := by simpa using e
    have hmn : n' ≤ m := by rw [hm]; split <;> omega
    have e2 : d = DataW.slice ((List.range n').map D) ((List.range (m - n')).map fun j => D (n' + j)) := by injection hy
    obtain ⟨F, hF⟩ := Go.Deep.choose_lt (α := Gs) (n := n') (p := fun i g => V i = gsC g ∧ Cin W g.A g.c g.L ∧ (∀ y ∈ g.L, CgIn y) ∧ g.L.length ≤ Rows.uptoBulk (D i)) (fun i hi => by
      obtain ⟨h1, h2⟩ := hx i (by omega)
      obtain ⟨A, c, L, e, h3, h4, h5⟩ := come_chgsC h2
      exact ⟨⟨A, c, L⟩, by simpa [gsC] using e, h3, h4, h5⟩)
    have hlen : ((List.range n').map F).length = n' := by simp
    have hb : ∀ i, i < n' → Rows.uptoBulk (D i) ≤ Rows.uptoBulk d := fun i hi => by
      have := bulk_part (d := D i) (l := (List.range n').map D) (List.mem_map.2 ⟨i, List.mem_range.2 hi, rfl⟩)
      rw [e2]
      simp only [Rows.uptoBulk]
      omega
    have hmem : ∀ g ∈ (List.range n').map F, Cin W g.A g.c g.L ∧ (∀ y ∈ g.L, CgIn y) ∧ g.L.length ≤ Rows.uptoBulk d := fun g hg => by
      obtain ⟨i, hi, rfl⟩ := List.mem_map.1 hg
      have hi := List.mem_range.1 hi
      exact ⟨(hF i hi).2.1, (hF i hi).2.2.1, Nat.le_trans (hF i hi).2.2.2 (hb i hi)⟩
    refine ⟨some a, c', (List.range n').map F, by rw [hlen], ⟨⟨by simp, by rw [hlen]; exact hnc, hcm, (fun h => nomatch h), fun _ => ⟨a, rfl, fun j u hu => ?_⟩⟩, fun g hg => (hmem g hg).1⟩, fun g hg => (hmem g hg).2, ?_⟩
    · have hj : j < n' := by
        rcases Nat.lt_or_ge j n' with q | q
        · exact q
        · rw [List.getElem?_eq_none (by simp; exact q)] at hu
          cases hu
      have e3 : (((List.range n').map F).map gsC)[j]? = some (gsC (F j)) := by
        rw [List.getElem?_map, List.getElem?_map, List.getElem?_range hj]
        rfl
      rw [e3] at hu
      injection hu with hu
      rw [(hx j (by omega)).1, ← hu, (hF j hj).1]
    · have := bulk_len ((List.range n').map D)
      rw [List.length_map, List.length_range] at this
      rw [hlen, e2]
      simp only [Rows.uptoBulk]
      omega
end
end Go.Proofs.YtdgbkpoickbidaaGreatDoor
namespace Go.Proofs.YtdgbkpoickbidaaGreatDoor
open Go.RowKit

/-- what is asked of the predicate -/
def Pred (g : Nat) (lb : Array Value) (p : Tm → Bool) (L : List Tm) (w : World) : Prop := ∀ (W : World) (x : Tm), x ∈ L → Ext w W → Calls Tryz.prog g #[tmV x, lb[0]!] W fun e w' => e = .returned (.bool (p x)) ∧ Ext W w'
/-- an index, or -1 -/
def IdxOut (p : Tm → Bool) (L : List Tm) (w : World) (e : Ending) (w' : World) : Prop := ∃ r : Int, e = .returned (.int .i64 r) ∧ decide (0 ≤ r) = L.any p ∧ Ext w w'
theorem any_at {L : List Tm} {p : Tm → Bool} {k : Nat} (h : k < L.length) (hp : p (L.getD k Tm.zero) = true) : L.any p = true := List.any_eq_true.2 ⟨_, getT_mem h, hp⟩
theorem any_none {L : List Tm} {p : Tm → Bool} (h : ∀ j, j < L.length → p (L.getD j Tm.zero) = false) : L.any p = false := by
  rw [List.any_eq_false]
  intro x hx
  obtain ⟨j, hj, rfl⟩ := List.getElem_of_mem hx
  have := h j hj
  rw [List.getD_eq_getElem?_getD, List.getElem?_eq_getElem hj] at this
  simpa using this
set_option maxRecDepth 100000 in
set_option maxHeartbeats 2000000 in
theorem index_times (p : Tm → Bool) (g : Nat) (v : Value) (eg : ∀ args w, (callFunc g args).run Tryz.prog w = .ok (.enter g args) w) (AL : Option Addr) (cL m : Nat) (L : List Tm) (w : World) (hm : Hid (m = L.length)) (hL : Hid (Tin w AL cL L)) (hp : Hid (Pred g #[v] p L w)) :
    Calls Tryz.prog 204 #[.slice AL m cL, .func (.func g) #[] #[v]] w (IdxOut p L w) := by
  have hbig : m ≤ 9223372036854775807 := by rw [hm.out]; exact hL.out.sl.le
  go_enter Tryz.func204, Tryz.ntmps204
  go_wp2
  go_loopg [5, 8] m (fun gg _ s8 wr => ∃ kk : Nat, kk ≤ m ∧ m - kk ≤ gg ∧ s8 = .int .i64 kk ∧ Hid (Ext w wr) ∧ Hid (∀ j, j < kk → p (L.getD j Tm.zero) = false))
  case atStart => exact ⟨0, Nat.zero_le _, by omega, rfl, Lib.hid (Ext.refl w), Lib.hid (fun j hj => absurd hj (Nat.not_lt_zero _))⟩
  case round =>
    obtain ⟨kk, hkk, hg, rfl, BW, AF⟩ := hrel
    by_cases hlt : kk < m
    · have hltz : (kk : Int) < (m : Int) := by omega
      obtain ⟨ad, rfl, q0, q1⟩ := (hL.out.ext BW.out).at (i := kk) (by rw [← hm.out]; exact hlt)
      have hcall := hp.out wr (L.getD kk Tm.zero) (getT_mem (by rw [← hm.out]; exact hlt)) BW.out
      obtain ⟨x, hx⟩ : ∃ x, L.getD kk Tm.zero = x := ⟨_, rfl⟩
      rw [hx] at q0 q1 hcall
      have HX := Lib.hid hx
      clear hx
      unfold tmV at hcall
      cases hq : p x with
      | true =>
        rw [hq] at hcall
        have HQ := Lib.hid hq
        clear hq
        go_wp2_with (go_at_fn g; refine hcall.mono ?_; rintro e w' ⟨rfl, hb'⟩)
        go_ret
        exact ⟨_, rfl, by rw [any_at (by rw [← hm.out]; exact hlt) (by rw [HX.out]; exact HQ.out)]; simp, BW.out.trans hb'⟩
      | false =>
        rw [hq] at hcall
        have HQ := Lib.hid hq
        clear hq
        go_wp2_with (go_at_fn g; refine hcall.mono ?_; rintro e w' ⟨rfl, hb'⟩)
        go_roundg (m - (kk + 1))
        case measure => omega
        case rel =>
          refine ⟨kk + 1, by omega, by omega, by go_num, Lib.hid (BW.out.trans hb'), Lib.hid (fun j hj => ?_)⟩
          by_cases hjk : j < kk
          · exact AF.out j hjk
          · obtain rfl : j = kk := by omega
            rw [HX.out]; exact HQ.out
    · obtain rfl : kk = m := by omega
      go_wp2
      go_ret
      exact ⟨_, rfl, by rw [any_none (fun j hj => AF.out j (by rw [hm.out]; exact hj))]; rfl, BW.out⟩
set_option maxRecDepth 100000 in
set_option maxHeartbeats 600000 in
theorem contains_times (p : Tm → Bool) (g : Nat) (v : Value) (eg : ∀ args w, (callFunc g args).run Tryz.prog w = .ok (.enter g args) w) (AL : Option Addr) (cL m : Nat) (L : List Tm) (w : World) (hm : Hid (m = L.length)) (hL : Hid (Tin w AL cL L)) (hp : Hid (Pred g #[v] p L w)) :
    Calls Tryz.prog 144 #[.slice AL m cL, .func (.func g) #[] #[v]] w fun e w' => e = .returned (.bool (L.any p)) ∧ Ext w w' := by
  go_enter Tryz.func144, Tryz.ntmps144
  go_wp2_with (go_at_call 204; refine (index_times p g v eg AL cL m L _ hm hL hp).mono ?_; rintro e w1 ⟨r, rfl, hr, x1⟩; have HR := Lib.hid hr; clear hr)
  go_ret
  exact ⟨by rw [← HR.out]; rfl, x1⟩
end Go.Proofs.YtdgbkpoickbidaaGreatDoor
namespace Go.Proofs.YtdgbkpoickbidaaGreatDoor
open Go.RowKit

set_option maxRecDepth 100000 in
set_option maxHeartbeats 600000 in
theorem beyond1_any (x : Tm) (B : Nat) (e : Int) (A : Option Addr) (n c : Nat) (l : List Int) (w : World) (hx : Hid (Sl w 1 x.A x.l.length x.c (wds x.l))) (hb : Hid (Bk w B 26 #[.int .u64 e, .slice A n c])) (ht : Hid (Sl w 1 A n c (wds l))) :
    Calls Tryz.prog 201 #[tmV x, .pointer (some ⟨B, 0, none⟩)] w fun r w' => r = .returned (.bool (tleq x.v (e, l))) ∧ Ext w w' := by
  have c0 : w.cell? ⟨B, 0, none⟩ = some (.int .u64 e) := hb.out.cell 0
  have c1 : w.cell? ⟨B, 1, none⟩ = some (.slice A n c) := hb.out.cell 1
  have hlt := hb.out.lt
  unfold tmV
  obtain ⟨xe, xA, xc, xl⟩ := x
  go_enter Tryz.func201, Tryz.ntmps201
  go_wp2_with (go_at_call 108; refine (leq_any _ _ _ _ _ _ _ _ _ _ _ (hx.out.ext ((Ext.refl w).alloc _)) (ht.out.ext ((Ext.refl w).alloc _))).mono ?_; rintro r w1 ⟨rfl, x1⟩)
  go_ret
  exact ⟨rfl, ((Ext.refl w).alloc _).trans x1⟩
theorem enters_beyond1 : ∀ args w, (callFunc 201 args).run Tryz.prog w = .ok (.enter 201 args) w := enters_of Tryz.func201 (by kernel_rfl) rfl
theorem any_map {L : List Tm} (t : TV) : (L.any fun x => tleq x.v t) = beyondV (L.map Tm.v) t := by unfold beyondV; rw [List.any_map]; rfl
set_option maxRecDepth 100000 in
set_option maxHeartbeats 600000 in
theorem beyond_any (AL : Option Addr) (cL m : Nat) (L : List Tm) (e : Int) (A : Option Addr) (n c : Nat) (l : List Int) (w : World) (hm : Hid (m = L.length)) (hL : Hid (Tin w AL cL L)) (ht : Hid (Sl w 1 A n c (wds l))) :
    Calls Tryz.prog 140 #[.slice AL m cL, .agg #[.int .u64 e, .slice A n c]] w fun r w' => r = .returned (.bool (beyondV (L.map Tm.v) (e, l))) ∧ Ext w w' := by
  rw [← any_map]
  have X : Ext w (w.alloc (.cells #[.int .u64 e, .slice A n c] 26)) := (Ext.refl w).alloc _
  have HP : Hid (Pred 201 #[.pointer (some ⟨w.heap.size, 0, none⟩)] (fun x => tleq x.v (e, l)) L (w.alloc (.cells #[.int .u64 e, .slice A n c] 26))) := Lib.hid (fun W x hx y =>
    beyond1_any x w.heap.size e A n c l W (Lib.hid (((hL.out.ls x hx).ext X).ext y)) (Lib.hid ((Bk.new w _ _).ext y)) (Lib.hid ((ht.out.ext X).ext y)))
  obtain ⟨q, hq⟩ : ∃ q, (L.any fun x => tleq x.v (e, l)) = q := ⟨_, rfl⟩
  have HQ := Lib.hid hq
  rw [hq]
  clear hq
  go_enter Tryz.func140, Tryz.ntmps140
  go_wp2_with (go_at_call 144; refine (contains_times _ 201 _ enters_beyond1 AL cL m L _ hm (Lib.hid (hL.out.ext X)) HP).mono ?_; rintro r w1 ⟨rfl, x1⟩)
  go_ret
  exact ⟨by rw [← HQ.out]; rfl, X.trans x1⟩
theorem beyond_at {v : Bool} (AL : Option Addr) (cL m : Nat) (L : List Tm) (e : Int) (A : Option Addr) (n c : Nat) (l : List Int) (w : World) (hv : Hid (beyondV (L.map Tm.v) (e, l) = v)) (hm : Hid (m = L.length)) (hL : Hid (Tin w AL cL L)) (ht : Hid (Sl w 1 A n c (wds l))) :
    Calls Tryz.prog 140 #[.slice AL m cL, .agg #[.int .u64 e, .slice A n c]] w fun r w' => r = .returned (.bool v) ∧ Ext w w' := hv.out ▸ beyond_any AL cL m L e A n c l w hm hL ht
/-! ### Leq -/
set_option maxRecDepth 100000 in
set_option maxHeartbeats 600000 in
theorem leq1_any (x : Tm) (B : Nat) (AL : Option Addr) (cL m : Nat) (L : List Tm) (w : World) (hx : Hid (Sl w 1 x.A x.l.length x.c (wds x.l))) (hb : Hid (Bk w B 27 #[.slice AL m cL])) (hm : Hid (m = L.length)) (hL : Hid (Tin w AL cL L)) :
    Calls Tryz.prog 213 #[tmV x, .pointer (some ⟨B, 0, none⟩)] w fun r w' => r = .returned (.bool (!beyondV (L.map Tm.v) x.v)) ∧ Ext w w' := by
  have c0 : w.cell? ⟨B, 0, none⟩ = some (.slice AL m cL) := hb.out.cell 0
  have hlt := hb.out.lt
  unfold tmV
  obtain ⟨xe, xA, xc, xl⟩ := x
  obtain ⟨q, hq⟩ : ∃ q, beyondV (L.map Tm.v) (xe, xl) = q := ⟨_, rfl⟩
  have HQ := Lib.hid hq
  show Calls _ _ _ _ fun r w' => r = .returned (.bool (!beyondV (L.map Tm.v) (xe, xl))) ∧ Ext w w'
  rw [hq]
  clear hq
  go_enter Tryz.func213, Tryz.ntmps213
  go_wp2_with (go_at_call 140; refine (beyond_at AL cL m L xe xA xl.length xc xl _ HQ hm (Lib.hid (hL.out.ext ((Ext.refl w).alloc _))) (Lib.hid (hx.out.ext ((Ext.refl w).alloc _)))).mono ?_; rintro r w1 ⟨rfl, x1⟩)
  go_ret
  exact ⟨rfl, ((Ext.refl w).alloc _).trans x1⟩
theorem enters_leq1 : ∀ args w, (callFunc 213 args).run Tryz.prog w = .ok (.enter 213 args) w := enters_of Tryz.func213 (by kernel_rfl) rfl
theorem not_all {L M : List Tm} : (!M.any fun x => !beyondV (L.map Tm.v) x.v) = leqV (L.map Tm.v) (M.map Tm.v) := by
  unfold leqV
  rw [List.all_map, List.not_any_eq_all_not]
  simp only [Bool.not_not]
  rfl
set_option maxRecDepth 100000 in
set_option maxHeartbeats 600000 in
theorem chleq_any (AL AM : Option Addr) (cL cM m n : Nat) (L M : List Tm) (w : World) (hm : Hid (m = L.length)) (hn : Hid (n = M.length)) (hL : Hid (Tin w AL cL L)) (hM : Hid (Tin w AM cM M)) :
    Calls Tryz.prog 158 #[.slice AL m cL, .slice AM n cM] w fun r w' => r = .returned (.bool (leqV (L.map Tm.v) (M.map Tm.v))) ∧ Ext w w' := by
  rw [← not_all]
  have X : Ext w (w.alloc (.cells #[.slice AL m cL] 27)) := (Ext.refl w).alloc _
  have HP : Hid (Pred 213 #[.pointer (some ⟨w.heap.size, 0, none⟩)] (fun x => !beyondV (L.map Tm.v) x.v) M (w.alloc (.cells #[.slice AL m cL] 27))) := Lib.hid (fun W x hx y =>
    leq1_any x w.heap.size AL cL m L W (Lib.hid (((hM.out.ls x hx).ext X).ext y)) (Lib.hid ((Bk.new w _ _).ext y)) hm (Lib.hid ((hL.out.ext X).ext y)))
  obtain ⟨q, hq⟩ : ∃ q, (M.any fun x => !beyondV (L.map Tm.v) x.v) = q := ⟨_, rfl⟩
  have HQ := Lib.hid hq
  rw [hq]
  clear hq
  go_enter Tryz.func158, Tryz.ntmps158
  go_wp2_with (go_at_call 144; refine (contains_times _ 213 _ enters_leq1 AM cM n M _ hn (Lib.hid (hM.out.ext X)) HP).mono ?_; rintro r w1 ⟨rfl, x1⟩)
  go_ret
  exact ⟨by rw [← HQ.out]; rfl, X.trans x1⟩
end Go.Proofs.YtdgbkpoickbidaaGreatDoor
namespace Go.Proofs.YtdgbkpoickbidaaGreatDoor
open Go.RowKit

def CopyOut (e : Int) (n : Nat) (l : List Int) (w : World) (r : Ending) (w' : World) : Prop := ∃ A' c', r = .returned (.agg #[.int .u64 e, .slice A' n c']) ∧ Own w' w.heap.size 180 1 A' n c' (wds l) ∧ Ext w w'
set_option maxRecDepth 100000 in
set_option maxHeartbeats 800000 in
theorem copied_any (e : Int) (A : Option Addr) (n c : Nat) (l : List Int) (w : World) (h : Hid (Sl w 1 A n c (wds l))) (hn : n ≤ 1000000) :
    Calls Tryz.prog 142 #[.agg #[.int .u64 e, .slice A n c]] w (CopyOut e n l w) := by
  go_enter Tryz.func142, Tryz.ntmps142
  go_wp2_with (go_at_call 184; refine (clone_words _ _ _ _ _ (h.out.ext (((Ext.refl w).alloc _).alloc _)) (wds_one l) (by omega)).mono ?_; rintro r w1 ⟨A', c', rfl, ho, x1⟩; have ba : Bk w1 w.heap.size 26 #[.int .u64 e, .slice A n c] := ((Bk.new w _ _).alloc _).ext x1; have bb : Bk w1 (w.heap.size + 1) 26 #[.int .u64 0, .slice none 0 0] := (Bk.at (by simp)).ext x1; have q0 : w1.cell? ⟨w.heap.size, 0, none⟩ = some (.int .u64 e) := ba.cell 0; have q1 : w1.cell? ⟨w.heap.size, 1, none⟩ = some (.slice A n c) := ba.cell 1; have f0 := ba.free 0; have f1 := ba.free 1; have q2 := bb.cell 0; have q3 := bb.cell 1; have f2 := bb.free 0; have f3 := bb.free 1; have HO := Lib.hid ho; clear ho; have BA := Lib.hid ba; clear ba; have BB := Lib.hid bb; clear bb)
  have bb2 := (BB.out.far (p := ⟨w.heap.size, 1, none⟩) (by simp) (.slice A' n c')).set2 (.int .u64 e) (.slice A' n c')
  refine bodyPost_ret (v := .agg #[.int .u64 e, .slice A' n c']) (by simp [results, Tryz.results142, go_sem, bb2.1, bb2.2]) rfl ⟨A', c', rfl, ?_, ?_⟩
  · exact (((HO.out.mono (by simp; omega)).far (HO.out.ne (by simp; omega)) _).far (HO.out.ne (by simp)) _).far (HO.out.ne (by simp)) _
  · have x2 := (((Ext.refl w).alloc _).alloc _).trans x1
    exact ((x2.set (by simp) _).set (by simp) _).set (by simp) _
set_option maxRecDepth 100000 in
set_option maxHeartbeats 400000 in
theorem clone_times (A : Option Addr) (n c : Nat) (L : List Tm) (w : World) (hm : Hid (n = L.length)) (h : Hid (Tin w A c L)) (hn : n ≤ 1000000) :
    Calls Tryz.prog 199 #[.slice A n c] w fun e w' => ∃ A' c', e = .returned (.slice A' n c') ∧ Own w' w.heap.size 26 2 A' n c' (tmsC L) ∧ Ext w w' := by
  have hs : Hid (Sl w 2 A n c (tmsC L)) := Lib.hid (by rw [hm.out]; exact h.out.sl)
  have hnil := fun (W : World) => Lib.run_eql_slice_nil (P := Tryz.prog) W 27 26 A n c 0 0 Tryz.underlying27
  rcases A with _ | a
  · obtain rfl : c = 0 := hs.out.2.2.2.1 rfl
    have hn0 : n = 0 := by have := hs.out.2.1; omega
    subst hn0
    have hx : tmsC L = [] := List.eq_nil_of_length_eq_zero (by simpa using hs.out.1)
    rw [hx]
    go_enter Tryz.func199, Tryz.ntmps199
    go_wp2
    go_ret
    exact ⟨none, 0, rfl, Own.nil _ _ _ _, Ext.refl _⟩
  · go_enter Tryz.func199, Tryz.ntmps199
    go_wp2_with (at_builtin; refine wpList_append_gen _ elemTimes w.heap.size _ _ (by rfl) (by rfl) _ 0 0 [] (by rfl) (Own.empty _ _ _ _ _) (some a) n c (tmsC L) (by rfl) (hs.out.ext ((Ext.refl w).alloc _)) (tmsC_one L) (by omega) (by omega) (by simp) ?_; intro A' c' w1 ho1 hg1 hk1)
    go_ret
    refine ⟨A', c', by simp, by simpa using ho1, ?_⟩
    exact ((Ext.refl w).alloc _).grown hg1 (by simp [blk])
/-- a time with counters of its own is put behind the others -/
theorem Tout.push {w w2 w3 : World} {B : Nat} {A A3 : Option Addr} {c c3 : Nat} {M : List Tm} (h : Tout w B A c M) (e2 : Ext w w2) {x : Tm} (ox : Own w2 w.heap.size 180 1 x.A x.l.length x.c (wds x.l)) (hB : B ≤ w.heap.size) (ob : Obj)
    (o3 : Own w3 B 26 2 A3 (M.length + 1) c3 (tmsC M ++ tmC x)) (g3 : (w2.alloc ob).grownBy w3 (blk A c)) (x3 : (A3 = A ∧ c3 = c) ∨ (blk A3 c3 = some (w2.alloc ob).heap.size ∧ Ext (w2.alloc ob) w3)) : Tout w3 B A3 c3 (M ++ [x]) := by
  have hsz := ((Ext.refl w2).alloc ob).size
  have hw := e2.size
  have kept : ∀ {k0 : Nat} {A' : Option Addr} {n' c' : Nat} {xs : List Value}, Own w2 k0 180 1 A' n' c' xs → (∀ k, blk A' c' = some k → blk A c ≠ some k) → Own w3 k0 180 1 A' n' c' xs := fun o hne => (o.alloc ob).kept g3 (by
    rename_i A' n' c' xs
    cases hb : blk A' c' with
    | none => exact .inl rfl
    | some k => exact .inr (fun e => hne k hb e.symm))
  have new3 : ∀ k, blk A3 c3 = some k → blk A c = some k ∨ w2.heap.size ≤ k := fun k hk => by
    rcases x3 with ⟨rfl, rfl⟩ | ⟨h1, _⟩
    · exact .inl hk
    · rw [h1] at hk; injection hk with hk; exact .inr (by omega)
  have xne : ∀ k, blk x.A x.c = some k → blk A c ≠ some k := fun k hk e => by have := (ox.lt k hk).1; have := (h.own.lt k e).2; omega
  refine ⟨by rw [tmsC_append, List.length_append]; show Own w3 B _ 2 A3 (M.length + 1) c3 (tmsC M ++ tmsC [x]); rw [show tmsC [x] = tmC x by simp [tmsC]]; exact o3, fun y hy => ?_, ?_⟩
  · rcases List.mem_append.1 hy with hy | hy
    · obtain ⟨h1, h2⟩ := h.ls y hy
      refine ⟨kept (h1.ext e2) h2, fun k hk e => ?_⟩
      rcases new3 k e with q | q
      · exact h2 k hk q
      · have := (h1.lt k hk).2; omega
    · rw [List.mem_singleton] at hy
      subst hy
      refine ⟨(kept ox xne).mono hB, fun k hk e => ?_⟩
      rcases new3 k e with q | q
      · exact xne k hk q
      · have := (ox.lt k hk).2; omega
  · refine List.pairwise_append.2 ⟨h.apart, List.pairwise_singleton _ _, fun y hy z hz k h1 h2 => ?_⟩
    rw [List.mem_singleton] at hz
    subst hz
    have := ((h.ls y hy).1.lt k h1).2
    have := (ox.lt k h2).1
    omega
end Go.Proofs.YtdgbkpoickbidaaGreatDoor
namespace Go.Proofs.YtdgbkpoickbidaaGreatDoor
open Go.RowKit

section
variable {α : Type} [Inhabited α] (enc : α → List Value) (k : Nat) (hk : ∀ x, (enc x).length = k) (k0 : 0 < k)
include hk
omit [Inhabited α] in
theorem flat_len : ∀ l : List α, (l.flatMap enc).length = l.length * k
  | [] => by simp
  | x :: l => by rw [List.flatMap_cons, List.length_append, hk, flat_len l, List.length_cons, Nat.add_mul]; omega
include k0
theorem flat_at : ∀ (l : List α) (t : Nat), t < l.length * k → (l.flatMap enc)[t]? = (enc (l.getD (t / k) default))[t % k]?
  | [], t, h => absurd h (by simp)
  | x :: l, t, h => by
    rw [List.flatMap_cons]
    by_cases q : t < k
    · rw [List.getElem?_append_left (by rw [hk]; exact q), Nat.div_eq_of_lt q, Nat.mod_eq_of_lt q]; rfl
    · rw [List.length_cons, Nat.add_mul] at h
      rw [List.getElem?_append_right (by rw [hk]; omega), hk, flat_at l (t - k) (by omega)]
      have e1 : t / k = (t - k) / k + 1 := Nat.div_eq_sub_div k0 (by omega)
      have e2 : t % k = (t - k) % k := Nat.mod_eq_sub_mod (by omega)
      rw [e1, e2]
      rfl
theorem flat_get (d : Array α) {t : Nat} (h : t < d.size * k) : (d.toList.flatMap enc)[t]? = some ((Go.Sort.flatK enc k d)[t]!) := by
  rw [flat_at enc k hk k0 _ t (by simpa using h), Go.Sort.get_flatK enc k d t h]
  have h1 : t / k < d.size := (Nat.div_lt_iff_lt_mul k0).2 h
  have h2 : t % k < k := Nat.mod_lt _ k0
  have e : d.toList.getD (t / k) default = d[t / k]! := by
    rw [List.getD_eq_getElem?_getD, Array.getElem?_toList, Array.getElem!_eq_getD, Array.getD_eq_getD_getElem?]
  rw [e]
  have h3 : t % k < (enc d[t / k]!).length := by rw [hk]; exact h2
  rw [List.getElem?_eq_getElem h3, getElem!_pos (enc d[t / k]!) _ h3]
theorem own_holds {w : World} {B blk c : Nat} {T : TypeId} {d : Array α} (h : Own w B T k (some ⟨blk, 0, none⟩) d.size c (d.toList.flatMap enc)) (hd : 0 < d.size) : Go.Sort.HoldsK enc k w blk 0 d := by
  obtain ⟨g, e, _, _, _, hc, hf⟩ := h.form hd
  injection e with e
  injection e with e
  subst e
  intro j hj
  rw [Go.Sort.size_flatK] at hj
  refine ⟨?_, hf _⟩
  rw [Nat.zero_add]
  exact hc j _ (flat_get enc k hk k0 d hj)
theorem sorted_own {w : World} {B blk c n : Nat} {T : TypeId} {d d' : Array α} {os : Array Obj} (h : Own w B T k (some ⟨blk, 0, none⟩) d.size c (d.toList.flatMap enc)) (hd : 0 < d.size) (hs : d'.size = d.size) :
    Own (sortWorldK enc k w blk 0 n d' os) B T k (some ⟨blk, 0, none⟩) d.size c (d'.toList.flatMap enc) ∧ Upd (fun q => q = blk) w (sortWorldK enc k w blk 0 n d' os) := by
  obtain ⟨h1, h2⟩ := h
  rcases h2 with h2 | ⟨g, cur, e, hb, hg, hnc, hcm, hcs, htake⟩
  · omega
  · injection e with e
    injection e with e
    subst e
    have hlt : blk < w.heap.size := (Array.getElem?_eq_some_iff.1 hg).1
    have hheap : (sortWorldK enc k w blk 0 n d' os).heap[blk]? = some (.cells (Go.Sort.putCells id 0 (Go.Sort.flatK enc k d') cur) T (0, 0)) := by
      show (w.heap.modify blk _ ++ os)[blk]? = _
      rw [Array.getElem?_append_left (by simpa using hlt), Array.getElem?_modify, if_pos rfl, hg]
      rfl
    refine ⟨⟨by rw [flat_len enc k hk, Array.length_toList, hs], .inr ⟨blk, _, rfl, hb, hheap, hnc, hcm, by simpa [Go.Sort.putCells] using hcs, ?_⟩⟩, ?_⟩
    · refine List.ext_getElem? fun t => ?_
      rw [List.getElem?_take]
      by_cases ht : t < d.size * k
      · rw [if_pos ht, flat_get enc k hk k0 d' (by rw [hs]; exact ht), Array.getElem?_toList]
        have hcz : t < cur.size := Nat.lt_of_lt_of_le (Nat.lt_of_lt_of_le ht (Nat.mul_le_mul_right _ hnc)) hcs
        simp only [Go.Sort.putCells, Array.getElem?_mapIdx, Array.getElem?_eq_getElem hcz, Option.map_some]
        rw [if_pos ⟨Nat.zero_le _, by rw [Go.Sort.size_flatK, hs]; omega⟩]
        rfl
      · rw [if_neg ht, List.getElem?_eq_none (by rw [flat_len enc k hk, Array.length_toList, hs]; omega)]
    · refine ⟨rfl, rfl, rfl, ?_, fun q hq hn => ?_⟩
      · show w.heap.size ≤ (w.heap.modify blk _ ++ os).size
        simp
      · show (w.heap.modify blk _ ++ os)[q]? = _
        rw [Array.getElem?_append_left (by simpa using hq), Array.getElem?_modify, if_neg (fun e => hn e.symm)]
end
/-- the sort's answer as lists -/
theorem sorted_list {α : Type} [Inhabited α] {lt : α → α → Bool} {d d' : Array α} (hp : Go.Sort.PermIn 0 d.size d d') (hs : Go.Sort.SortedIn lt 0 d.size d') : d'.size = d.size ∧ d'.toList.Perm d.toList ∧ d'.toList.Pairwise fun x y => lt y x = false := by
  obtain ⟨h1, _, h3⟩ := hp
  refine ⟨h1, ?_, List.pairwise_iff_getElem.2 fun i j hi hj hij => ?_⟩
  · have e1 : d.extract 0 d.size = d := by simp
    have e2 : d'.extract 0 d.size = d' := by rw [← h1]; simp
    rwa [e1, e2] at h3
  · have hi' : i < d'.size := by simpa using hi
    have hj' : j < d'.size := by simpa using hj
    have := hs i j (Nat.zero_le _) hij (by omega)
    rw [getElem!_pos d' j hj', getElem!_pos d' i hi'] at this
    simpa using this
end Go.Proofs.YtdgbkpoickbidaaGreatDoor
namespace Go.Proofs.YtdgbkpoickbidaaGreatDoor
open Go.RowKit

theorem grow3 (w : World) (o1 o2 o3 : Obj) : (((w.alloc o1).alloc o2).alloc o3).drew = Go.Sort.grow (w.drewN 1) #[o1, o2, o3] := by
  rw [Go.Sort.alloc_eq_grow, Go.Sort.alloc_eq_grow, Go.Sort.alloc_eq_grow, Go.Sort.grow_grow, Go.Sort.grow_grow]
  rfl
set_option maxRecDepth 100000 in
set_option maxHeartbeats 600000 in
theorem or_eq (g : Nat) (t : TypeId) (x y z : Int) (w : World) (hb : Bk w g t #[.int .i64 x, .int .i64 y, .int .i64 z]) :
    Calls Tryz.prog 182 #[.slice (some ⟨g, 0, none⟩) 3 3] w fun e w' => e = .returned (.int .i64 (orT x y z)) ∧ w = w' := by
  have hx : w.cell? ⟨g, 0, none⟩ = some (.int .i64 x) := hb.cell 0
  have hy : w.cell? ⟨g, 1, none⟩ = some (.int .i64 y) := hb.cell 1
  have hz : w.cell? ⟨g, 2, none⟩ = some (.int .i64 z) := hb.cell 2
  obtain ⟨r, hr⟩ : ∃ r, r = orT x y z := ⟨_, rfl⟩
  rw [← hr]
  have HR := Lib.hid hr
  clear hr
  go_enter Tryz.func182, Tryz.ntmps182
  go_wp2
  go_loop [8] (fun v => ∃ k : Nat, k ≤ 3 ∧ v = .int .i64 k ∧ (0 < k → x = 0) ∧ (1 < k → y = 0) ∧ (2 < k → z = 0)) (fun v => 3 - (intOf v).toNat)
  case atStart => exact ⟨0, by omega, rfl, by omega, by omega, by omega⟩
  case round =>
    obtain ⟨k, hk, rfl, k0, k1, k2⟩ := hrel
    have K0 := Lib.hid k0
    have K1 := Lib.hid k1
    have K2 := Lib.hid k2
    clear k0 k1 k2
    match k, hk with
    | 0, _ =>
      by_cases q : x = 0
      · have q' : (x != 0) = false := by simpa using q
        have Q := Lib.hid q
        clear q
        go_wp2
        go_round
        case rel => exact ⟨1, by omega, rfl, fun _ => Q.out, by omega, by omega⟩
        case measure => simp [intOf]
      · have q' : (x != 0) = true := by simpa using q
        go_wp2
        go_ret
        exact ⟨ret_int (by rw [HR.out]; simp [orT, q]), rfl⟩
    | 1, _ =>
      by_cases q : y = 0
      · have q' : (y != 0) = false := by simpa using q
        have Q := Lib.hid q
        clear q
        go_wp2
        go_round
        case rel => exact ⟨2, by omega, rfl, fun _ => K0.out (by omega), fun _ => Q.out, by omega⟩
        case measure => simp [intOf]
      · have q' : (y != 0) = true := by simpa using q
        go_wp2
        go_ret
        exact ⟨ret_int (by rw [HR.out]; simp [orT, q, K0.out (by omega)]), rfl⟩
    | 2, _ =>
      by_cases q : z = 0
      · have q' : (z != 0) = false := by simpa using q
        have Q := Lib.hid q
        clear q
        go_wp2
        go_round
        case rel => exact ⟨3, by omega, rfl, fun _ => K0.out (by omega), fun _ => K1.out (by omega), fun _ => Q.out⟩
        case measure => simp [intOf]
      · have q' : (z != 0) = true := by simpa using q
        go_wp2
        go_ret
        exact ⟨ret_int (by rw [HR.out]; simp [orT, K1.out (by omega), K0.out (by omega)]), rfl⟩
    | 3, _ =>
      go_wp2
      go_ret
      exact ⟨ret_int (by rw [HR.out]; simp [orT, K1.out (by omega), K0.out (by omega), K2.out (by omega)]), rfl⟩
    | k + 4, hk => omega

set_option maxRecDepth 100000 in
set_option maxHeartbeats 800000 in
theorem cmp_grow (e1 e2 : Int) (A1 A2 : Option Addr) (n1 n2 c1 c2 : Nat) (l1 l2 : List Int) (w : World) (h1 : Sl w 1 A1 n1 c1 (wds l1)) (h2 : Sl w 1 A2 n2 c2 (wds l2)) :
    Calls Tryz.prog 146 #[.agg #[.int .u64 e1, .slice A1 n1 c1], .agg #[.int .u64 e2, .slice A2 n2 c2]] w fun e w' => e = .returned (.int .i64 (cmpTT e1 l1 e2 l2)) ∧ ∃ q os, w' = Go.Sort.grow (w.drewN q) os := by
  have hR : cmpTT e1 l1 e2 l2 = orT (cmpT n1 n2) (cmpT e1 e2) (lexT l1 l2) := by unfold cmpTT; rw [h1.wlen, h2.wlen]
  rw [hR]
  clear hR
  go_enter Tryz.func146, Tryz.ntmps146
  go_upto_region 1 with fail
  obtain ⟨w0, hw0⟩ : ∃ w0, w0 = (w.alloc (Obj.cells #[Value.int IntKind.u64 e1, Value.slice A1 n1 c1] 26)).alloc (Obj.cells #[Value.int IntKind.u64 e2, Value.slice A2 n2 c2] 26) := ⟨_, rfl⟩
  have x0 : Ext w w0 := hw0 ▸ ((Ext.refl w).alloc _).alloc _
  have a0 : Bk w0 w.heap.size 26 #[Value.int IntKind.u64 e1, Value.slice A1 n1 c1] := by subst hw0; exact (Bk.new _ _ _).alloc _
  have b0 : Bk w0 (w.heap.size + 1) 26 #[Value.int IntKind.u64 e2, Value.slice A2 n2 c2] := by subst hw0; exact Bk.at (by simp)
  rw [← hw0]
  have HW0 := Lib.hid hw0
  clear hw0
  have X : Ext w0 w0.drew := (Ext.refl w0).drew
  have q1 : ∀ y : Xt w0.drew, y.W.cell? ⟨w.heap.size, 0, none⟩ = some (.int .u64 e1) := fun y => (a0.ext (X.trans y.x)).cell 0
  have q2 : ∀ y : Xt w0.drew, y.W.cell? ⟨w.heap.size, 1, none⟩ = some (.slice A1 n1 c1) := fun y => (a0.ext (X.trans y.x)).cell 1
  have q3 : ∀ y : Xt w0.drew, y.W.cell? ⟨w.heap.size + 1, 0, none⟩ = some (.int .u64 e2) := fun y => (b0.ext (X.trans y.x)).cell 0
  have q4 : ∀ y : Xt w0.drew, y.W.cell? ⟨w.heap.size + 1, 1, none⟩ = some (.slice A2 n2 c2) := fun y => (b0.ext (X.trans y.x)).cell 1
  refine wp_region_ord [0,1,3,0,8,24,63,0,128,0,512,2047,0,4096,0,16384,65535,131071,262143,524287] (.flo [0,1,2,3,4,5,7,8,9,10,12,13,14,15] (.ext 6 (.ext 11 (.one 16 (.one 17 (.one 18 (.flo [19] (.fin)))))))) (by kernel_rfl) (by kernel_rfl) (by intro _ _ d _ _ h; cases d <;> exact h) ?_
  (refine ord_flo (pick_cons rfl (pick_cons rfl (pick_cons rfl (pick_cons rfl (pick_cons rfl (pick_cons rfl (pick_cons rfl (pick_cons rfl (pick_cons rfl (pick_cons rfl (pick_cons rfl (pick_cons rfl (pick_cons rfl (pick_cons rfl pick_nil)))))))))))))) ?_; (repeat (go_big_quiet_step (fail))); refine wpQuiet_nil ?_; show ordWalk _ _ _ _ _ _ _)
  refine ord_ext (pick_cons rfl pick_nil) ?_; intro K_ hK_
  go_wp2_with (refine (compare_int _ _ _).mono ?_; rintro e w1 ⟨rfl, rfl⟩)
  refine ordNext.mk (Ext.refl _) ?_
  refine ord_ext (pick_cons rfl pick_nil) ?_; intro K_ hK_
  go_wp2_with (refine (compare_u64 _ _ _).mono ?_; rintro e w1 ⟨rfl, rfl⟩)
  refine ordNext.mk (Ext.refl _) ?_
  refine ord_one (pick_cons rfl pick_nil) ?_; intro K_ hK_
  go_wp2_with (refine (lex_any _ _ _ _ _ _ _ _ _ (h1.ext (x0.trans X)) (h2.ext (x0.trans X))).mono ?_; rintro e w1 ⟨rfl, rfl⟩)
  refine ord_one (pick_cons rfl pick_nil) ?_; intro K_ hK_
  go_wp2
  refine ord_one (pick_cons rfl pick_nil) ?_; intro K_ hK_
  go_wp2_with (refine (or_eq _ _ _ _ _ _ (by exact (Bk.at (by simp)).drew)).mono ?_; rintro e w1 ⟨rfl, rfl⟩)
  (refine ord_flo (pick_cons rfl pick_nil) ?_; (repeat (go_big_quiet_step (fail))); refine wpQuiet_nil ?_; show ordWalk _ _ _ _ _ _ _)
  refine ord_fin ?_
  go_wp2
  go_ret
  rw [HW0.out]
  exact ⟨rfl, 1, _, grow3 w _ _ _⟩
end Go.Proofs.YtdgbkpoickbidaaGreatDoor
