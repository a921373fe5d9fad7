/- row.put, key: the bytes of data, of rows. Conditions: the row is as readings give it; not too many bytes. -/
import Derived.Test.YtngeioghihbkeaaDoorRowRep
import Derived.Test.YtngeioghihbkeaaDoorBytes
namespace Go.Proofs.YtngeioghihbkeaaDoor
open Go.RowKit

def be8 (m : Nat) : List UInt8 := [UInt8.ofNat (m / 2 ^ 56), UInt8.ofNat (m / 2 ^ 48), UInt8.ofNat (m / 2 ^ 40), UInt8.ofNat (m / 2 ^ 32), UInt8.ofNat (m / 2 ^ 24), UInt8.ofNat (m / 2 ^ 16), UInt8.ofNat (m / 2 ^ 8), UInt8.ofNat m]
def escZ (c : UInt8) : List UInt8 := if c = 0 then [0, 255] else [c]
/-- a datum's bytes -/
def putT (d : Dat) : List UInt8 :=
  if d.k = 1 then [16] else if d.k = 2 then [if d.b then 33 else 32] else if d.k = 3 then 48 :: be8 (d.n + 9223372036854775808).toNat else if d.k = 4 then 64 :: (d.s.data.toList.flatMap escZ ++ [0, 1]) else []
def keyT (l : List Dat) : List UInt8 := l.flatMap putT
/-- bytes that a call hands back, in blocks from B on -/
def PutOut (w : World) (B : Nat) (r : List UInt8) (e : Ending) (w' : World) : Prop := ∃ A n c, e = .returned (.slice A n c) ∧ OwnB w' B A n c r ∧ Below B w w'
section
variable (k n : Int) (b : Bool) (s : ByteArray) (A : Option Addr) (m c B : Nat) (xs : List UInt8) (w : World)
set_option maxRecDepth 100000 in
set_option maxHeartbeats 1000000 in
theorem put_null (h : OwnB w B A m c xs) (hm : m ≤ 100000000000000) : Calls Tryd.prog 64 #[.slice A m c, .agg #[.int .u8 1, .bool b, .int .i64 n, .string s]] w (PutOut w B (xs ++ [16])) := by
  have HB := Lib.hid h.2
  have HO := Lib.hid (h.alloc (.cells #[.int .u8 1, .bool b, .int .i64 n, .string s] 91))
  clear h
  go_enter Tryd.func64, Tryd.ntmps64
  go_wp2_with (at_builtin; refine put_bytes [16] rfl _ _ rfl HO.out rfl rfl (by first | rfl | simp) rfl rfl (by omega) ?_; intro A2 n2 c2 w2 o2 hn hz hbel hne; have O2 := Lib.hid o2; clear o2 hn hne)
  go_ret
  exact ⟨A2, n2, c2, rfl, O2.out, ((Below.refl B w).alloc HB.out _).trans hbel⟩
set_option maxRecDepth 100000 in
set_option maxHeartbeats 1000000 in
theorem put_bool (h : OwnB w B A m c xs) (hm : m ≤ 100000000000000) : Calls Tryd.prog 64 #[.slice A m c, .agg #[.int .u8 2, .bool b, .int .i64 n, .string s]] w (PutOut w B (xs ++ [if b then 33 else 32])) := by
  have HB := Lib.hid h.2
  have HO := Lib.hid (h.alloc (.cells #[.int .u8 2, .bool b, .int .i64 n, .string s] 91))
  clear h
  cases b
  · go_enter Tryd.func64, Tryd.ntmps64
    go_wp2_with (at_builtin; refine put_bytes [32] rfl _ _ rfl HO.out rfl rfl (by first | rfl | simp) rfl rfl (by omega) ?_; intro A2 n2 c2 w2 o2 hn hz hbel hne; have O2 := Lib.hid o2; clear o2 hn hne)
    go_ret
    exact ⟨A2, n2, c2, rfl, O2.out, ((Below.refl B w).alloc HB.out _).trans hbel⟩
  · go_enter Tryd.func64, Tryd.ntmps64
    go_wp2_with (at_builtin; refine put_bytes [33] rfl _ _ rfl HO.out rfl rfl (by first | rfl | simp) rfl rfl (by omega) ?_; intro A2 n2 c2 w2 o2 hn hz hbel hne; have O2 := Lib.hid o2; clear o2 hn hne)
    go_ret
    exact ⟨A2, n2, c2, rfl, O2.out, ((Below.refl B w).alloc HB.out _).trans hbel⟩
set_option maxRecDepth 100000 in
set_option maxHeartbeats 1000000 in
theorem put_none (h1 : ¬ k = 1) (h2 : ¬ k = 2) (h3 : ¬ k = 3) (h4 : ¬ k = 4) (h : OwnB w B A m c xs) : Calls Tryd.prog 64 #[.slice A m c, .agg #[.int .u8 k, .bool b, .int .i64 n, .string s]] w (PutOut w B xs) := by
  have HB := Lib.hid h.2
  have HO := Lib.hid (h.alloc (.cells #[.int .u8 k, .bool b, .int .i64 n, .string s] 91))
  have z1 : (k == 1) = false := by simpa using h1
  have z2 : (k == 2) = false := by simpa using h2
  have z3 : (k == 3) = false := by simpa using h3
  have z4 : (k == 4) = false := by simpa using h4
  clear h
  go_enter Tryd.func64, Tryd.ntmps64
  go_wp2
  go_ret
  exact ⟨A, m, c, rfl, HO.out, (Below.refl B w).alloc HB.out _⟩
set_option maxRecDepth 100000 in
set_option maxHeartbeats 8000000 in
theorem put_int (hn : -9223372036854775808 ≤ n ∧ n ≤ 9223372036854775807) (h : OwnB w B A m c xs) (hm : m ≤ 100000000000000) : Calls Tryd.prog 64 #[.slice A m c, .agg #[.int .u8 3, .bool b, .int .i64 n, .string s]] w (PutOut w B (xs ++ 48 :: be8 (n + 9223372036854775808).toNat)) := by
  have HB := Lib.hid h.2
  have HO := Lib.hid (h.alloc (.cells #[.int .u8 3, .bool b, .int .i64 n, .string s] 91))
  have b0 : Bk (w.alloc (.cells #[.int .u8 3, .bool b, .int .i64 n, .string s] 91)) w.heap.size 91 #[.int .u8 3, .bool b, .int .i64 n, .string s] := Bk.new _ _ _
  have N0 := Lib.hid (h.ne (Nat.le_refl _))
  clear h
  obtain ⟨u, hu⟩ : ∃ u, IntKind.u64.wrap n = u := ⟨_, rfl⟩
  obtain ⟨M, hM⟩ : ∃ M, (n + 9223372036854775808).toNat = M := ⟨_, rfl⟩
  have q1 : IntKind.u64.wrap (u + 9223372036854775808) = (M : Int) := by
    rw [← hu, IntKind.wrap_u64, IntKind.wrap_u64]
    omega
  have hM64 : M < 18446744073709551616 := by omega
  obtain ⟨y0, hy0⟩ : ∃ y : UInt8, UInt8.ofNat (M / 2 ^ 56) = y := ⟨_, rfl⟩
  have w100 : (M : Int) / 72057594037927936 = (y0.toNat : Int) := by rw [← hy0, UInt8.toNat_ofNat']; omega
  have HY0 := Lib.hid hy0
  clear hy0
  obtain ⟨y1, hy1⟩ : ∃ y : UInt8, UInt8.ofNat (M / 2 ^ 48) = y := ⟨_, rfl⟩
  have w101 : IntKind.u8.wrap ((M : Int) / 281474976710656) = (y1.toNat : Int) := by rw [← hy1, UInt8.toNat_ofNat', IntKind.wrap_u8]; omega
  have HY1 := Lib.hid hy1
  clear hy1
  obtain ⟨y2, hy2⟩ : ∃ y : UInt8, UInt8.ofNat (M / 2 ^ 40) = y := ⟨_, rfl⟩
  have w102 : IntKind.u8.wrap ((M : Int) / 1099511627776) = (y2.toNat : Int) := by rw [← hy2, UInt8.toNat_ofNat', IntKind.wrap_u8]; omega
  have HY2 := Lib.hid hy2
  clear hy2
  obtain ⟨y3, hy3⟩ : ∃ y : UInt8, UInt8.ofNat (M / 2 ^ 32) = y := ⟨_, rfl⟩
  have w103 : IntKind.u8.wrap ((M : Int) / 4294967296) = (y3.toNat : Int) := by rw [← hy3, UInt8.toNat_ofNat', IntKind.wrap_u8]; omega
  have HY3 := Lib.hid hy3
  clear hy3
  obtain ⟨y4, hy4⟩ : ∃ y : UInt8, UInt8.ofNat (M / 2 ^ 24) = y := ⟨_, rfl⟩
  have w104 : IntKind.u8.wrap ((M : Int) / 16777216) = (y4.toNat : Int) := by rw [← hy4, UInt8.toNat_ofNat', IntKind.wrap_u8]; omega
  have HY4 := Lib.hid hy4
  clear hy4
  obtain ⟨y5, hy5⟩ : ∃ y : UInt8, UInt8.ofNat (M / 2 ^ 16) = y := ⟨_, rfl⟩
  have w105 : IntKind.u8.wrap ((M : Int) / 65536) = (y5.toNat : Int) := by rw [← hy5, UInt8.toNat_ofNat', IntKind.wrap_u8]; omega
  have HY5 := Lib.hid hy5
  clear hy5
  obtain ⟨y6, hy6⟩ : ∃ y : UInt8, UInt8.ofNat (M / 2 ^ 8) = y := ⟨_, rfl⟩
  have w106 : IntKind.u8.wrap ((M : Int) / 256) = (y6.toNat : Int) := by rw [← hy6, UInt8.toNat_ofNat', IntKind.wrap_u8]; omega
  have HY6 := Lib.hid hy6
  clear hy6
  obtain ⟨y7, hy7⟩ : ∃ y : UInt8, UInt8.ofNat (M) = y := ⟨_, rfl⟩
  have w107 : IntKind.u8.wrap ((M : Int)) = (y7.toNat : Int) := by rw [← hy7, UInt8.toNat_ofNat', IntKind.wrap_u8]; omega
  have HY7 := Lib.hid hy7
  clear hy7
  rw [hM]
  have HBE : Hid (be8 M = [y0, y1, y2, y3, y4, y5, y6, y7]) := Lib.hid (by unfold be8; rw [HY0.out, HY1.out, HY2.out, HY3.out, HY4.out, HY5.out, HY6.out, HY7.out])
  rw [HBE.out]
  clear hM hn HBE HY0 HY1 HY2 HY3 HY4 HY5 HY6 HY7
  go_enter Tryd.func64, Tryd.ntmps64
  go_wp2_with (at_builtin; refine put_bytes [48] rfl _ _ rfl HO.out rfl rfl (by first | rfl | simp) rfl rfl (by omega) ?_; intro A1 n1 c1 w1 o1 hn1 hz1 hbel1 hne1; have O1 := Lib.hid o1; have b1 : Bk w1 w.heap.size 91 #[.int .u8 3, .bool b, .int .i64 n, .string s] := (hne1 w.heap.size (by first | omega | (simp; done) | (simp; omega)) N0.out).2.trans b0; have N1 := Lib.hid (hne1 w.heap.size (by first | omega | (simp; done) | (simp; omega)) N0.out).1; have L1 : n1 ≤ 100000000000001 := (by omega); have S1 : w.heap.size < w1.heap.size := b1.lt; have X1 := Lib.hid (((Below.refl B w).alloc HB.out _).trans hbel1); have p1 : w1.cell? ⟨w.heap.size, 2, none⟩ = some (.int .i64 n) := b1.cell 2; clear o1 hn1 hz1 hbel1 hne1)
  refine wp_loop_rounds 9 ?_
  rw [rounds_succ]
  go_wp2_with (at_builtin; refine put_bytes [y0] rfl _ _ rfl O1.out rfl rfl (by first | rfl | simp) rfl rfl (by omega) ?_; intro A2 n2 c2 w2 o2 hn2 hz2 hbel2 hne2; have O2 := Lib.hid o2; have b2 : Bk w2 w.heap.size 91 #[.int .u8 3, .bool b, .int .i64 n, .string s] := (hne2 w.heap.size (by first | omega | (simp; done) | (simp; omega)) N1.out).2.trans b1; have N2 := Lib.hid (hne2 w.heap.size (by first | omega | (simp; done) | (simp; omega)) N1.out).1; have L2 : n2 ≤ 100000000000002 := (by omega); have S2 : w.heap.size < w2.heap.size := b2.lt; have X2 := Lib.hid (X1.out.trans hbel2); have p2 : w2.cell? ⟨w.heap.size, 2, none⟩ = some (.int .i64 n) := b2.cell 2; clear o2 hn2 hz2 hbel2 hne2)
  rw [rounds_succ]
  go_wp2_with (at_builtin; refine put_bytes [y1] rfl _ _ rfl O2.out rfl rfl (by first | rfl | simp) rfl rfl (by omega) ?_; intro A3 n3 c3 w3 o3 hn3 hz3 hbel3 hne3; have O3 := Lib.hid o3; have b3 : Bk w3 w.heap.size 91 #[.int .u8 3, .bool b, .int .i64 n, .string s] := (hne3 w.heap.size (by first | omega | (simp; done) | (simp; omega)) N2.out).2.trans b2; have N3 := Lib.hid (hne3 w.heap.size (by first | omega | (simp; done) | (simp; omega)) N2.out).1; have L3 : n3 ≤ 100000000000003 := (by omega); have S3 : w.heap.size < w3.heap.size := b3.lt; have X3 := Lib.hid (X2.out.trans hbel3); have p3 : w3.cell? ⟨w.heap.size, 2, none⟩ = some (.int .i64 n) := b3.cell 2; clear o3 hn3 hz3 hbel3 hne3)
  rw [rounds_succ]
  go_wp2_with (at_builtin; refine put_bytes [y2] rfl _ _ rfl O3.out rfl rfl (by first | rfl | simp) rfl rfl (by omega) ?_; intro A4 n4 c4 w4 o4 hn4 hz4 hbel4 hne4; have O4 := Lib.hid o4; have b4 : Bk w4 w.heap.size 91 #[.int .u8 3, .bool b, .int .i64 n, .string s] := (hne4 w.heap.size (by first | omega | (simp; done) | (simp; omega)) N3.out).2.trans b3; have N4 := Lib.hid (hne4 w.heap.size (by first | omega | (simp; done) | (simp; omega)) N3.out).1; have L4 : n4 ≤ 100000000000004 := (by omega); have S4 : w.heap.size < w4.heap.size := b4.lt; have X4 := Lib.hid (X3.out.trans hbel4); have p4 : w4.cell? ⟨w.heap.size, 2, none⟩ = some (.int .i64 n) := b4.cell 2; clear o4 hn4 hz4 hbel4 hne4)
  rw [rounds_succ]
  go_wp2_with (at_builtin; refine put_bytes [y3] rfl _ _ rfl O4.out rfl rfl (by first | rfl | simp) rfl rfl (by omega) ?_; intro A5 n5 c5 w5 o5 hn5 hz5 hbel5 hne5; have O5 := Lib.hid o5; have b5 : Bk w5 w.heap.size 91 #[.int .u8 3, .bool b, .int .i64 n, .string s] := (hne5 w.heap.size (by first | omega | (simp; done) | (simp; omega)) N4.out).2.trans b4; have N5 := Lib.hid (hne5 w.heap.size (by first | omega | (simp; done) | (simp; omega)) N4.out).1; have L5 : n5 ≤ 100000000000005 := (by omega); have S5 : w.heap.size < w5.heap.size := b5.lt; have X5 := Lib.hid (X4.out.trans hbel5); have p5 : w5.cell? ⟨w.heap.size, 2, none⟩ = some (.int .i64 n) := b5.cell 2; clear o5 hn5 hz5 hbel5 hne5)
  rw [rounds_succ]
  go_wp2_with (at_builtin; refine put_bytes [y4] rfl _ _ rfl O5.out rfl rfl (by first | rfl | simp) rfl rfl (by omega) ?_; intro A6 n6 c6 w6 o6 hn6 hz6 hbel6 hne6; have O6 := Lib.hid o6; have b6 : Bk w6 w.heap.size 91 #[.int .u8 3, .bool b, .int .i64 n, .string s] := (hne6 w.heap.size (by first | omega | (simp; done) | (simp; omega)) N5.out).2.trans b5; have N6 := Lib.hid (hne6 w.heap.size (by first | omega | (simp; done) | (simp; omega)) N5.out).1; have L6 : n6 ≤ 100000000000006 := (by omega); have S6 : w.heap.size < w6.heap.size := b6.lt; have X6 := Lib.hid (X5.out.trans hbel6); have p6 : w6.cell? ⟨w.heap.size, 2, none⟩ = some (.int .i64 n) := b6.cell 2; clear o6 hn6 hz6 hbel6 hne6)
  rw [rounds_succ]
  go_wp2_with (at_builtin; refine put_bytes [y5] rfl _ _ rfl O6.out rfl rfl (by first | rfl | simp) rfl rfl (by omega) ?_; intro A7 n7 c7 w7 o7 hn7 hz7 hbel7 hne7; have O7 := Lib.hid o7; have b7 : Bk w7 w.heap.size 91 #[.int .u8 3, .bool b, .int .i64 n, .string s] := (hne7 w.heap.size (by first | omega | (simp; done) | (simp; omega)) N6.out).2.trans b6; have N7 := Lib.hid (hne7 w.heap.size (by first | omega | (simp; done) | (simp; omega)) N6.out).1; have L7 : n7 ≤ 100000000000007 := (by omega); have S7 : w.heap.size < w7.heap.size := b7.lt; have X7 := Lib.hid (X6.out.trans hbel7); have p7 : w7.cell? ⟨w.heap.size, 2, none⟩ = some (.int .i64 n) := b7.cell 2; clear o7 hn7 hz7 hbel7 hne7)
  rw [rounds_succ]
  go_wp2_with (at_builtin; refine put_bytes [y6] rfl _ _ rfl O7.out rfl rfl (by first | rfl | simp) rfl rfl (by omega) ?_; intro A8 n8 c8 w8 o8 hn8 hz8 hbel8 hne8; have O8 := Lib.hid o8; have b8 : Bk w8 w.heap.size 91 #[.int .u8 3, .bool b, .int .i64 n, .string s] := (hne8 w.heap.size (by first | omega | (simp; done) | (simp; omega)) N7.out).2.trans b7; have N8 := Lib.hid (hne8 w.heap.size (by first | omega | (simp; done) | (simp; omega)) N7.out).1; have L8 : n8 ≤ 100000000000008 := (by omega); have S8 : w.heap.size < w8.heap.size := b8.lt; have X8 := Lib.hid (X7.out.trans hbel8); have p8 : w8.cell? ⟨w.heap.size, 2, none⟩ = some (.int .i64 n) := b8.cell 2; clear o8 hn8 hz8 hbel8 hne8)
  rw [rounds_succ]
  go_wp2_with (at_builtin; refine put_bytes [y7] rfl _ _ rfl O8.out rfl rfl (by first | rfl | simp) rfl rfl (by omega) ?_; intro A9 n9 c9 w9 o9 hn9 hz9 hbel9 hne9; have O9 := Lib.hid o9; have b9 : Bk w9 w.heap.size 91 #[.int .u8 3, .bool b, .int .i64 n, .string s] := (hne9 w.heap.size (by first | omega | (simp; done) | (simp; omega)) N8.out).2.trans b8; have N9 := Lib.hid (hne9 w.heap.size (by first | omega | (simp; done) | (simp; omega)) N8.out).1; have L9 : n9 ≤ 100000000000009 := (by omega); have S9 : w.heap.size < w9.heap.size := b9.lt; have X9 := Lib.hid (X8.out.trans hbel9); have p9 : w9.cell? ⟨w.heap.size, 2, none⟩ = some (.int .i64 n) := b9.cell 2; clear o9 hn9 hz9 hbel9 hne9)
  rw [rounds_succ]
  go_wp2
  go_ret
  exact ⟨A9, n9, c9, rfl, by have := O9.out; simp only [List.append_assoc, List.cons_append, List.nil_append] at this; exact this, X9.out⟩
theorem escZ_len (c : UInt8) : (escZ c).length ≤ 2 := by
  unfold escZ
  split
  · exact Nat.le_refl _
  · exact Nat.le_succ _
theorem escZ_flat_len (l : List UInt8) : (l.flatMap escZ).length ≤ 2 * l.length := by
  induction l with
  | nil => exact Nat.le_refl _
  | cons c l ih =>
    have := escZ_len c
    rw [List.flatMap_cons, List.length_append, List.length_cons]
    omega
theorem takeZ {s : ByteArray} {k : Nat} (h : k < s.size) : (s.data.toList.take (k + 1)).flatMap escZ = (s.data.toList.take k).flatMap escZ ++ escZ s[k] := by
  have h' : k < s.data.toList.length := by simpa using h
  have e : s.data.toList.take (k + 1) = s.data.toList.take k ++ [s[k]] := by rw [List.take_succ_eq_append_getElem h']; rfl
  rw [e, List.flatMap_append]
  simp
set_option maxRecDepth 100000 in
set_option maxHeartbeats 8000000 in
theorem put_text (hs : s.size ≤ 10000000000000) (h : OwnB w B A m c xs) (hm : m ≤ 100000000000000) : Calls Tryd.prog 64 #[.slice A m c, .agg #[.int .u8 4, .bool b, .int .i64 n, .string s]] w (PutOut w B (xs ++ 64 :: (s.data.toList.flatMap escZ ++ [0, 1]))) := by
  have HB := Lib.hid h.2
  have HO := Lib.hid (h.alloc (.cells #[.int .u8 4, .bool b, .int .i64 n, .string s] 91))
  have b0 : Bk (w.alloc (.cells #[.int .u8 4, .bool b, .int .i64 n, .string s] 91)) w.heap.size 91 #[.int .u8 4, .bool b, .int .i64 n, .string s] := Bk.new _ _ _
  have N0 := Lib.hid (h.ne (Nat.le_refl _))
  have HLx : Hid (xs.length = m) := Lib.hid h.len.symm
  clear h
  go_enter Tryd.func64, Tryd.ntmps64
  go_wp2_with (at_builtin; refine put_bytes [64] rfl _ _ rfl HO.out rfl rfl (by first | rfl | simp) rfl rfl (by omega) ?_; intro A1 n1 c1 w1 o1 hn1 hz1 hbel1 hne1; have O1 := Lib.hid o1; have b1 : Bk w1 w.heap.size 91 #[.int .u8 4, .bool b, .int .i64 n, .string s] := (hne1 w.heap.size (by first | omega | (simp; done) | (simp; omega)) N0.out).2.trans b0; have N1 := Lib.hid (hne1 w.heap.size (by first | omega | (simp; done) | (simp; omega)) N0.out).1; have L1 : n1 ≤ 100000000000001 := (by omega); have S1 : w.heap.size < w1.heap.size := b1.lt; have X1 := Lib.hid (((Below.refl B w).alloc HB.out _).trans hbel1); have p1 : w1.cell? ⟨w.heap.size, 3, none⟩ = some (.string s) := b1.cell 3; clear o1 hn1 hz1 hbel1 hne1)
  go_loopw [0, 52] (fun u v wr => ∃ (k n0 c0 : Nat) (A0 : Option Addr), k ≤ s.size ∧ v = .int .i64 k ∧ u = .slice A0 n0 c0 ∧ Hid (OwnB wr B A0 n0 c0 (xs ++ 64 :: (s.data.toList.take k).flatMap escZ)) ∧ Bk wr w.heap.size 91 #[.int .u8 4, .bool b, .int .i64 n, .string s] ∧ Hid (blk A0 c0 ≠ some w.heap.size) ∧ Hid (Below B w wr)) (fun _ v _ => s.size - (intOf v).toNat)
  case atStart => exact ⟨0, n1, c1, A1, Nat.zero_le _, rfl, rfl, O1, b1, N1, X1⟩
  case round =>
    obtain ⟨k, n2, c2, A2, hk, rfl, rfl, O2, b2, N2, X2⟩ := hrel
    have L2 : n2 ≤ 130000000000000 := by
      have h1 := O2.out.len
      have h2 := escZ_flat_len (s.data.toList.take k)
      have h3 : (s.data.toList.take k).length ≤ k := List.length_take_le _ _
      rw [List.length_append, HLx.out, List.length_cons] at h1
      omega
    have p2 : wr.cell? ⟨w.heap.size, 3, none⟩ = some (.string s) := b2.cell 3
    have S2 : w.heap.size < wr.heap.size := b2.lt
    by_cases hlt : k < s.size
    · have HT := Lib.hid (takeZ hlt)
      by_cases hz : s[k].toNat = 0
      · have HE : Hid (escZ s[k] = [0, 255]) := Lib.hid (by rw [show s[k] = 0 from UInt8.toNat_inj.1 hz]; rfl)
        have m1 : True := trivial
        go_wp2_with (first
          | (have z := m1; clear z m1; at_builtin; refine put_bytes [0] rfl _ _ rfl O2.out rfl rfl (by first | rfl | simp) rfl rfl (by omega) ?_; intro A3 n3 c3 w3 o3 hn3 hz3 hbel3 hne3; have O3 := Lib.hid o3; have b3 : Bk w3 w.heap.size 91 #[.int .u8 4, .bool b, .int .i64 n, .string s] := (hne3 w.heap.size (by first | omega | (simp; done) | (simp; omega)) N2.out).2.trans b2; have N3 := Lib.hid (hne3 w.heap.size (by first | omega | (simp; done) | (simp; omega)) N2.out).1; have L3 : n3 ≤ 130000000000001 := (by omega); have S3 : w.heap.size < w3.heap.size := b3.lt; have X3 := Lib.hid (X2.out.trans hbel3); have p3 : w3.cell? ⟨w.heap.size, 3, none⟩ = some (.string s) := b3.cell 3; clear o3 hn3 hz3 hbel3 hne3; have m2 : True := trivial)
          | (have z := m2; clear z m2; at_builtin; refine put_bytes [255] rfl _ _ rfl O3.out rfl rfl (by first | rfl | simp) rfl rfl (by omega) ?_; intro A4 n4 c4 w4 o4 hn4 hz4 hbel4 hne4; have O4 := Lib.hid o4; have b4 : Bk w4 w.heap.size 91 #[.int .u8 4, .bool b, .int .i64 n, .string s] := (hne4 w.heap.size (by first | omega | (simp; done) | (simp; omega)) N3.out).2.trans b3; have N4 := Lib.hid (hne4 w.heap.size (by first | omega | (simp; done) | (simp; omega)) N3.out).1; have L4 : n4 ≤ 130000000000002 := (by omega); have S4 : w.heap.size < w4.heap.size := b4.lt; have X4 := Lib.hid (X3.out.trans hbel4); have p4 : w4.cell? ⟨w.heap.size, 3, none⟩ = some (.string s) := b4.cell 3; clear o4 hn4 hz4 hbel4 hne4))
        go_roundw
        case rel => exact ⟨k + 1, n4, c4, A4, by omega, by go_num, rfl, Lib.hid (by have := O4.out; rw [HT.out, HE.out]; simp only [List.append_assoc, List.cons_append, List.nil_append] at this ⊢; exact this), b4, N4, X4⟩
        case measure => simp [intOf]; omega
      · have z0 : ((s[k].toNat : Int) == 0) = false := by simp; omega
        have HE : Hid (escZ s[k] = [s[k]]) := Lib.hid (by unfold escZ; rw [if_neg (fun e => hz (by rw [e]; rfl))])
        go_wp2_with (at_builtin; refine put_bytes [s[k]] rfl _ _ rfl O2.out rfl rfl (by first | rfl | simp) rfl rfl (by omega) ?_; intro A3 n3 c3 w3 o3 hn3 hz3 hbel3 hne3; have O3 := Lib.hid o3; have b3 : Bk w3 w.heap.size 91 #[.int .u8 4, .bool b, .int .i64 n, .string s] := (hne3 w.heap.size (by first | omega | (simp; done) | (simp; omega)) N2.out).2.trans b2; have N3 := Lib.hid (hne3 w.heap.size (by first | omega | (simp; done) | (simp; omega)) N2.out).1; have L3 : n3 ≤ 130000000000001 := (by omega); have S3 : w.heap.size < w3.heap.size := b3.lt; have X3 := Lib.hid (X2.out.trans hbel3); have p3 : w3.cell? ⟨w.heap.size, 3, none⟩ = some (.string s) := b3.cell 3; clear o3 hn3 hz3 hbel3 hne3)
        go_roundw
        case rel => exact ⟨k + 1, n3, c3, A3, by omega, by go_num, rfl, Lib.hid (by have := O3.out; rw [HT.out, HE.out]; simp only [List.append_assoc, List.cons_append, List.nil_append] at this ⊢; exact this), b3, N3, X3⟩
        case measure => simp [intOf]; omega
    · have hks : k = s.size := by omega
      have HTk : Hid (s.data.toList.take k = s.data.toList) := Lib.hid (List.take_of_length_le (by simp; omega))
      clear hks
      go_wp2_with (at_builtin; refine put_bytes [0, 1] rfl _ _ rfl O2.out rfl rfl (by first | rfl | simp) rfl rfl (by omega) ?_; intro A5 n5 c5 w5 o5 hn5 hz5 hbel5 hne5; have O5 := Lib.hid o5; have X5 := Lib.hid (X2.out.trans hbel5); clear o5 hn5 hz5 hbel5 hne5)
      go_ret
      exact ⟨A5, n5, c5, rfl, by have := O5.out; rw [HTk.out] at this; simp only [List.append_assoc, List.cons_append, List.nil_append] at this ⊢; exact this, X5.out⟩
theorem put_any (d : Dat) (hn : -9223372036854775808 ≤ d.n ∧ d.n ≤ 9223372036854775807) (hs : d.s.size ≤ 10000000000000) (h : OwnB w B A m c xs) (hm : m ≤ 100000000000000) :
    Calls Tryd.prog 64 #[.slice A m c, .agg #[.int .u8 d.k, .bool d.b, .int .i64 d.n, .string d.s]] w (PutOut w B (xs ++ putT d)) := by
  obtain ⟨k, b, n, s⟩ := d
  unfold putT
  by_cases h1 : k = 1
  · subst h1; exact put_null n b s A m c B xs w h hm
  rw [if_neg h1]
  by_cases h2 : k = 2
  · subst h2; exact put_bool n b s A m c B xs w h hm
  rw [if_neg h2]
  by_cases h3 : k = 3
  · subst h3; exact put_int n b s A m c B xs w hn h hm
  rw [if_neg h3]
  by_cases h4 : k = 4
  · subst h4; exact put_text n b s A m c B xs w hs h hm
  rw [if_neg h4, List.append_nil]
  exact put_none k n b s A m c B xs w h1 h2 h3 h4 h
end
end Go.Proofs.YtngeioghihbkeaaDoor
