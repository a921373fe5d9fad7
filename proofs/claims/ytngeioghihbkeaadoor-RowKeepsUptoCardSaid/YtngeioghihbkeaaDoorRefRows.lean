/- penstockref02.bytes: a datum's bytes. penstockref02.Check, Pick, Hash, Encode: any row. Conditions: each theorem states its own. -/
import Derived.Test.YtngeioghihbkeaaDoorRowPut
import Derived.Test.YtngeioghihbkeaaDoorRefCheck
import Derived.Test.YtngeioghihbkeaaDoorHashes
import Derived.Test.YtngeioghihbkeaaDoorRowEncs
namespace Go.Proofs.YtngeioghihbkeaaDoor
open Go.RowKit

section
variable (k n : Int) (b : Bool) (s : ByteArray) (B : Nat) (w : World)
set_option maxRecDepth 100000 in
set_option maxHeartbeats 1000000 in
theorem rput_null (hB : B ≤ w.heap.size) : Calls Tryd.prog 85 #[.agg #[.int .u8 1, .bool b, .int .i64 n, .string s]] w (PutOut w B ([] ++ [16])) := by
  have h : OwnB w B none 0 0 [] := OwnB.nil w hB
  have HB := Lib.hid h.2
  have HO := Lib.hid (h.alloc (.cells #[.int .u8 1, .bool b, .int .i64 n, .string s] 91))
  clear h
  go_enter Tryd.func85, Tryd.ntmps85
  go_wp2_with (at_builtin; refine put_bytes [16] rfl _ _ rfl HO.out rfl rfl (by first | rfl | simp) rfl rfl (by omega) ?_; intro A2 n2 c2 w2 o2 hn hz hbel hne; have O2 := Lib.hid o2; clear o2 hn hne)
  go_ret
  exact ⟨A2, n2, c2, rfl, O2.out, ((Below.refl B w).alloc HB.out _).trans hbel⟩
set_option maxRecDepth 100000 in
set_option maxHeartbeats 1000000 in
theorem rput_bool (hB : B ≤ w.heap.size) : Calls Tryd.prog 85 #[.agg #[.int .u8 2, .bool b, .int .i64 n, .string s]] w (PutOut w B ([] ++ [if b then 33 else 32])) := by
  have h : OwnB w B none 0 0 [] := OwnB.nil w hB
  have HB := Lib.hid h.2
  have HO := Lib.hid (h.alloc (.cells #[.int .u8 2, .bool b, .int .i64 n, .string s] 91))
  clear h
  cases b
  · go_enter Tryd.func85, Tryd.ntmps85
    go_wp2_with (at_builtin; refine put_bytes [32] rfl _ _ rfl HO.out rfl rfl (by first | rfl | simp) rfl rfl (by omega) ?_; intro A2 n2 c2 w2 o2 hn hz hbel hne; have O2 := Lib.hid o2; clear o2 hn hne)
    go_ret
    exact ⟨A2, n2, c2, rfl, O2.out, ((Below.refl B w).alloc HB.out _).trans hbel⟩
  · go_enter Tryd.func85, Tryd.ntmps85
    go_wp2_with (at_builtin; refine put_bytes [33] rfl _ _ rfl HO.out rfl rfl (by first | rfl | simp) rfl rfl (by omega) ?_; intro A2 n2 c2 w2 o2 hn hz hbel hne; have O2 := Lib.hid o2; clear o2 hn hne)
    go_ret
    exact ⟨A2, n2, c2, rfl, O2.out, ((Below.refl B w).alloc HB.out _).trans hbel⟩
set_option maxRecDepth 100000 in
set_option maxHeartbeats 1000000 in
theorem rput_none (h1 : ¬ k = 1) (h2 : ¬ k = 2) (h3 : ¬ k = 3) (h4 : ¬ k = 4) (hB : B ≤ w.heap.size) : Calls Tryd.prog 85 #[.agg #[.int .u8 k, .bool b, .int .i64 n, .string s]] w (PutOut w B []) := by
  have h : OwnB w B none 0 0 [] := OwnB.nil w hB
  have HB := Lib.hid h.2
  have HO := Lib.hid (h.alloc (.cells #[.int .u8 k, .bool b, .int .i64 n, .string s] 91))
  have z1 : (k == 1) = false := by simpa using h1
  have z2 : (k == 2) = false := by simpa using h2
  have z3 : (k == 3) = false := by simpa using h3
  have z4 : (k == 4) = false := by simpa using h4
  clear h
  go_enter Tryd.func85, Tryd.ntmps85
  go_wp2
  go_ret
  exact ⟨none, 0, 0, rfl, HO.out, (Below.refl B w).alloc HB.out _⟩
set_option maxRecDepth 100000 in
set_option maxHeartbeats 8000000 in
theorem rput_int (hn : -9223372036854775808 ≤ n ∧ n ≤ 9223372036854775807) (hB : B ≤ w.heap.size) : Calls Tryd.prog 85 #[.agg #[.int .u8 3, .bool b, .int .i64 n, .string s]] w (PutOut w B ([] ++ 48 :: be8 (n + 9223372036854775808).toNat)) := by
  have h : OwnB w B none 0 0 [] := OwnB.nil w hB
  have HB := Lib.hid h.2
  have HO := Lib.hid (h.alloc (.cells #[.int .u8 3, .bool b, .int .i64 n, .string s] 91))
  have b0 : Bk (w.alloc (.cells #[.int .u8 3, .bool b, .int .i64 n, .string s] 91)) w.heap.size 91 #[.int .u8 3, .bool b, .int .i64 n, .string s] := Bk.new _ _ _
  have N0 := Lib.hid (h.ne (Nat.le_refl _))
  clear h
  obtain ⟨u, hu⟩ : ∃ u, IntKind.u64.wrap n = u := ⟨_, rfl⟩
  obtain ⟨M, hM⟩ : ∃ M, (n + 9223372036854775808).toNat = M := ⟨_, rfl⟩
  have q1 : IntKind.u64.wrap (u + 9223372036854775808) = (M : Int) := by
    rw [← hu, IntKind.wrap_u64, IntKind.wrap_u64]
    omega
  have hM64 : M < 18446744073709551616 := by omega
  obtain ⟨y0, hy0⟩ : ∃ y : UInt8, UInt8.ofNat (M / 2 ^ 56) = y := ⟨_, rfl⟩
  have w100 : (M : Int) / 72057594037927936 = (y0.toNat : Int) := by rw [← hy0, UInt8.toNat_ofNat']; omega
  have HY0 := Lib.hid hy0
  clear hy0
  obtain ⟨y1, hy1⟩ : ∃ y : UInt8, UInt8.ofNat (M / 2 ^ 48) = y := ⟨_, rfl⟩
  have w101 : IntKind.u8.wrap ((M : Int) / 281474976710656) = (y1.toNat : Int) := by rw [← hy1, UInt8.toNat_ofNat', IntKind.wrap_u8]; omega
  have HY1 := Lib.hid hy1
  clear hy1
  obtain ⟨y2, hy2⟩ : ∃ y : UInt8, UInt8.ofNat (M / 2 ^ 40) = y := ⟨_, rfl⟩
  have w102 : IntKind.u8.wrap ((M : Int) / 1099511627776) = (y2.toNat : Int) := by rw [← hy2, UInt8.toNat_ofNat', IntKind.wrap_u8]; omega
  have HY2 := Lib.hid hy2
  clear hy2
  obtain ⟨y3, hy3⟩ : ∃ y : UInt8, UInt8.ofNat (M / 2 ^ 32) = y := ⟨_, rfl⟩
  have w103 : IntKind.u8.wrap ((M : Int) / 4294967296) = (y3.toNat : Int) := by rw [← hy3, UInt8.toNat_ofNat', IntKind.wrap_u8]; omega
  have HY3 := Lib.hid hy3
  clear hy3
  obtain ⟨y4, hy4⟩ : ∃ y : UInt8, UInt8.ofNat (M / 2 ^ 24) = y := ⟨_, rfl⟩
  have w104 : IntKind.u8.wrap ((M : Int) / 16777216) = (y4.toNat : Int) := by rw [← hy4, UInt8.toNat_ofNat', IntKind.wrap_u8]; omega
  have HY4 := Lib.hid hy4
  clear hy4
  obtain ⟨y5, hy5⟩ : ∃ y : UInt8, UInt8.ofNat (M / 2 ^ 16) = y := ⟨_, rfl⟩
  have w105 : IntKind.u8.wrap ((M : Int) / 65536) = (y5.toNat : Int) := by rw [← hy5, UInt8.toNat_ofNat', IntKind.wrap_u8]; omega
  have HY5 := Lib.hid hy5
  clear hy5
  obtain ⟨y6, hy6⟩ : ∃ y : UInt8, UInt8.ofNat (M / 2 ^ 8) = y := ⟨_, rfl⟩
  have w106 : IntKind.u8.wrap ((M : Int) / 256) = (y6.toNat : Int) := by rw [← hy6, UInt8.toNat_ofNat', IntKind.wrap_u8]; omega
  have HY6 := Lib.hid hy6
  clear hy6
  obtain ⟨y7, hy7⟩ : ∃ y : UInt8, UInt8.ofNat (M) = y := ⟨_, rfl⟩
  have w107 : IntKind.u8.wrap ((M : Int)) = (y7.toNat : Int) := by rw [← hy7, UInt8.toNat_ofNat', IntKind.wrap_u8]; omega
  have HY7 := Lib.hid hy7
  clear hy7
  rw [hM]
  have HBE : Hid (be8 M = [y0, y1, y2, y3, y4, y5, y6, y7]) := Lib.hid (by unfold be8; rw [HY0.out, HY1.out, HY2.out, HY3.out, HY4.out, HY5.out, HY6.out, HY7.out])
  rw [HBE.out]
  clear hM hn HBE HY0 HY1 HY2 HY3 HY4 HY5 HY6 HY7
  go_enter Tryd.func85, Tryd.ntmps85
  go_wp2_with (at_builtin; refine put_bytes [48] rfl _ _ rfl HO.out rfl rfl (by first | rfl | simp) rfl rfl (by omega) ?_; intro A1 n1 c1 w1 o1 hn1 hz1 hbel1 hne1; have O1 := Lib.hid o1; have b1 : Bk w1 w.heap.size 91 #[.int .u8 3, .bool b, .int .i64 n, .string s] := (hne1 w.heap.size (by first | omega | (simp; done) | (simp; omega)) N0.out).2.trans b0; have N1 := Lib.hid (hne1 w.heap.size (by first | omega | (simp; done) | (simp; omega)) N0.out).1; have L1 : n1 ≤ 100000000000001 := (by omega); have S1 : w.heap.size < w1.heap.size := b1.lt; have X1 := Lib.hid (((Below.refl B w).alloc HB.out _).trans hbel1); have p1 : w1.cell? ⟨w.heap.size, 2, none⟩ = some (.int .i64 n) := b1.cell 2; clear o1 hn1 hz1 hbel1 hne1)
  refine wp_loop_rounds 9 ?_
  rw [rounds_succ]
  go_wp2_with (at_builtin; refine put_bytes [y0] rfl _ _ rfl O1.out rfl rfl (by first | rfl | simp) rfl rfl (by omega) ?_; intro A2 n2 c2 w2 o2 hn2 hz2 hbel2 hne2; have O2 := Lib.hid o2; have b2 : Bk w2 w.heap.size 91 #[.int .u8 3, .bool b, .int .i64 n, .string s] := (hne2 w.heap.size (by first | omega | (simp; done) | (simp; omega)) N1.out).2.trans b1; have N2 := Lib.hid (hne2 w.heap.size (by first | omega | (simp; done) | (simp; omega)) N1.out).1; have L2 : n2 ≤ 100000000000002 := (by omega); have S2 : w.heap.size < w2.heap.size := b2.lt; have X2 := Lib.hid (X1.out.trans hbel2); have p2 : w2.cell? ⟨w.heap.size, 2, none⟩ = some (.int .i64 n) := b2.cell 2; clear o2 hn2 hz2 hbel2 hne2)
  rw [rounds_succ]
  go_wp2_with (at_builtin; refine put_bytes [y1] rfl _ _ rfl O2.out rfl rfl (by first | rfl | simp) rfl rfl (by omega) ?_; intro A3 n3 c3 w3 o3 hn3 hz3 hbel3 hne3; have O3 := Lib.hid o3; have b3 : Bk w3 w.heap.size 91 #[.int .u8 3, .bool b, .int .i64 n, .string s] := (hne3 w.heap.size (by first | omega | (simp; done) | (simp; omega)) N2.out).2.trans b2; have N3 := Lib.hid (hne3 w.heap.size (by first | omega | (simp; done) | (simp; omega)) N2.out).1; have L3 : n3 ≤ 100000000000003 := (by omega); have S3 : w.heap.size < w3.heap.size := b3.lt; have X3 := Lib.hid (X2.out.trans hbel3); have p3 : w3.cell? ⟨w.heap.size, 2, none⟩ = some (.int .i64 n) := b3.cell 2; clear o3 hn3 hz3 hbel3 hne3)
  rw [rounds_succ]
  go_wp2_with (at_builtin; refine put_bytes [y2] rfl _ _ rfl O3.out rfl rfl (by first | rfl | simp) rfl rfl (by omega) ?_; intro A4 n4 c4 w4 o4 hn4 hz4 hbel4 hne4; have O4 := Lib.hid o4; have b4 : Bk w4 w.heap.size 91 #[.int .u8 3, .bool b, .int .i64 n, .string s] := (hne4 w.heap.size (by first | omega | (simp; done) | (simp; omega)) N3.out).2.trans b3; have N4 := Lib.hid (hne4 w.heap.size (by first | omega | (simp; done) | (simp; omega)) N3.out).1; have L4 : n4 ≤ 100000000000004 := (by omega); have S4 : w.heap.size < w4.heap.size := b4.lt; have X4 := Lib.hid (X3.out.trans hbel4); have p4 : w4.cell? ⟨w.heap.size, 2, none⟩ = some (.int .i64 n) := b4.cell 2; clear o4 hn4 hz4 hbel4 hne4)
  rw [rounds_succ]
  go_wp2_with (at_builtin; refine put_bytes [y3] rfl _ _ rfl O4.out rfl rfl (by first | rfl | simp) rfl rfl (by omega) ?_; intro A5 n5 c5 w5 o5 hn5 hz5 hbel5 hne5; have O5 := Lib.hid o5; have b5 : Bk w5 w.heap.size 91 #[.int .u8 3, .bool b, .int .i64 n, .string s] := (hne5 w.heap.size (by first | omega | (simp; done) | (simp; omega)) N4.out).2.trans b4; have N5 := Lib.hid (hne5 w.heap.size (by first | omega | (simp; done) | (simp; omega)) N4.out).1; have L5 : n5 ≤ 100000000000005 := (by omega); have S5 : w.heap.size < w5.heap.size := b5.lt; have X5 := Lib.hid (X4.out.trans hbel5); have p5 : w5.cell? ⟨w.heap.size, 2, none⟩ = some (.int .i64 n) := b5.cell 2; clear o5 hn5 hz5 hbel5 hne5)
  rw [rounds_succ]
  go_wp2_with (at_builtin; refine put_bytes [y4] rfl _ _ rfl O5.out rfl rfl (by first | rfl | simp) rfl rfl (by omega) ?_; intro A6 n6 c6 w6 o6 hn6 hz6 hbel6 hne6; have O6 := Lib.hid o6; have b6 : Bk w6 w.heap.size 91 #[.int .u8 3, .bool b, .int .i64 n, .string s] := (hne6 w.heap.size (by first | omega | (simp; done) | (simp; omega)) N5.out).2.trans b5; have N6 := Lib.hid (hne6 w.heap.size (by first | omega | (simp; done) | (simp; omega)) N5.out).1; have L6 : n6 ≤ 100000000000006 := (by omega); have S6 : w.heap.size < w6.heap.size := b6.lt; have X6 := Lib.hid (X5.out.trans hbel6); have p6 : w6.cell? ⟨w.heap.size, 2, none⟩ = some (.int .i64 n) := b6.cell 2; clear o6 hn6 hz6 hbel6 hne6)
  rw [rounds_succ]
  go_wp2_with (at_builtin; refine put_bytes [y5] rfl _ _ rfl O6.out rfl rfl (by first | rfl | simp) rfl rfl (by omega) ?_; intro A7 n7 c7 w7 o7 hn7 hz7 hbel7 hne7; have O7 := Lib.hid o7; have b7 : Bk w7 w.heap.size 91 #[.int .u8 3, .bool b, .int .i64 n, .string s] := (hne7 w.heap.size (by first | omega | (simp; done) | (simp; omega)) N6.out).2.trans b6; have N7 := Lib.hid (hne7 w.heap.size (by first | omega | (simp; done) | (simp; omega)) N6.out).1; have L7 : n7 ≤ 100000000000007 := (by omega); have S7 : w.heap.size < w7.heap.size := b7.lt; have X7 := Lib.hid (X6.out.trans hbel7); have p7 : w7.cell? ⟨w.heap.size, 2, none⟩ = some (.int .i64 n) := b7.cell 2; clear o7 hn7 hz7 hbel7 hne7)
  rw [rounds_succ]
  go_wp2_with (at_builtin; refine put_bytes [y6] rfl _ _ rfl O7.out rfl rfl (by first | rfl | simp) rfl rfl (by omega) ?_; intro A8 n8 c8 w8 o8 hn8 hz8 hbel8 hne8; have O8 := Lib.hid o8; have b8 : Bk w8 w.heap.size 91 #[.int .u8 3, .bool b, .int .i64 n, .string s] := (hne8 w.heap.size (by first | omega | (simp; done) | (simp; omega)) N7.out).2.trans b7; have N8 := Lib.hid (hne8 w.heap.size (by first | omega | (simp; done) | (simp; omega)) N7.out).1; have L8 : n8 ≤ 100000000000008 := (by omega); have S8 : w.heap.size < w8.heap.size := b8.lt; have X8 := Lib.hid (X7.out.trans hbel8); have p8 : w8.cell? ⟨w.heap.size, 2, none⟩ = some (.int .i64 n) := b8.cell 2; clear o8 hn8 hz8 hbel8 hne8)
  rw [rounds_succ]
  go_wp2_with (at_builtin; refine put_bytes [y7] rfl _ _ rfl O8.out rfl rfl (by first | rfl | simp) rfl rfl (by omega) ?_; intro A9 n9 c9 w9 o9 hn9 hz9 hbel9 hne9; have O9 := Lib.hid o9; have b9 : Bk w9 w.heap.size 91 #[.int .u8 3, .bool b, .int .i64 n, .string s] := (hne9 w.heap.size (by first | omega | (simp; done) | (simp; omega)) N8.out).2.trans b8; have N9 := Lib.hid (hne9 w.heap.size (by first | omega | (simp; done) | (simp; omega)) N8.out).1; have L9 : n9 ≤ 100000000000009 := (by omega); have S9 : w.heap.size < w9.heap.size := b9.lt; have X9 := Lib.hid (X8.out.trans hbel9); have p9 : w9.cell? ⟨w.heap.size, 2, none⟩ = some (.int .i64 n) := b9.cell 2; clear o9 hn9 hz9 hbel9 hne9)
  rw [rounds_succ]
  go_wp2
  go_ret
  exact ⟨A9, n9, c9, rfl, by have := O9.out; simp only [List.append_assoc, List.cons_append, List.nil_append] at this; exact this, X9.out⟩
set_option maxRecDepth 100000 in
set_option maxHeartbeats 8000000 in
theorem rput_text (hs : s.size ≤ 10000000000000) (hB : B ≤ w.heap.size) : Calls Tryd.prog 85 #[.agg #[.int .u8 4, .bool b, .int .i64 n, .string s]] w (PutOut w B ([] ++ 64 :: (s.data.toList.flatMap escZ ++ [0, 1]))) := by
  have h : OwnB w B none 0 0 [] := OwnB.nil w hB
  have HB := Lib.hid h.2
  have HO := Lib.hid (h.alloc (.cells #[.int .u8 4, .bool b, .int .i64 n, .string s] 91))
  have b0 : Bk (w.alloc (.cells #[.int .u8 4, .bool b, .int .i64 n, .string s] 91)) w.heap.size 91 #[.int .u8 4, .bool b, .int .i64 n, .string s] := Bk.new _ _ _
  have N0 := Lib.hid (h.ne (Nat.le_refl _))
  have HLx : Hid (([] : List UInt8).length = 0) := Lib.hid h.len.symm
  clear h
  go_enter Tryd.func85, Tryd.ntmps85
  go_wp2_with (at_builtin; refine put_bytes [64] rfl _ _ rfl HO.out rfl rfl (by first | rfl | simp) rfl rfl (by omega) ?_; intro A1 n1 c1 w1 o1 hn1 hz1 hbel1 hne1; have O1 := Lib.hid o1; have b1 : Bk w1 w.heap.size 91 #[.int .u8 4, .bool b, .int .i64 n, .string s] := (hne1 w.heap.size (by first | omega | (simp; done) | (simp; omega)) N0.out).2.trans b0; have N1 := Lib.hid (hne1 w.heap.size (by first | omega | (simp; done) | (simp; omega)) N0.out).1; have L1 : n1 ≤ 100000000000001 := (by omega); have S1 : w.heap.size < w1.heap.size := b1.lt; have X1 := Lib.hid (((Below.refl B w).alloc HB.out _).trans hbel1); have p1 : w1.cell? ⟨w.heap.size, 3, none⟩ = some (.string s) := b1.cell 3; clear o1 hn1 hz1 hbel1 hne1)
  go_loopw [3, 6] (fun u v wr => ∃ (k n0 c0 : Nat) (A0 : Option Addr), k ≤ s.size ∧ v = .int .i64 k ∧ u = .slice A0 n0 c0 ∧ Hid (OwnB wr B A0 n0 c0 ([] ++ 64 :: (s.data.toList.take k).flatMap escZ)) ∧ Bk wr w.heap.size 91 #[.int .u8 4, .bool b, .int .i64 n, .string s] ∧ Hid (blk A0 c0 ≠ some w.heap.size) ∧ Hid (Below B w wr)) (fun _ v _ => s.size - (intOf v).toNat)
  case atStart => exact ⟨0, n1, c1, A1, Nat.zero_le _, rfl, rfl, O1, b1, N1, X1⟩
  case round =>
    obtain ⟨k, n2, c2, A2, hk, rfl, rfl, O2, b2, N2, X2⟩ := hrel
    have L2 : n2 ≤ 130000000000000 := by
      have h1 := O2.out.len
      have h2 := escZ_flat_len (s.data.toList.take k)
      have h3 : (s.data.toList.take k).length ≤ k := List.length_take_le _ _
      rw [List.length_append, HLx.out, List.length_cons] at h1
      omega
    have p2 : wr.cell? ⟨w.heap.size, 3, none⟩ = some (.string s) := b2.cell 3
    have S2 : w.heap.size < wr.heap.size := b2.lt
    by_cases hlt : k < s.size
    · have HT := Lib.hid (takeZ hlt)
      by_cases hz : s[k].toNat = 0
      · have HE : Hid (escZ s[k] = [0, 255]) := Lib.hid (by rw [show s[k] = 0 from UInt8.toNat_inj.1 hz]; rfl)
        have m1 : True := trivial
        go_wp2_with (first
          | (have z := m1; clear z m1; at_builtin; refine put_bytes [0] rfl _ _ rfl O2.out rfl rfl (by first | rfl | simp) rfl rfl (by omega) ?_; intro A3 n3 c3 w3 o3 hn3 hz3 hbel3 hne3; have O3 := Lib.hid o3; have b3 : Bk w3 w.heap.size 91 #[.int .u8 4, .bool b, .int .i64 n, .string s] := (hne3 w.heap.size (by first | omega | (simp; done) | (simp; omega)) N2.out).2.trans b2; have N3 := Lib.hid (hne3 w.heap.size (by first | omega | (simp; done) | (simp; omega)) N2.out).1; have L3 : n3 ≤ 130000000000001 := (by omega); have S3 : w.heap.size < w3.heap.size := b3.lt; have X3 := Lib.hid (X2.out.trans hbel3); have p3 : w3.cell? ⟨w.heap.size, 3, none⟩ = some (.string s) := b3.cell 3; clear o3 hn3 hz3 hbel3 hne3; have m2 : True := trivial)
          | (have z := m2; clear z m2; at_builtin; refine put_bytes [255] rfl _ _ rfl O3.out rfl rfl (by first | rfl | simp) rfl rfl (by omega) ?_; intro A4 n4 c4 w4 o4 hn4 hz4 hbel4 hne4; have O4 := Lib.hid o4; have b4 : Bk w4 w.heap.size 91 #[.int .u8 4, .bool b, .int .i64 n, .string s] := (hne4 w.heap.size (by first | omega | (simp; done) | (simp; omega)) N3.out).2.trans b3; have N4 := Lib.hid (hne4 w.heap.size (by first | omega | (simp; done) | (simp; omega)) N3.out).1; have L4 : n4 ≤ 130000000000002 := (by omega); have S4 : w.heap.size < w4.heap.size := b4.lt; have X4 := Lib.hid (X3.out.trans hbel4); have p4 : w4.cell? ⟨w.heap.size, 3, none⟩ = some (.string s) := b4.cell 3; clear o4 hn4 hz4 hbel4 hne4))
        go_roundw
        case rel => exact ⟨k + 1, n4, c4, A4, by omega, by go_num, rfl, Lib.hid (by have := O4.out; rw [HT.out, HE.out]; simp only [List.append_assoc, List.cons_append, List.nil_append] at this ⊢; exact this), b4, N4, X4⟩
        case measure => simp [intOf]; omega
      · have z0 : ((s[k].toNat : Int) == 0) = false := by simp; omega
        have HE : Hid (escZ s[k] = [s[k]]) := Lib.hid (by unfold escZ; rw [if_neg (fun e => hz (by rw [e]; rfl))])
        go_wp2_with (at_builtin; refine put_bytes [s[k]] rfl _ _ rfl O2.out rfl rfl (by first | rfl | simp) rfl rfl (by omega) ?_; intro A3 n3 c3 w3 o3 hn3 hz3 hbel3 hne3; have O3 := Lib.hid o3; have b3 : Bk w3 w.heap.size 91 #[.int .u8 4, .bool b, .int .i64 n, .string s] := (hne3 w.heap.size (by first | omega | (simp; done) | (simp; omega)) N2.out).2.trans b2; have N3 := Lib.hid (hne3 w.heap.size (by first | omega | (simp; done) | (simp; omega)) N2.out).1; have L3 : n3 ≤ 130000000000001 := (by omega); have S3 : w.heap.size < w3.heap.size := b3.lt; have X3 := Lib.hid (X2.out.trans hbel3); have p3 : w3.cell? ⟨w.heap.size, 3, none⟩ = some (.string s) := b3.cell 3; clear o3 hn3 hz3 hbel3 hne3)
        go_roundw
        case rel => exact ⟨k + 1, n3, c3, A3, by omega, by go_num, rfl, Lib.hid (by have := O3.out; rw [HT.out, HE.out]; simp only [List.append_assoc, List.cons_append, List.nil_append] at this ⊢; exact this), b3, N3, X3⟩
        case measure => simp [intOf]; omega
    · have hks : k = s.size := by omega
      have HTk : Hid (s.data.toList.take k = s.data.toList) := Lib.hid (List.take_of_length_le (by simp; omega))
      clear hks
      go_wp2_with (at_builtin; refine put_bytes [0, 1] rfl _ _ rfl O2.out rfl rfl (by first | rfl | simp) rfl rfl (by omega) ?_; intro A5 n5 c5 w5 o5 hn5 hz5 hbel5 hne5; have O5 := Lib.hid o5; have X5 := Lib.hid (X2.out.trans hbel5); clear o5 hn5 hz5 hbel5 hne5)
      go_ret
      exact ⟨A5, n5, c5, rfl, by have := O5.out; rw [HTk.out] at this; simp only [List.append_assoc, List.cons_append, List.nil_append] at this ⊢; exact this, X5.out⟩
theorem rput_any (d : Dat) (hn : -9223372036854775808 ≤ d.n ∧ d.n ≤ 9223372036854775807) (hs : d.s.size ≤ 10000000000000) (hB : B ≤ w.heap.size) :
    Calls Tryd.prog 85 #[.agg #[.int .u8 d.k, .bool d.b, .int .i64 d.n, .string d.s]] w (PutOut w B (putT d)) := by
  obtain ⟨k, b, n, s⟩ := d
  unfold putT
  by_cases h1 : k = 1
  · subst h1; exact rput_null n b s B w hB
  rw [if_neg h1]
  by_cases h2 : k = 2
  · subst h2; exact rput_bool n b s B w hB
  rw [if_neg h2]
  by_cases h3 : k = 3
  · subst h3; exact rput_int n b s B w hn hB
  rw [if_neg h3]
  by_cases h4 : k = 4
  · subst h4; exact rput_text n b s B w hs hB
  · rw [if_neg h4]; exact rput_none k n b s B w h1 h2 h3 h4 hB
end
end Go.Proofs.YtngeioghihbkeaaDoor
namespace Go.Proofs.YtngeioghihbkeaaDoor
open Go.RowKit Go.Maps

set_option maxRecDepth 100000 in
set_option maxHeartbeats 2000000 in
theorem refCheck_any (A : Option Addr) (c n : Nat) (l : List Dat) (w : World) (e1 : n = l.length) (h1 : Rw w A c l) (ht : ∀ d ∈ l, d.s.size ≤ 10000000000000) :
    Calls Tryd.prog 47 #[.slice A n c] w fun e w' => e = .returned (.int .i64 (checkR l)) ∧ Ext w w' := by
  have E1 := Lib.hid e1
  have hl1 := h1.le
  rw [← e1] at hl1
  have H1 := Lib.hid h1
  have HT := Lib.hid ht
  clear e1 h1 ht
  by_cases h32 : 32 < n
  · have HR : Hid (checkR l = 20) := Lib.hid (by unfold checkR; rw [if_pos (by rw [← E1.out]; exact h32)])
    go_enter Tryd.func47, Tryd.ntmps47
    go_wp2
    go_ret
    exact ⟨(by rw [HR.out]; rfl), Ext.refl w⟩
  have HR : Hid (checkR l = checkL l) := Lib.hid (by unfold checkR; rw [if_neg (by rw [← E1.out]; exact h32)])
  go_enter Tryd.func47, Tryd.ntmps47
  go_wp2
  go_loopw [3] (fun v wr => ∃ i : Nat, i ≤ n ∧ v = .int .i64 i ∧ Hid (checkL (l.drop i) = checkL l) ∧ Ext w wr) (fun v _ => n - (intOf v).toNat)
  case atStart => exact ⟨0, Nat.zero_le _, rfl, Lib.hid rfl, Ext.refl _⟩
  case round =>
    obtain ⟨i, hi, rfl, hr, er⟩ := hrel
    have hsz := er.size
    by_cases hlt : i < n
    · have hil : i < l.length := by rw [← E1.out]; exact hlt
      obtain ⟨a1, rfl, p0, p1, p2, p3⟩ := (H1.out.ext er).at hil
      have hts : (l.getD i Dat.zero).s.size ≤ 10000000000000 := HT.out _ (by rw [List.getD_eq_getElem?_getD, List.getElem?_eq_getElem hil]; exact List.getElem_mem hil)
      have HS0 := Lib.hid (checkL_drop hil)
      obtain ⟨d, hd⟩ : ∃ d, l.getD i Dat.zero = d := ⟨_, rfl⟩
      rw [hd] at p0 p1 p2 p3 hts HS0
      clear hil hd
      obtain ⟨v, hv⟩ : ∃ v, d.check = v := ⟨_, rfl⟩
      have HS : Hid (checkL l = if v = 0 then checkL (l.drop (i + 1)) else v) := Lib.hid (by rw [← hr.out, HS0.out, hv])
      clear HS0 hr
      obtain ⟨ka, ba, na, sa⟩ := d
      simp only at p0 p1 p2 p3 hts
      have HV := Lib.hid hv
      clear hv
      by_cases hv0 : v = 0
      · subst hv0
        go_wp2_with (go_at_call 68; go_loud (refine (rcheck_at ka ba na sa _ HV (Nat.le_trans hts (by decide))).mono ?_); rintro e w1 ⟨rfl, x1⟩)
        go_roundw
        case rel => exact ⟨i + 1, by omega, by go_num, Lib.hid (by rw [HS.out]; simp), er.trans x1⟩
        case measure => simp [intOf]; omega
      · have z : (v != 0) = true := by simpa using hv0
        have HZ := Lib.hid hv0
        clear hv0
        go_wp2_with (go_at_call 68; go_loud (refine (rcheck_at ka ba na sa _ HV (Nat.le_trans hts (by decide))).mono ?_); rintro e w1 ⟨rfl, x1⟩)
        go_ret
        exact ⟨(by rw [HR.out, HS.out, if_neg HZ.out]; rfl), er.trans x1⟩
    · obtain rfl : i = n := by omega
      have HT2 : Hid (checkL l = 0) := Lib.hid (by rw [← hr.out, List.drop_eq_nil_of_le (by rw [← E1.out]; exact Nat.le_refl _)]; rfl)
      clear hr
      go_wp2
      go_ret
      exact ⟨(by rw [HR.out, HT2.out]; rfl), er⟩
theorem refCheck_lit {v : Int} (A : Option Addr) (c n : Nat) (l : List Dat) (w : World) (hv : Hid (checkR l = v)) (e1 : Hid (n = l.length)) (h1 : Hid (Rw w A c l)) (ht : Hid (∀ d ∈ l, d.s.size ≤ 10000000000000)) :
    Calls Tryd.prog 47 #[.slice A n c] w fun e w' => e = .returned (.int .i64 v) ∧ Ext w w' := hv.out ▸ refCheck_any A c n l w e1.out h1.out ht.out
/-- what Pick answers -/
def RPickOut (w : World) (l : List Dat) (cs : List Int) (e : Ending) (w' : World) : Prop := Ext w w' ∧ ((pickOk l cs ∧ ∃ A c, e = .returned (.tuple #[.slice A cs.length c, .int .i64 0]) ∧ Rw w' A c (pickL l cs)) ∨ (¬ pickOk l cs ∧ e = .returned (.tuple #[.slice none 0 0, .int .i64 20])))
section
variable (A C : Option Addr) (c cc n nc : Nat) (l : List Dat) (cs : List Int) (w : World) (e1 : Hid (n = l.length)) (e2 : Hid (nc = cs.length)) (h1 : Hid (Rw w A c l)) (h2 : Hid (Is w C cc cs))
include e2 in
set_option maxRecDepth 100000 in
set_option maxHeartbeats 1000000 in
theorem rpick_long (h : 32 < nc) : Calls Tryd.prog 44 #[.slice A n c, .slice C nc cc] w (RPickOut w l cs) := by
  go_enter Tryd.func44, Tryd.ntmps44
  go_wp2
  go_ret2
  exact ⟨Ext.refl w, .inr ⟨fun q => by have := q.1; rw [← e2.out] at this; omega, rfl⟩⟩
include e1 e2 h1 h2
set_option maxRecDepth 100000 in
set_option maxHeartbeats 4000000 in
theorem rpick_short (h : nc ≤ 32) : Calls Tryd.prog 44 #[.slice A n c, .slice C nc cc] w (RPickOut w l cs) := by
  have hn9 : n ≤ 9223372036854775807 := by have := h1.out.le; rw [← e1.out] at this; exact this
  go_enter Tryd.func44, Tryd.ntmps44
  go_wp2
  go_loopg [6, 7] nc (fun z u v wr => ∃ (i c0 : Nat) (A0 : Option Addr), z = nc - i ∧ i ≤ nc ∧ v = .int .i64 i ∧ u = .slice A0 i c0 ∧ Hid (∀ c ∈ cs.take i, 0 ≤ c ∧ c < (l.length : Int)) ∧ Hid (Own wr w.heap.size 91 4 A0 i c0 (rowC (pickL l (cs.take i)))) ∧ Ext w wr)
  case atStart => exact ⟨0, 0, none, by omega, Nat.zero_le _, rfl, rfl, Lib.hid (fun c hc => nomatch hc), Lib.hid (Own.nil _ _ _ _), Ext.refl w⟩
  case round =>
    obtain ⟨i, c0, A0, rfl, hi1, rfl, rfl, HC, HO, er⟩ := hrel
    have ER := Lib.hid er
    clear er
    by_cases hlt : i < nc
    · have hil : i < cs.length := by rw [← e2.out]; exact hlt
      obtain ⟨a1, rfl, p0⟩ := (h2.out.ext ER.out).at hil
      have HS := Lib.hid (pickL_snoc l cs hil)
      have HT := Lib.hid (take_snocI hil 0)
      obtain ⟨q, hq⟩ : ∃ q, cs.getD i 0 = q := ⟨_, rfl⟩
      rw [hq] at p0 HS HT
      have HQ : Hid (q ∈ cs) := Lib.hid (by rw [← hq, List.getD_eq_getElem?_getD, List.getElem?_eq_getElem hil]; exact List.getElem_mem hil)
      clear hq
      by_cases hin : 0 ≤ q ∧ q < (n : Int)
      · obtain ⟨j, rfl⟩ := Int.eq_ofNat_of_zero_le hin.1
        have hjn : j < n := by omega
        have hj : j < l.length := by rw [← e1.out]; exact hjn
        obtain ⟨a2, rfl, d0, d1, d2, d3⟩ := (h1.out.ext ER.out).at hj
        have HS2 : Hid (rowC (pickL l (cs.take (i + 1))) = rowC (pickL l (cs.take i)) ++ datC (l.getD j Dat.zero)) := Lib.hid (by rw [HS.out]; rfl)
        obtain ⟨d, hd⟩ : ∃ d, l.getD j Dat.zero = d := ⟨_, rfl⟩
        rw [hd] at d0 d1 d2 d3 HS2
        clear hd HS
        obtain ⟨ka, ba, na, sa⟩ := d
        simp only at d0 d1 d2 d3
        go_wp2_with (at_builtin; go_loud (refine wpList_append_two _ elem_dat w.heap.size _ _ rfl rfl A0 i c0 (rowC (pickL l (cs.take i))) rfl (HO.out.alloc _) _ 1 1 [.int .u8 ka, .bool ba, .int .i64 na, .string sa] rfl (Sl.one _ _ _ 4 rfl) (rowC_one [⟨ka, ba, na, sa⟩]) (by omega) (by decide) (by have := ER.out.size; simp; omega) ?_; intro A1 k1 w1 o1 g1 x1; clear x1; have O1 := Lib.hid o1; have X1 : Hid (Ext w w1) := Lib.hid ((ER.out.alloc _).grown g1 (fun k e => (HO.out.lt k e).1)); clear o1 g1))
        go_roundg (nc - (i + 1))
        case measure => omega
        case rel => exact ⟨i + 1, k1, A1, rfl, by omega, by go_num, rfl, Lib.hid (fun c hc => by rw [HT.out] at hc; rcases List.mem_append.1 hc with hc | hc; exact HC.out c hc; rw [List.mem_singleton] at hc; subst hc; rw [← e1.out]; exact hin), Lib.hid (by rw [HS2.out]; exact O1.out), X1.out⟩
      · have HN : Hid (¬ pickOk l cs) := Lib.hid (fun o => hin (by have := o.2 q HQ.out; rw [← e1.out] at this; exact this))
        rcases Int.lt_or_le q 0 with q1 | q1
        · go_wp2
          go_ret2
          exact ⟨ER.out, .inr ⟨HN.out, rfl⟩⟩
        · have q2 : (n : Int) ≤ q := by omega
          go_wp2
          go_ret2
          exact ⟨ER.out, .inr ⟨HN.out, rfl⟩⟩
    · obtain rfl : i = nc := by omega
      have HT : Hid (cs.take i = cs) := Lib.hid (List.take_of_length_le (by rw [← e2.out]; exact Nat.le_refl _))
      go_wp2
      go_ret2
      refine ⟨ER.out, .inl ⟨⟨by rw [← e2.out]; exact h, fun c hc => HC.out c (by rw [HT.out]; exact hc)⟩, A0, c0, by rw [← e2.out]; rfl, ?_⟩⟩
      have := HO.out.sl
      rw [HT.out] at this
      unfold Rw
      rw [pickL_len, ← e2.out]
      exact this
theorem rpick_any : Calls Tryd.prog 44 #[.slice A n c, .slice C nc cc] w (RPickOut w l cs) := by
  by_cases h : nc ≤ 32
  · exact rpick_short A C c cc n nc l cs w e1 e2 h1 h2 h
  · exact rpick_long A C c cc n nc l cs w e2 (by omega)
end
theorem rputb (k n : Int) (b : Bool) (s : ByteArray) (B : Nat) (w : World) (hB : B ≤ w.heap.size) (r : List UInt8) (hr : Hid (putT ⟨k, b, n, s⟩ = r)) (hn : -9223372036854775808 ≤ n ∧ n ≤ 9223372036854775807) (hs : s.size ≤ 10000000000000) :
    Calls Tryd.prog 85 #[.agg #[.int .u8 k, .bool b, .int .i64 n, .string s]] w (PutOut w B r) := hr.out ▸ (rput_any B w ⟨k, b, n, s⟩ hn hs hB)
set_option maxRecDepth 100000 in
set_option maxHeartbeats 4000000 in
theorem rhash_any (A C : Option Addr) (c cc n nc : Nat) (l : List Dat) (cs : List Int) (w : World) (e1 : Hid (n = l.length)) (e2 : Hid (nc = cs.length)) (h1 : Hid (Rw w A c l)) (h2 : Hid (Is w C cc cs)) (hi : Hid (RwInt l)) (hz : Hid (∀ d ∈ l, d.s.size ≤ 10000000000000)) :
    Calls Tryd.prog 48 #[.slice A n c, .slice C nc cc] w fun e w' => e = .returned (.int .u64 (hashV l cs)) ∧ Ext w w' := by
  have hn9 : n ≤ 9223372036854775807 := by have := h1.out.le; rw [← e1.out] at this; exact this
  have hc9 : nc ≤ 9223372036854775807 := by have := Sl.le h2.out; rw [← e2.out] at this; exact this
  go_enter Tryd.func48, Tryd.ntmps48
  go_wp2
  go_loopg [5, 6] nc (fun z u v wr => ∃ (i : Nat) (h : Int), z = nc - i ∧ i ≤ nc ∧ v = .int .i64 i ∧ u = .int .u64 h ∧ Hid (h = (cs.take i).foldl (hashD l) 14695981039346656037) ∧ Ext w wr)
  case atStart => exact ⟨0, _, by omega, Nat.zero_le _, rfl, rfl, Lib.hid rfl, Ext.refl w⟩
  case round =>
    obtain ⟨i, h, rfl, hi1, rfl, rfl, HH, er⟩ := hrel
    obtain ⟨wo, hwo⟩ : ∃ wo : World, wo = wr := ⟨_, rfl⟩
    rw [← hwo] at er ⊢
    clear hwo
    have ER := Lib.hid er
    clear er
    by_cases hlt : i < nc
    · have hil : i < cs.length := by rw [← e2.out]; exact hlt
      obtain ⟨a1, rfl, p0⟩ := (h2.out.ext ER.out).at hil
      have HS := Lib.hid (hashV_snoc l cs 14695981039346656037 hil)
      obtain ⟨q, hq⟩ : ∃ q, cs.getD i 0 = q := ⟨_, rfl⟩
      rw [hq] at p0 HS
      by_cases hin : 0 ≤ q ∧ q < (n : Int)
      · obtain ⟨j, rfl⟩ := Int.eq_ofNat_of_zero_le hin.1
        have hjn : j < n := by omega
        have hj : j < l.length := by rw [← e1.out]; exact hjn
        obtain ⟨a2, rfl, d0, d1, d2, d3⟩ := (h1.out.ext ER.out).at hj
        have HIN := Lib.hid (hi.out.at hj)
        have HZ : Hid ((l.getD j Dat.zero).s.size ≤ 10000000000000) := Lib.hid (by
          rw [List.getD_eq_getElem?_getD, List.getElem?_eq_getElem hj]
          exact hz.out _ (List.getElem_mem hj))
        have HD := Lib.hid (hashD_in (h := h) hj)
        obtain ⟨d, hd⟩ : ∃ d, l.getD j Dat.zero = d := ⟨_, rfl⟩
        rw [hd] at d0 d1 d2 d3 HIN HZ HD
        clear hd
        obtain ⟨ka, ba, na, sa⟩ := d
        simp only at d0 d1 d2 d3
        obtain ⟨xs, hxs⟩ : ∃ xs, putT ⟨ka, ba, na, sa⟩ = xs := ⟨_, rfl⟩
        have HX := Lib.hid hxs
        rw [hxs] at HD
        clear hxs
        go_wp2_with (go_at_call 85; go_loud (refine (rputb _ _ _ _ w.heap.size _ ER.out.size xs HX HIN.out HZ.out).mono ?_; rintro e w1 ⟨pA, pn, pc, rfl, o1, b1⟩; have PB := Lib.hid o1.bs; have PN := Lib.hid o1.len; have X1 : Hid (Ext w w1) := Lib.hid (Below.trans ER.out b1); have hp9 := o1.le; clear o1 b1))
        go_loopg [5, 8] pn (fun z u v wi => ∃ (k : Nat) (g : Int), z = pn - k ∧ k ≤ pn ∧ v = .int .i64 k ∧ u = .int .u64 g ∧ Hid (g = hashL h (xs.take k)) ∧ Ext w1 wi)
        case atStart => exact ⟨0, h, by omega, Nat.zero_le _, rfl, rfl, Lib.hid rfl, Ext.refl w1⟩
        case round =>
          obtain ⟨k, g, rfl, hk, rfl, rfl, HG, ei⟩ := hrel
          have EI := Lib.hid ei
          clear ei
          by_cases hkl : k < pn
          · have hkx : k < xs.length := by rw [← PN.out]; exact hkl
            obtain ⟨a3, rfl, y0⟩ := (PB.out.ext EI.out).at hkx
            have HT := Lib.hid (hashL_snoc h xs hkx)
            obtain ⟨y, hy⟩ : ∃ y, xs.getD k 0 = y := ⟨_, rfl⟩
            rw [hy] at y0 HT
            have hw := u8_wrap y
            go_wp2
            go_roundg (pn - (k + 1))
            case measure => omega
            case rel => exact ⟨k + 1, _, rfl, by omega, by go_num, rfl, Lib.hid (by rw [HT.out, ← HG.out]; rfl), by exact EI.out⟩
          · obtain rfl : k = pn := by omega
            have HT : Hid (g = hashL h xs) := Lib.hid (by rw [HG.out, List.take_of_length_le (by rw [← PN.out]; exact Nat.le_refl _)])
            go_wp2
            go_roundg (nc - (i + 1))
            case measure => omega
            case rel => exact ⟨i + 1, g, rfl, by omega, by go_num, rfl, Lib.hid (by rw [HS.out, ← HH.out, HD.out]; exact HT.out), (X1.out.trans EI.out)⟩
      · have hout : hashD l h q = h := hashD_out (by rw [← e1.out]; omega)
        have HO := Lib.hid hout
        clear hout
        rcases Int.lt_or_le q 0 with q1 | q1
        · go_wp2
          go_roundg (nc - (i + 1))
          case measure => omega
          case rel => exact ⟨i + 1, h, rfl, by omega, by go_num, rfl, Lib.hid (by rw [HS.out, ← HH.out, HO.out]), ER.out⟩
        · have q2 : (n : Int) ≤ q := by omega
          go_wp2
          go_roundg (nc - (i + 1))
          case measure => omega
          case rel => exact ⟨i + 1, h, rfl, by omega, by go_num, rfl, Lib.hid (by rw [HS.out, ← HH.out, HO.out]), ER.out⟩
    · obtain rfl : i = nc := by omega
      have HT : Hid (h = hashV l cs) := Lib.hid (by rw [HH.out, List.take_of_length_le (by rw [← e2.out]; exact Nat.le_refl _)]; rfl)
      go_wp2
      go_ret
      exact ⟨by rw [HT.out]; rfl, ER.out⟩
/-- what Encode answers -/
def REncOut (w : World) (l : List Dat) (e : Ending) (w' : World) : Prop := Ext w w' ∧ ∃ A n c, e = .returned (.tuple #[.slice A n c, .int .i64 (checkR l)]) ∧ OwnB w' w.heap.size A n c (if checkR l = 0 then keyT l else [])
set_option maxRecDepth 100000 in
set_option maxHeartbeats 4000000 in
theorem refEncode_any (A : Option Addr) (c n : Nat) (l : List Dat) (w : World) (e1 : Hid (n = l.length)) (h1 : Hid (Rw w A c l)) (ht : Hid (∀ d ∈ l, d.s.size ≤ 10000000000000)) (hi : Hid (RwInt l)) :
    Calls Tryd.prog 45 #[.slice A n c] w (REncOut w l) := by
  have hn9 : n ≤ 9223372036854775807 := by have := h1.out.le; rw [← e1.out] at this; exact this
  obtain ⟨v, hv⟩ : ∃ v, checkR l = v := ⟨_, rfl⟩
  have HV := Lib.hid hv
  by_cases h0 : v = 0
  · subst h0
    obtain ⟨h32, hck⟩ := (checkR_ok l).1 hv
    have hn32 : n ≤ 32 := by have := e1.out; omega
    have HZ : Hid (∀ d ∈ l, d.s.size ≤ 1000) := Lib.hid (fun d hd => size_of_check' (hck d hd))
    clear hv h32 hck
    go_enter Tryd.func45, Tryd.ntmps45
    go_wp2_with (go_at_call 47; refine (refCheck_lit A c n l _ HV e1 h1 ht).mono ?_; rintro e w1 ⟨rfl, x1⟩)
    have X1 := Lib.hid x1
    clear x1
    go_loopg [5, 6] n (fun z u v wr => ∃ (i n0 c0 : Nat) (A0 : Option Addr), z = n - i ∧ i ≤ n ∧ v = .int .i64 i ∧ u = .slice A0 n0 c0 ∧ Hid (OwnB wr w1.heap.size A0 n0 c0 (keyT (l.take i))) ∧ Ext w1 wr)
    case atStart => exact ⟨0, 0, 0, none, rfl, Nat.zero_le _, rfl, rfl, Lib.hid (OwnB.nil w1 (Nat.le_refl _)), Ext.refl w1⟩
    case round =>
      obtain ⟨i, n0, c0, A0, rfl, hi1, rfl, rfl, O0, er⟩ := hrel
      have ER := Lib.hid er
      have hsz := er.size
      clear er
      by_cases hlt : i < n
      · have hil : i < l.length := by rw [← e1.out]; exact hlt
        have L0 : n0 ≤ 70000 := by
          have a1 := O0.out.len
          have a2 := keyT_len (l.take i) (fun d hd => HZ.out d (List.mem_of_mem_take hd))
          have a3 : (l.take i).length ≤ i := List.length_take_le _ _
          omega
        obtain ⟨a1, rfl, p0, p1, p2, p3⟩ := ((h1.out.ext X1.out).ext ER.out).at hil
        have HIN := Lib.hid (hi.out.at hil)
        have HSS : Hid ((l.getD i Dat.zero).s.size ≤ 1000) := Lib.hid (by
          rw [List.getD_eq_getElem?_getD, List.getElem?_eq_getElem hil]
          exact HZ.out _ (List.getElem_mem hil))
        have HS0 := Lib.hid (keyT_take hil)
        have HPL : Hid ((putT (l.getD i Dat.zero)).length ≤ 2100) := Lib.hid (putT_len HSS.out)
        obtain ⟨d, hd⟩ : ∃ d, l.getD i Dat.zero = d := ⟨_, rfl⟩
        rw [hd] at p0 p1 p2 p3 HIN HSS HS0 HPL
        clear hil hd
        obtain ⟨ka, ba, na, sa⟩ := d
        simp only at p0 p1 p2 p3
        obtain ⟨xs, hxs⟩ : ∃ xs, putT ⟨ka, ba, na, sa⟩ = xs := ⟨_, rfl⟩
        have HX := Lib.hid hxs
        rw [hxs] at HS0 HPL
        clear hxs
        have m1 : True := trivial
        go_wp2_with (first
          | (go_at_call 85; have mk := m1; clear m1 mk; refine (rputb _ _ _ _ wr.heap.size _ (Nat.le_refl _) xs HX HIN.out (by have := HSS.out; show sa.size ≤ _; have e : (⟨ka, ba, na, sa⟩ : Dat).s = sa := rfl; rw [e] at this; omega)).mono ?_; rintro e w2 ⟨pA, pn, pc, rfl, o2, b2⟩; have X2 : Ext wr w2 := b2; have O2 := Lib.hid o2; have O02 := Lib.hid (O0.out.ext X2); have hp : pn ≤ 2100 := (by rw [o2.len]; exact HPL.out); clear o2 b2; have m2 : True := trivial)
          | (at_builtin; have mk := m2; clear m2 mk; go_loud (refine wpList_append_two _ elem_byte w1.heap.size _ _ rfl rfl A0 n0 c0 (Lib.byteCells (keyT (l.take i))) rfl O02.out.1 pA pn pc (Lib.byteCells xs) rfl O2.out.1.sl (bytes_oneCell xs) (by omega) (by decide) O02.out.2 ?_); intro A3 c3 w3 o3 g3 h3; clear h3; have X3 : Ext w1 w3 := Ext.grown (ER.out.trans X2) g3 (fun k e => (O02.out.1.lt k e).1); have O3 : Hid (OwnB w3 w1.heap.size A3 (n0 + pn) c3 (keyT (l.take (i + 1)))) := Lib.hid ⟨by rw [HS0.out, cells_append]; exact o3, X3.size⟩; clear o3 g3))
        go_roundg (n - (i + 1))
        case measure => omega
        case rel => exact ⟨i + 1, n0 + pn, c3, A3, rfl, by omega, by go_num, rfl, O3, X3⟩
      · obtain rfl : i = n := by omega
        have HT : Hid (l.take i = l) := Lib.hid (List.take_of_length_le (by rw [← e1.out]; exact Nat.le_refl _))
        go_wp2
        go_ret2
        refine ⟨X1.out.trans ER.out, A0, n0, c0, (by rw [HV.out]; rfl), ?_⟩
        rw [if_pos HV.out]
        have := O0.out
        rw [HT.out] at this
        exact this.mono X1.out.size
  · have z : (v != 0) = true := by simpa using h0
    have HZ := Lib.hid h0
    clear hv h0
    go_enter Tryd.func45, Tryd.ntmps45
    go_wp2_with (go_at_call 47; refine (refCheck_lit A c n l _ HV e1 h1 ht).mono ?_; rintro e w1 ⟨rfl, x1⟩)
    go_ret2
    refine ⟨x1, none, 0, 0, (by rw [HV.out]; rfl), ?_⟩
    rw [if_neg (by rw [HV.out]; exact HZ.out)]
    exact OwnB.nil w1 x1.size
end Go.Proofs.YtngeioghihbkeaaDoor
