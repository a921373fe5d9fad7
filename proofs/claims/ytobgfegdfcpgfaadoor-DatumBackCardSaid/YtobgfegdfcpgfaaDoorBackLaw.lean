/- DatumParses, DatumBack: the walks. Conditions: the library's tables and errors stand; texts that lie in memory. -/
import Derived.Test.YtobgfegdfcpgfaaDoorRParseAll
import Derived.Test.YtobgfegdfcpgfaaDoorLogic2
namespace Go.Proofs.YtobgfegdfcpgfaaDoor
open Go.RowKit

theorem parse_at (s t : ByteArray) (k n x : Int) (b : Bool) (w : World) (hs : s.size ≤ 140737488355328) (h : Hid (ParseRel s ⟨k, b, n, t⟩ x)) (G : Good3 w) :
    Calls Tryd.prog 49 #[.string s] w fun e w' => e = .returned (.tuple #[.agg #[.int .u8 k, .bool b, .int .i64 n, .string t], .int .u16 x]) ∧ Ext w w' :=
  (parse_any s w hs G).mono fun e w' ⟨d, y, h1, h2, h3⟩ => by
    obtain ⟨rfl, rfl⟩ := rel_unique h1 h.out
    exact ⟨h2, h3⟩
theorem rparse_at (s t : ByteArray) (k n x : Int) (b : Bool) (w : World) (hs : s.size ≤ 4000000) (h : Hid (ParseRel s ⟨k, b, n, t⟩ x)) :
    Calls Tryd.prog 50 #[.string s] w fun e w' => e = .returned (.tuple #[.agg #[.int .u8 k, .bool b, .int .i64 n, .string t], .int .i64 x]) ∧ Ext w w' :=
  (rparse_any s w hs).mono fun e w' ⟨d, y, h1, h2, h3⟩ => by
    obtain ⟨rfl, rfl⟩ := rel_unique h1 h.out
    exact ⟨h2, h3⟩
theorem rel_exists (s : ByteArray) : (∃ d : Dat, ParseRel s d 0 ∧ Ok d ∧ printT d.k d.b d.n d.s = s) ∨ ParseRel s Dat.zero 13 := by
  by_cases h : ∃ d : Dat, Ok d ∧ printT d.k d.b d.n d.s = s
  · obtain ⟨d, h1, h2⟩ := h
    exact .inl ⟨d, parse_on h1 h2, h1, h2⟩
  · exact .inr (.inr ⟨rfl, rfl, fun x h1 h2 => h ⟨x, h1, h2⟩⟩)
set_option maxRecDepth 100000 in
set_option maxHeartbeats 2000000 in
theorem parses_in (s t : ByteArray) (k n x : Int) (b : Bool) (w : World) (hs : s.size ≤ 1048576) (hr : ParseRel s ⟨k, b, n, t⟩ x) (hx : 0 ≤ x ∧ x ≤ 65535) (G : Good3 w) :
    Calls Tryd.prog 13 #[.string s] w fun e w' => e = .returned (.bool true) ∧ Ext w w' := by
  have HR := Lib.hid hr
  clear hr
  have HX := Lib.hid hx
  have hs2 : s.size ≤ 4000000 := by omega
  have hs3 : s.size ≤ 140737488355328 := by omega
  have m1 : True := trivial
  go_enter Tryd.func13, Tryd.ntmps13
  go_wp2_with (first
    | (have z := m1; clear z m1; go_at_call 49; refine (parse_at _ _ _ _ _ _ _ hs3 HR (G.ext (Ext.refl w))).mono ?_; rintro e w1 ⟨rfl, x1⟩; have F1 : Ext w (w1.alloc (.cells #[.int .u8 (k), .bool (b), .int .i64 (n), .string (t)] 24)) := ((Ext.refl w).trans x1).alloc _; have a_1 := Bk.new w1 24 #[.int .u8 (k), .bool (b), .int .i64 (n), .string (t)]; clear x1; have a_10 : (w1.alloc (.cells #[.int .u8 (k), .bool (b), .int .i64 (n), .string (t)] 24)).cell? ⟨w1.heap.size, 0, none⟩ = some (.int .u8 (k)) := a_1.cell 0; have a_11 : (w1.alloc (.cells #[.int .u8 (k), .bool (b), .int .i64 (n), .string (t)] 24)).cell? ⟨w1.heap.size, 1, none⟩ = some (.bool (b)) := a_1.cell 1; have a_12 : (w1.alloc (.cells #[.int .u8 (k), .bool (b), .int .i64 (n), .string (t)] 24)).cell? ⟨w1.heap.size, 2, none⟩ = some (.int .i64 (n)) := a_1.cell 2; have a_13 : (w1.alloc (.cells #[.int .u8 (k), .bool (b), .int .i64 (n), .string (t)] 24)).cell? ⟨w1.heap.size, 3, none⟩ = some (.string (t)) := a_1.cell 3; have m2 : True := trivial)
    | (have z := m2; clear z m2; go_at_call 50; refine (rparse_at _ _ _ _ _ _ _ hs2 HR).mono ?_; rintro e w2 ⟨rfl, x2⟩; have a_2 := (a_1.ext x2).alloc (.cells #[.int .u8 (k), .bool (b), .int .i64 (n), .string (t)] 24); have F2 : Ext w (w2.alloc (.cells #[.int .u8 (k), .bool (b), .int .i64 (n), .string (t)] 24)) := (F1.trans x2).alloc _; have c_2 := Bk.new w2 24 #[.int .u8 (k), .bool (b), .int .i64 (n), .string (t)]; clear x2; have a_20 : (w2.alloc (.cells #[.int .u8 (k), .bool (b), .int .i64 (n), .string (t)] 24)).cell? ⟨w1.heap.size, 0, none⟩ = some (.int .u8 (k)) := a_2.cell 0; have a_21 : (w2.alloc (.cells #[.int .u8 (k), .bool (b), .int .i64 (n), .string (t)] 24)).cell? ⟨w1.heap.size, 1, none⟩ = some (.bool (b)) := a_2.cell 1; have a_22 : (w2.alloc (.cells #[.int .u8 (k), .bool (b), .int .i64 (n), .string (t)] 24)).cell? ⟨w1.heap.size, 2, none⟩ = some (.int .i64 (n)) := a_2.cell 2; have a_23 : (w2.alloc (.cells #[.int .u8 (k), .bool (b), .int .i64 (n), .string (t)] 24)).cell? ⟨w1.heap.size, 3, none⟩ = some (.string (t)) := a_2.cell 3; have c_20 : (w2.alloc (.cells #[.int .u8 (k), .bool (b), .int .i64 (n), .string (t)] 24)).cell? ⟨w2.heap.size, 0, none⟩ = some (.int .u8 (k)) := c_2.cell 0; have c_21 : (w2.alloc (.cells #[.int .u8 (k), .bool (b), .int .i64 (n), .string (t)] 24)).cell? ⟨w2.heap.size, 1, none⟩ = some (.bool (b)) := c_2.cell 1; have c_22 : (w2.alloc (.cells #[.int .u8 (k), .bool (b), .int .i64 (n), .string (t)] 24)).cell? ⟨w2.heap.size, 2, none⟩ = some (.int .i64 (n)) := c_2.cell 2; have c_23 : (w2.alloc (.cells #[.int .u8 (k), .bool (b), .int .i64 (n), .string (t)] 24)).cell? ⟨w2.heap.size, 3, none⟩ = some (.string (t)) := c_2.cell 3; have m3 : True := trivial)
    | (have z := m3; clear z m3; go_at_call 16; refine (known_true _ (G.ext F2).good.good).mono ?_; rintro e w3 ⟨rfl, x3⟩; have a_3 := a_2.ext x3; have c_3 := c_2.ext x3; have F3 : Ext w w3 := (F2.trans x3); clear x3; have a_30 : w3.cell? ⟨w1.heap.size, 0, none⟩ = some (.int .u8 (k)) := a_3.cell 0; have a_31 : w3.cell? ⟨w1.heap.size, 1, none⟩ = some (.bool (b)) := a_3.cell 1; have a_32 : w3.cell? ⟨w1.heap.size, 2, none⟩ = some (.int .i64 (n)) := a_3.cell 2; have a_33 : w3.cell? ⟨w1.heap.size, 3, none⟩ = some (.string (t)) := a_3.cell 3; have c_30 : w3.cell? ⟨w2.heap.size, 0, none⟩ = some (.int .u8 (k)) := c_3.cell 0; have c_31 : w3.cell? ⟨w2.heap.size, 1, none⟩ = some (.bool (b)) := c_3.cell 1; have c_32 : w3.cell? ⟨w2.heap.size, 2, none⟩ = some (.int .i64 (n)) := c_3.cell 2; have c_33 : w3.cell? ⟨w2.heap.size, 3, none⟩ = some (.string (t)) := c_3.cell 3; have m4 : True := trivial)
    | (have z := m4; clear z m4; go_at_call 24; refine (is_same _ _ _ _ _ _ HX.out.1 HX.out.2).mono ?_; rintro e w4 ⟨rfl, x4⟩; have a_4 := a_3.ext x4; have c_4 := c_3.ext x4; have F4 : Ext w w4 := (F3.trans x4); clear x4; have a_40 : w4.cell? ⟨w1.heap.size, 0, none⟩ = some (.int .u8 (k)) := a_4.cell 0; have a_41 : w4.cell? ⟨w1.heap.size, 1, none⟩ = some (.bool (b)) := a_4.cell 1; have a_42 : w4.cell? ⟨w1.heap.size, 2, none⟩ = some (.int .i64 (n)) := a_4.cell 2; have a_43 : w4.cell? ⟨w1.heap.size, 3, none⟩ = some (.string (t)) := a_4.cell 3; have c_40 : w4.cell? ⟨w2.heap.size, 0, none⟩ = some (.int .u8 (k)) := c_4.cell 0; have c_41 : w4.cell? ⟨w2.heap.size, 1, none⟩ = some (.bool (b)) := c_4.cell 1; have c_42 : w4.cell? ⟨w2.heap.size, 2, none⟩ = some (.int .i64 (n)) := c_4.cell 2; have c_43 : w4.cell? ⟨w2.heap.size, 3, none⟩ = some (.string (t)) := c_4.cell 3; have m5 : True := trivial)
    | fail)
  go_ret
  exact ⟨rfl, F4⟩
set_option maxRecDepth 100000 in
set_option maxHeartbeats 400000 in
theorem parses_out (s : ByteArray) (w : World) (hs : 1048576 < s.size) :
    Calls Tryd.prog 13 #[.string s] w fun e w' => e = .returned (.bool true) ∧ Ext w w' := by
  go_enter Tryd.func13, Tryd.ntmps13
  go_wp2
  go_ret
  exact ⟨rfl, Ext.refl w⟩
theorem parses_any (s : ByteArray) (w : World) (G : Good3 w) :
    Calls Tryd.prog 13 #[.string s] w fun e w' => e = .returned (.bool true) ∧ Ext w w' := by
  by_cases hs : s.size ≤ 1048576
  · rcases rel_exists s with ⟨⟨k, b, n, t⟩, h1, _⟩ | h1
    · exact parses_in s t k n 0 b w hs h1 ⟨by decide, by decide⟩ G
    · exact parses_in s ⟨#[]⟩ 0 0 13 false w hs h1 ⟨by decide, by decide⟩ G
  · exact parses_out s w (by omega)
set_option maxRecDepth 100000 in
set_option maxHeartbeats 3000000 in
theorem back_yy (s z p s2 : ByteArray) (k n k2 n2 : Int) (b b2 : Bool) (w : World) (hs : s.size ≤ 140737488355328) (hz : z.size ≤ 140737488355328) (hn : In64 n) (hc : checkT k b n s = 0) (hp : printT k b n s = p) (hr : ParseRel p ⟨k, b, n, s⟩ 0) (hps : p.size ≤ 140737488355328) (hpe : ¬ p.toList = []) (hq : ParseRel z ⟨k2, b2, n2, s2⟩ 0) (hc2 : checkT k2 b2 n2 s2 = 0) (hp2 : printT k2 b2 n2 s2 = z) (hn2 : In64 n2) (hs2 : s2.size ≤ 140737488355328) (G : Good3 w) :
    Calls Tryd.prog 14 #[.agg #[.int .u8 (k), .bool (b), .int .i64 (n), .string (s)], .string z] w fun e w' => e = .returned (.bool true) ∧ Ext w w' := by
  have HC := Lib.hid hc
  clear hc
  have HP := Lib.hid hp
  clear hp
  have HR := Lib.hid hr
  clear hr
  have HQ := Lib.hid hq
  clear hq
  have HN := Lib.hid hn
  clear hn
  have HC2 := Lib.hid hc2
  clear hc2
  have HP2 := Lib.hid hp2
  clear hp2
  have HN2 := Lib.hid hn2
  clear hn2
  have hpe2 : p.toList.isEmpty = false := by simpa using hpe
  have hs1 : s.size ≤ 9223372036854775807 := by omega
  have hs3 : s2.size ≤ 9223372036854775807 := by omega
  have a_0 : Bk (w.alloc (.cells #[.int .u8 (k), .bool (b), .int .i64 (n), .string (s)] 24)) w.heap.size 24 #[.int .u8 (k), .bool (b), .int .i64 (n), .string (s)] := Bk.new _ _ _
  have F0 : Ext w (w.alloc (.cells #[.int .u8 (k), .bool (b), .int .i64 (n), .string (s)] 24)) := (Ext.refl w).alloc _
  have m1 : True := trivial
  go_enter Tryd.func14, Tryd.ntmps14
  go_wp2_with (first
    | (have z := m1; clear z m1; go_at_call 17; refine (print_lit _ _ _ _ _ HP hs1 HN.out (G.ext F0).good).mono ?_; rintro e w1 ⟨rfl, x1⟩; have a_1 := a_0.ext x1; have F1 : Ext w w1 := (F0.trans x1); clear x1; have a_10 : w1.cell? ⟨w.heap.size, 0, none⟩ = some (.int .u8 (k)) := a_1.cell 0; have a_11 : w1.cell? ⟨w.heap.size, 1, none⟩ = some (.bool (b)) := a_1.cell 1; have a_12 : w1.cell? ⟨w.heap.size, 2, none⟩ = some (.int .i64 (n)) := a_1.cell 2; have a_13 : w1.cell? ⟨w.heap.size, 3, none⟩ = some (.string (s)) := a_1.cell 3; have m2 : True := trivial)
    | (have z := m2; clear z m2; go_at_call 49; refine (parse_at _ _ _ _ _ _ _ hps HR (G.ext F1)).mono ?_; rintro e w2 ⟨rfl, x2⟩; have a_2 := (a_1.ext x2).alloc (.cells #[.int .u8 (k), .bool (b), .int .i64 (n), .string (s)] 24); have F2 : Ext w (w2.alloc (.cells #[.int .u8 (k), .bool (b), .int .i64 (n), .string (s)] 24)) := (F1.trans x2).alloc _; have c_2 := Bk.new w2 24 #[.int .u8 (k), .bool (b), .int .i64 (n), .string (s)]; clear x2; have a_20 : (w2.alloc (.cells #[.int .u8 (k), .bool (b), .int .i64 (n), .string (s)] 24)).cell? ⟨w.heap.size, 0, none⟩ = some (.int .u8 (k)) := a_2.cell 0; have a_21 : (w2.alloc (.cells #[.int .u8 (k), .bool (b), .int .i64 (n), .string (s)] 24)).cell? ⟨w.heap.size, 1, none⟩ = some (.bool (b)) := a_2.cell 1; have a_22 : (w2.alloc (.cells #[.int .u8 (k), .bool (b), .int .i64 (n), .string (s)] 24)).cell? ⟨w.heap.size, 2, none⟩ = some (.int .i64 (n)) := a_2.cell 2; have a_23 : (w2.alloc (.cells #[.int .u8 (k), .bool (b), .int .i64 (n), .string (s)] 24)).cell? ⟨w.heap.size, 3, none⟩ = some (.string (s)) := a_2.cell 3; have c_20 : (w2.alloc (.cells #[.int .u8 (k), .bool (b), .int .i64 (n), .string (s)] 24)).cell? ⟨w2.heap.size, 0, none⟩ = some (.int .u8 (k)) := c_2.cell 0; have c_21 : (w2.alloc (.cells #[.int .u8 (k), .bool (b), .int .i64 (n), .string (s)] 24)).cell? ⟨w2.heap.size, 1, none⟩ = some (.bool (b)) := c_2.cell 1; have c_22 : (w2.alloc (.cells #[.int .u8 (k), .bool (b), .int .i64 (n), .string (s)] 24)).cell? ⟨w2.heap.size, 2, none⟩ = some (.int .i64 (n)) := c_2.cell 2; have c_23 : (w2.alloc (.cells #[.int .u8 (k), .bool (b), .int .i64 (n), .string (s)] 24)).cell? ⟨w2.heap.size, 3, none⟩ = some (.string (s)) := c_2.cell 3; have m3 : True := trivial)
    | (have z := m3; clear z m3; go_at_call 15; refine (check_at _ _ _ _ _ HC hs1 (G.ext F2).good.good).mono ?_; rintro e w3 ⟨rfl, x3⟩; have a_3 := a_2.ext x3; have c_3 := c_2.ext x3; have F3 : Ext w w3 := (F2.trans x3); clear x3; have a_30 : w3.cell? ⟨w.heap.size, 0, none⟩ = some (.int .u8 (k)) := a_3.cell 0; have a_31 : w3.cell? ⟨w.heap.size, 1, none⟩ = some (.bool (b)) := a_3.cell 1; have a_32 : w3.cell? ⟨w.heap.size, 2, none⟩ = some (.int .i64 (n)) := a_3.cell 2; have a_33 : w3.cell? ⟨w.heap.size, 3, none⟩ = some (.string (s)) := a_3.cell 3; have c_30 : w3.cell? ⟨w2.heap.size, 0, none⟩ = some (.int .u8 (k)) := c_3.cell 0; have c_31 : w3.cell? ⟨w2.heap.size, 1, none⟩ = some (.bool (b)) := c_3.cell 1; have c_32 : w3.cell? ⟨w2.heap.size, 2, none⟩ = some (.int .i64 (n)) := c_3.cell 2; have c_33 : w3.cell? ⟨w2.heap.size, 3, none⟩ = some (.string (s)) := c_3.cell 3; have m4 : True := trivial)
    | (have z := m4; clear z m4; go_at_call 49; refine (parse_at _ _ _ _ _ _ _ hz HQ (G.ext F3)).mono ?_; rintro e w4 ⟨rfl, x4⟩; have a_4 := (a_3.ext x4).alloc (.cells #[.int .u8 (k2), .bool (b2), .int .i64 (n2), .string (s2)] 24); have c_4 := (c_3.ext x4).alloc (.cells #[.int .u8 (k2), .bool (b2), .int .i64 (n2), .string (s2)] 24); have F4 : Ext w (w4.alloc (.cells #[.int .u8 (k2), .bool (b2), .int .i64 (n2), .string (s2)] 24)) := (F3.trans x4).alloc _; have d_4 := Bk.new w4 24 #[.int .u8 (k2), .bool (b2), .int .i64 (n2), .string (s2)]; clear x4; have d_40 : (w4.alloc (.cells #[.int .u8 (k2), .bool (b2), .int .i64 (n2), .string (s2)] 24)).cell? ⟨w4.heap.size, 0, none⟩ = some (.int .u8 (k2)) := d_4.cell 0; have d_41 : (w4.alloc (.cells #[.int .u8 (k2), .bool (b2), .int .i64 (n2), .string (s2)] 24)).cell? ⟨w4.heap.size, 1, none⟩ = some (.bool (b2)) := d_4.cell 1; have d_42 : (w4.alloc (.cells #[.int .u8 (k2), .bool (b2), .int .i64 (n2), .string (s2)] 24)).cell? ⟨w4.heap.size, 2, none⟩ = some (.int .i64 (n2)) := d_4.cell 2; have d_43 : (w4.alloc (.cells #[.int .u8 (k2), .bool (b2), .int .i64 (n2), .string (s2)] 24)).cell? ⟨w4.heap.size, 3, none⟩ = some (.string (s2)) := d_4.cell 3; have m5 : True := trivial)
    | (have z := m5; clear z m5; go_at_call 16; refine (known_true _ (G.ext F4).good.good).mono ?_; rintro e w5 ⟨rfl, x5⟩; have a_5 := a_4.ext x5; have c_5 := c_4.ext x5; have d_5 := d_4.ext x5; have F5 : Ext w w5 := (F4.trans x5); clear x5; have d_50 : w5.cell? ⟨w4.heap.size, 0, none⟩ = some (.int .u8 (k2)) := d_5.cell 0; have d_51 : w5.cell? ⟨w4.heap.size, 1, none⟩ = some (.bool (b2)) := d_5.cell 1; have d_52 : w5.cell? ⟨w4.heap.size, 2, none⟩ = some (.int .i64 (n2)) := d_5.cell 2; have d_53 : w5.cell? ⟨w4.heap.size, 3, none⟩ = some (.string (s2)) := d_5.cell 3; have m6 : True := trivial)
    | (have z := m6; clear z m6; go_at_call 15; refine (check_at _ _ _ _ _ HC2 hs3 (G.ext F5).good.good).mono ?_; rintro e w6 ⟨rfl, x6⟩; have a_6 := a_5.ext x6; have c_6 := c_5.ext x6; have d_6 := d_5.ext x6; have F6 : Ext w w6 := (F5.trans x6); clear x6; have d_60 : w6.cell? ⟨w4.heap.size, 0, none⟩ = some (.int .u8 (k2)) := d_6.cell 0; have d_61 : w6.cell? ⟨w4.heap.size, 1, none⟩ = some (.bool (b2)) := d_6.cell 1; have d_62 : w6.cell? ⟨w4.heap.size, 2, none⟩ = some (.int .i64 (n2)) := d_6.cell 2; have d_63 : w6.cell? ⟨w4.heap.size, 3, none⟩ = some (.string (s2)) := d_6.cell 3; have m7 : True := trivial)
    | (have z := m7; clear z m7; go_at_call 17; refine (print_lit _ _ _ _ _ HP2 hs3 HN2.out (G.ext F6).good).mono ?_; rintro e w7 ⟨rfl, x7⟩; have a_7 := a_6.ext x7; have c_7 := c_6.ext x7; have d_7 := d_6.ext x7; have F7 : Ext w w7 := (F6.trans x7); clear x7; have d_70 : w7.cell? ⟨w4.heap.size, 0, none⟩ = some (.int .u8 (k2)) := d_7.cell 0; have d_71 : w7.cell? ⟨w4.heap.size, 1, none⟩ = some (.bool (b2)) := d_7.cell 1; have d_72 : w7.cell? ⟨w4.heap.size, 2, none⟩ = some (.int .i64 (n2)) := d_7.cell 2; have d_73 : w7.cell? ⟨w4.heap.size, 3, none⟩ = some (.string (s2)) := d_7.cell 3; have m8 : True := trivial)
    | fail)
  go_ret
  exact ⟨rfl, F7⟩
set_option maxRecDepth 100000 in
set_option maxHeartbeats 3000000 in
theorem back_yn (s z p : ByteArray) (k n : Int) (b : Bool) (w : World) (hs : s.size ≤ 140737488355328) (hz : z.size ≤ 140737488355328) (hn : In64 n) (hc : checkT k b n s = 0) (hp : printT k b n s = p) (hr : ParseRel p ⟨k, b, n, s⟩ 0) (hps : p.size ≤ 140737488355328) (hpe : ¬ p.toList = []) (hq : ParseRel z Dat.zero 13) (G : Good3 w) :
    Calls Tryd.prog 14 #[.agg #[.int .u8 (k), .bool (b), .int .i64 (n), .string (s)], .string z] w fun e w' => e = .returned (.bool true) ∧ Ext w w' := by
  have HC := Lib.hid hc
  clear hc
  have HP := Lib.hid hp
  clear hp
  have HR := Lib.hid hr
  clear hr
  have HQ := Lib.hid hq
  clear hq
  have HN := Lib.hid hn
  clear hn
  have hpe2 : p.toList.isEmpty = false := by simpa using hpe
  have hs1 : s.size ≤ 9223372036854775807 := by omega
  have a_0 : Bk (w.alloc (.cells #[.int .u8 (k), .bool (b), .int .i64 (n), .string (s)] 24)) w.heap.size 24 #[.int .u8 (k), .bool (b), .int .i64 (n), .string (s)] := Bk.new _ _ _
  have F0 : Ext w (w.alloc (.cells #[.int .u8 (k), .bool (b), .int .i64 (n), .string (s)] 24)) := (Ext.refl w).alloc _
  have m1 : True := trivial
  go_enter Tryd.func14, Tryd.ntmps14
  go_wp2_with (first
    | (have z := m1; clear z m1; go_at_call 17; refine (print_lit _ _ _ _ _ HP hs1 HN.out (G.ext F0).good).mono ?_; rintro e w1 ⟨rfl, x1⟩; have a_1 := a_0.ext x1; have F1 : Ext w w1 := (F0.trans x1); clear x1; have a_10 : w1.cell? ⟨w.heap.size, 0, none⟩ = some (.int .u8 (k)) := a_1.cell 0; have a_11 : w1.cell? ⟨w.heap.size, 1, none⟩ = some (.bool (b)) := a_1.cell 1; have a_12 : w1.cell? ⟨w.heap.size, 2, none⟩ = some (.int .i64 (n)) := a_1.cell 2; have a_13 : w1.cell? ⟨w.heap.size, 3, none⟩ = some (.string (s)) := a_1.cell 3; have m2 : True := trivial)
    | (have z := m2; clear z m2; go_at_call 49; refine (parse_at _ _ _ _ _ _ _ hps HR (G.ext F1)).mono ?_; rintro e w2 ⟨rfl, x2⟩; have a_2 := (a_1.ext x2).alloc (.cells #[.int .u8 (k), .bool (b), .int .i64 (n), .string (s)] 24); have F2 : Ext w (w2.alloc (.cells #[.int .u8 (k), .bool (b), .int .i64 (n), .string (s)] 24)) := (F1.trans x2).alloc _; have c_2 := Bk.new w2 24 #[.int .u8 (k), .bool (b), .int .i64 (n), .string (s)]; clear x2; have a_20 : (w2.alloc (.cells #[.int .u8 (k), .bool (b), .int .i64 (n), .string (s)] 24)).cell? ⟨w.heap.size, 0, none⟩ = some (.int .u8 (k)) := a_2.cell 0; have a_21 : (w2.alloc (.cells #[.int .u8 (k), .bool (b), .int .i64 (n), .string (s)] 24)).cell? ⟨w.heap.size, 1, none⟩ = some (.bool (b)) := a_2.cell 1; have a_22 : (w2.alloc (.cells #[.int .u8 (k), .bool (b), .int .i64 (n), .string (s)] 24)).cell? ⟨w.heap.size, 2, none⟩ = some (.int .i64 (n)) := a_2.cell 2; have a_23 : (w2.alloc (.cells #[.int .u8 (k), .bool (b), .int .i64 (n), .string (s)] 24)).cell? ⟨w.heap.size, 3, none⟩ = some (.string (s)) := a_2.cell 3; have c_20 : (w2.alloc (.cells #[.int .u8 (k), .bool (b), .int .i64 (n), .string (s)] 24)).cell? ⟨w2.heap.size, 0, none⟩ = some (.int .u8 (k)) := c_2.cell 0; have c_21 : (w2.alloc (.cells #[.int .u8 (k), .bool (b), .int .i64 (n), .string (s)] 24)).cell? ⟨w2.heap.size, 1, none⟩ = some (.bool (b)) := c_2.cell 1; have c_22 : (w2.alloc (.cells #[.int .u8 (k), .bool (b), .int .i64 (n), .string (s)] 24)).cell? ⟨w2.heap.size, 2, none⟩ = some (.int .i64 (n)) := c_2.cell 2; have c_23 : (w2.alloc (.cells #[.int .u8 (k), .bool (b), .int .i64 (n), .string (s)] 24)).cell? ⟨w2.heap.size, 3, none⟩ = some (.string (s)) := c_2.cell 3; have m3 : True := trivial)
    | (have z := m3; clear z m3; go_at_call 15; refine (check_at _ _ _ _ _ HC hs1 (G.ext F2).good.good).mono ?_; rintro e w3 ⟨rfl, x3⟩; have a_3 := a_2.ext x3; have c_3 := c_2.ext x3; have F3 : Ext w w3 := (F2.trans x3); clear x3; have a_30 : w3.cell? ⟨w.heap.size, 0, none⟩ = some (.int .u8 (k)) := a_3.cell 0; have a_31 : w3.cell? ⟨w.heap.size, 1, none⟩ = some (.bool (b)) := a_3.cell 1; have a_32 : w3.cell? ⟨w.heap.size, 2, none⟩ = some (.int .i64 (n)) := a_3.cell 2; have a_33 : w3.cell? ⟨w.heap.size, 3, none⟩ = some (.string (s)) := a_3.cell 3; have c_30 : w3.cell? ⟨w2.heap.size, 0, none⟩ = some (.int .u8 (k)) := c_3.cell 0; have c_31 : w3.cell? ⟨w2.heap.size, 1, none⟩ = some (.bool (b)) := c_3.cell 1; have c_32 : w3.cell? ⟨w2.heap.size, 2, none⟩ = some (.int .i64 (n)) := c_3.cell 2; have c_33 : w3.cell? ⟨w2.heap.size, 3, none⟩ = some (.string (s)) := c_3.cell 3; have m4 : True := trivial)
    | (have z := m4; clear z m4; go_at_call 49; refine (parse_at _ _ _ _ _ _ _ hz HQ (G.ext F3)).mono ?_; rintro e w4 ⟨rfl, x4⟩; have a_4 := (a_3.ext x4).alloc (.cells #[.int .u8 (0), .bool (false), .int .i64 (0), .string (⟨#[]⟩)] 24); have c_4 := (c_3.ext x4).alloc (.cells #[.int .u8 (0), .bool (false), .int .i64 (0), .string (⟨#[]⟩)] 24); have F4 : Ext w (w4.alloc (.cells #[.int .u8 (0), .bool (false), .int .i64 (0), .string (⟨#[]⟩)] 24)) := (F3.trans x4).alloc _; have d_4 := Bk.new w4 24 #[.int .u8 (0), .bool (false), .int .i64 (0), .string (⟨#[]⟩)]; clear x4; have d_40 : (w4.alloc (.cells #[.int .u8 (0), .bool (false), .int .i64 (0), .string (⟨#[]⟩)] 24)).cell? ⟨w4.heap.size, 0, none⟩ = some (.int .u8 (0)) := d_4.cell 0; have d_41 : (w4.alloc (.cells #[.int .u8 (0), .bool (false), .int .i64 (0), .string (⟨#[]⟩)] 24)).cell? ⟨w4.heap.size, 1, none⟩ = some (.bool (false)) := d_4.cell 1; have d_42 : (w4.alloc (.cells #[.int .u8 (0), .bool (false), .int .i64 (0), .string (⟨#[]⟩)] 24)).cell? ⟨w4.heap.size, 2, none⟩ = some (.int .i64 (0)) := d_4.cell 2; have d_43 : (w4.alloc (.cells #[.int .u8 (0), .bool (false), .int .i64 (0), .string (⟨#[]⟩)] 24)).cell? ⟨w4.heap.size, 3, none⟩ = some (.string (⟨#[]⟩)) := d_4.cell 3; have m5 : True := trivial)
    | (have z := m5; clear z m5; go_at_call 16; refine (known_true _ (G.ext F4).good.good).mono ?_; rintro e w5 ⟨rfl, x5⟩; have a_5 := a_4.ext x5; have c_5 := c_4.ext x5; have d_5 := d_4.ext x5; have F5 : Ext w w5 := (F4.trans x5); clear x5; have d_50 : w5.cell? ⟨w4.heap.size, 0, none⟩ = some (.int .u8 (0)) := d_5.cell 0; have d_51 : w5.cell? ⟨w4.heap.size, 1, none⟩ = some (.bool (false)) := d_5.cell 1; have d_52 : w5.cell? ⟨w4.heap.size, 2, none⟩ = some (.int .i64 (0)) := d_5.cell 2; have d_53 : w5.cell? ⟨w4.heap.size, 3, none⟩ = some (.string (⟨#[]⟩)) := d_5.cell 3; have m6 : True := trivial)
    | fail)
  go_ret
  exact ⟨rfl, F5⟩
set_option maxRecDepth 100000 in
set_option maxHeartbeats 3000000 in
theorem back_ny (s z s2 : ByteArray) (k n c k2 n2 : Int) (b b2 : Bool) (w : World) (hs : s.size ≤ 140737488355328) (hz : z.size ≤ 140737488355328) (hn : In64 n) (hc : checkT k b n s = c) (hcn : (c == 0) = false) (hp : printT k b n s = ⟨#[]⟩) (hr : ParseRel ⟨#[]⟩ Dat.zero 13) (hq : ParseRel z ⟨k2, b2, n2, s2⟩ 0) (hc2 : checkT k2 b2 n2 s2 = 0) (hp2 : printT k2 b2 n2 s2 = z) (hn2 : In64 n2) (hs2 : s2.size ≤ 140737488355328) (G : Good3 w) :
    Calls Tryd.prog 14 #[.agg #[.int .u8 (k), .bool (b), .int .i64 (n), .string (s)], .string z] w fun e w' => e = .returned (.bool true) ∧ Ext w w' := by
  have HC := Lib.hid hc
  clear hc
  have HP := Lib.hid hp
  clear hp
  have HR := Lib.hid hr
  clear hr
  have HQ := Lib.hid hq
  clear hq
  have HN := Lib.hid hn
  clear hn
  have HC2 := Lib.hid hc2
  clear hc2
  have HP2 := Lib.hid hp2
  clear hp2
  have HN2 := Lib.hid hn2
  clear hn2
  have hs1 : s.size ≤ 9223372036854775807 := by omega
  have hs3 : s2.size ≤ 9223372036854775807 := by omega
  have a_0 : Bk (w.alloc (.cells #[.int .u8 (k), .bool (b), .int .i64 (n), .string (s)] 24)) w.heap.size 24 #[.int .u8 (k), .bool (b), .int .i64 (n), .string (s)] := Bk.new _ _ _
  have F0 : Ext w (w.alloc (.cells #[.int .u8 (k), .bool (b), .int .i64 (n), .string (s)] 24)) := (Ext.refl w).alloc _
  have m1 : True := trivial
  go_enter Tryd.func14, Tryd.ntmps14
  go_wp2_with (first
    | (have z := m1; clear z m1; go_at_call 17; refine (print_lit _ _ _ _ _ HP hs1 HN.out (G.ext F0).good).mono ?_; rintro e w1 ⟨rfl, x1⟩; have a_1 := a_0.ext x1; have F1 : Ext w w1 := (F0.trans x1); clear x1; have a_10 : w1.cell? ⟨w.heap.size, 0, none⟩ = some (.int .u8 (k)) := a_1.cell 0; have a_11 : w1.cell? ⟨w.heap.size, 1, none⟩ = some (.bool (b)) := a_1.cell 1; have a_12 : w1.cell? ⟨w.heap.size, 2, none⟩ = some (.int .i64 (n)) := a_1.cell 2; have a_13 : w1.cell? ⟨w.heap.size, 3, none⟩ = some (.string (s)) := a_1.cell 3; have m2 : True := trivial)
    | (have z := m2; clear z m2; go_at_call 49; refine (parse_at _ _ _ _ _ _ _ (by decide) HR (G.ext F1)).mono ?_; rintro e w2 ⟨rfl, x2⟩; have a_2 := (a_1.ext x2).alloc (.cells #[.int .u8 (0), .bool (false), .int .i64 (0), .string (⟨#[]⟩)] 24); have F2 : Ext w (w2.alloc (.cells #[.int .u8 (0), .bool (false), .int .i64 (0), .string (⟨#[]⟩)] 24)) := (F1.trans x2).alloc _; have c_2 := Bk.new w2 24 #[.int .u8 (0), .bool (false), .int .i64 (0), .string (⟨#[]⟩)]; clear x2; have a_20 : (w2.alloc (.cells #[.int .u8 (0), .bool (false), .int .i64 (0), .string (⟨#[]⟩)] 24)).cell? ⟨w.heap.size, 0, none⟩ = some (.int .u8 (k)) := a_2.cell 0; have a_21 : (w2.alloc (.cells #[.int .u8 (0), .bool (false), .int .i64 (0), .string (⟨#[]⟩)] 24)).cell? ⟨w.heap.size, 1, none⟩ = some (.bool (b)) := a_2.cell 1; have a_22 : (w2.alloc (.cells #[.int .u8 (0), .bool (false), .int .i64 (0), .string (⟨#[]⟩)] 24)).cell? ⟨w.heap.size, 2, none⟩ = some (.int .i64 (n)) := a_2.cell 2; have a_23 : (w2.alloc (.cells #[.int .u8 (0), .bool (false), .int .i64 (0), .string (⟨#[]⟩)] 24)).cell? ⟨w.heap.size, 3, none⟩ = some (.string (s)) := a_2.cell 3; have c_20 : (w2.alloc (.cells #[.int .u8 (0), .bool (false), .int .i64 (0), .string (⟨#[]⟩)] 24)).cell? ⟨w2.heap.size, 0, none⟩ = some (.int .u8 (0)) := c_2.cell 0; have c_21 : (w2.alloc (.cells #[.int .u8 (0), .bool (false), .int .i64 (0), .string (⟨#[]⟩)] 24)).cell? ⟨w2.heap.size, 1, none⟩ = some (.bool (false)) := c_2.cell 1; have c_22 : (w2.alloc (.cells #[.int .u8 (0), .bool (false), .int .i64 (0), .string (⟨#[]⟩)] 24)).cell? ⟨w2.heap.size, 2, none⟩ = some (.int .i64 (0)) := c_2.cell 2; have c_23 : (w2.alloc (.cells #[.int .u8 (0), .bool (false), .int .i64 (0), .string (⟨#[]⟩)] 24)).cell? ⟨w2.heap.size, 3, none⟩ = some (.string (⟨#[]⟩)) := c_2.cell 3; have m3 : True := trivial)
    | (have z := m3; clear z m3; go_at_call 15; refine (check_at _ _ _ _ _ HC hs1 (G.ext F2).good.good).mono ?_; rintro e w3 ⟨rfl, x3⟩; have a_3 := a_2.ext x3; have c_3 := c_2.ext x3; have F3 : Ext w w3 := (F2.trans x3); clear x3; have a_30 : w3.cell? ⟨w.heap.size, 0, none⟩ = some (.int .u8 (k)) := a_3.cell 0; have a_31 : w3.cell? ⟨w.heap.size, 1, none⟩ = some (.bool (b)) := a_3.cell 1; have a_32 : w3.cell? ⟨w.heap.size, 2, none⟩ = some (.int .i64 (n)) := a_3.cell 2; have a_33 : w3.cell? ⟨w.heap.size, 3, none⟩ = some (.string (s)) := a_3.cell 3; have c_30 : w3.cell? ⟨w2.heap.size, 0, none⟩ = some (.int .u8 (0)) := c_3.cell 0; have c_31 : w3.cell? ⟨w2.heap.size, 1, none⟩ = some (.bool (false)) := c_3.cell 1; have c_32 : w3.cell? ⟨w2.heap.size, 2, none⟩ = some (.int .i64 (0)) := c_3.cell 2; have c_33 : w3.cell? ⟨w2.heap.size, 3, none⟩ = some (.string (⟨#[]⟩)) := c_3.cell 3; have m4 : True := trivial)
    | (have z := m4; clear z m4; go_at_call 49; refine (parse_at _ _ _ _ _ _ _ hz HQ (G.ext F3)).mono ?_; rintro e w4 ⟨rfl, x4⟩; have a_4 := (a_3.ext x4).alloc (.cells #[.int .u8 (k2), .bool (b2), .int .i64 (n2), .string (s2)] 24); have c_4 := (c_3.ext x4).alloc (.cells #[.int .u8 (k2), .bool (b2), .int .i64 (n2), .string (s2)] 24); have F4 : Ext w (w4.alloc (.cells #[.int .u8 (k2), .bool (b2), .int .i64 (n2), .string (s2)] 24)) := (F3.trans x4).alloc _; have d_4 := Bk.new w4 24 #[.int .u8 (k2), .bool (b2), .int .i64 (n2), .string (s2)]; clear x4; have d_40 : (w4.alloc (.cells #[.int .u8 (k2), .bool (b2), .int .i64 (n2), .string (s2)] 24)).cell? ⟨w4.heap.size, 0, none⟩ = some (.int .u8 (k2)) := d_4.cell 0; have d_41 : (w4.alloc (.cells #[.int .u8 (k2), .bool (b2), .int .i64 (n2), .string (s2)] 24)).cell? ⟨w4.heap.size, 1, none⟩ = some (.bool (b2)) := d_4.cell 1; have d_42 : (w4.alloc (.cells #[.int .u8 (k2), .bool (b2), .int .i64 (n2), .string (s2)] 24)).cell? ⟨w4.heap.size, 2, none⟩ = some (.int .i64 (n2)) := d_4.cell 2; have d_43 : (w4.alloc (.cells #[.int .u8 (k2), .bool (b2), .int .i64 (n2), .string (s2)] 24)).cell? ⟨w4.heap.size, 3, none⟩ = some (.string (s2)) := d_4.cell 3; have m5 : True := trivial)
    | (have z := m5; clear z m5; go_at_call 16; refine (known_true _ (G.ext F4).good.good).mono ?_; rintro e w5 ⟨rfl, x5⟩; have a_5 := a_4.ext x5; have c_5 := c_4.ext x5; have d_5 := d_4.ext x5; have F5 : Ext w w5 := (F4.trans x5); clear x5; have d_50 : w5.cell? ⟨w4.heap.size, 0, none⟩ = some (.int .u8 (k2)) := d_5.cell 0; have d_51 : w5.cell? ⟨w4.heap.size, 1, none⟩ = some (.bool (b2)) := d_5.cell 1; have d_52 : w5.cell? ⟨w4.heap.size, 2, none⟩ = some (.int .i64 (n2)) := d_5.cell 2; have d_53 : w5.cell? ⟨w4.heap.size, 3, none⟩ = some (.string (s2)) := d_5.cell 3; have m6 : True := trivial)
    | (have z := m6; clear z m6; go_at_call 15; refine (check_at _ _ _ _ _ HC2 hs3 (G.ext F5).good.good).mono ?_; rintro e w6 ⟨rfl, x6⟩; have a_6 := a_5.ext x6; have c_6 := c_5.ext x6; have d_6 := d_5.ext x6; have F6 : Ext w w6 := (F5.trans x6); clear x6; have d_60 : w6.cell? ⟨w4.heap.size, 0, none⟩ = some (.int .u8 (k2)) := d_6.cell 0; have d_61 : w6.cell? ⟨w4.heap.size, 1, none⟩ = some (.bool (b2)) := d_6.cell 1; have d_62 : w6.cell? ⟨w4.heap.size, 2, none⟩ = some (.int .i64 (n2)) := d_6.cell 2; have d_63 : w6.cell? ⟨w4.heap.size, 3, none⟩ = some (.string (s2)) := d_6.cell 3; have m7 : True := trivial)
    | (have z := m7; clear z m7; go_at_call 17; refine (print_lit _ _ _ _ _ HP2 hs3 HN2.out (G.ext F6).good).mono ?_; rintro e w7 ⟨rfl, x7⟩; have a_7 := a_6.ext x7; have c_7 := c_6.ext x7; have d_7 := d_6.ext x7; have F7 : Ext w w7 := (F6.trans x7); clear x7; have d_70 : w7.cell? ⟨w4.heap.size, 0, none⟩ = some (.int .u8 (k2)) := d_7.cell 0; have d_71 : w7.cell? ⟨w4.heap.size, 1, none⟩ = some (.bool (b2)) := d_7.cell 1; have d_72 : w7.cell? ⟨w4.heap.size, 2, none⟩ = some (.int .i64 (n2)) := d_7.cell 2; have d_73 : w7.cell? ⟨w4.heap.size, 3, none⟩ = some (.string (s2)) := d_7.cell 3; have m8 : True := trivial)
    | fail)
  go_ret
  exact ⟨rfl, F7⟩
set_option maxRecDepth 100000 in
set_option maxHeartbeats 3000000 in
theorem back_nn (s z : ByteArray) (k n c : Int) (b : Bool) (w : World) (hs : s.size ≤ 140737488355328) (hz : z.size ≤ 140737488355328) (hn : In64 n) (hc : checkT k b n s = c) (hcn : (c == 0) = false) (hp : printT k b n s = ⟨#[]⟩) (hr : ParseRel ⟨#[]⟩ Dat.zero 13) (hq : ParseRel z Dat.zero 13) (G : Good3 w) :
    Calls Tryd.prog 14 #[.agg #[.int .u8 (k), .bool (b), .int .i64 (n), .string (s)], .string z] w fun e w' => e = .returned (.bool true) ∧ Ext w w' := by
  have HC := Lib.hid hc
  clear hc
  have HP := Lib.hid hp
  clear hp
  have HR := Lib.hid hr
  clear hr
  have HQ := Lib.hid hq
  clear hq
  have HN := Lib.hid hn
  clear hn
  have hs1 : s.size ≤ 9223372036854775807 := by omega
  have a_0 : Bk (w.alloc (.cells #[.int .u8 (k), .bool (b), .int .i64 (n), .string (s)] 24)) w.heap.size 24 #[.int .u8 (k), .bool (b), .int .i64 (n), .string (s)] := Bk.new _ _ _
  have F0 : Ext w (w.alloc (.cells #[.int .u8 (k), .bool (b), .int .i64 (n), .string (s)] 24)) := (Ext.refl w).alloc _
  have m1 : True := trivial
  go_enter Tryd.func14, Tryd.ntmps14
  go_wp2_with (first
    | (have z := m1; clear z m1; go_at_call 17; refine (print_lit _ _ _ _ _ HP hs1 HN.out (G.ext F0).good).mono ?_; rintro e w1 ⟨rfl, x1⟩; have a_1 := a_0.ext x1; have F1 : Ext w w1 := (F0.trans x1); clear x1; have a_10 : w1.cell? ⟨w.heap.size, 0, none⟩ = some (.int .u8 (k)) := a_1.cell 0; have a_11 : w1.cell? ⟨w.heap.size, 1, none⟩ = some (.bool (b)) := a_1.cell 1; have a_12 : w1.cell? ⟨w.heap.size, 2, none⟩ = some (.int .i64 (n)) := a_1.cell 2; have a_13 : w1.cell? ⟨w.heap.size, 3, none⟩ = some (.string (s)) := a_1.cell 3; have m2 : True := trivial)
    | (have z := m2; clear z m2; go_at_call 49; refine (parse_at _ _ _ _ _ _ _ (by decide) HR (G.ext F1)).mono ?_; rintro e w2 ⟨rfl, x2⟩; have a_2 := (a_1.ext x2).alloc (.cells #[.int .u8 (0), .bool (false), .int .i64 (0), .string (⟨#[]⟩)] 24); have F2 : Ext w (w2.alloc (.cells #[.int .u8 (0), .bool (false), .int .i64 (0), .string (⟨#[]⟩)] 24)) := (F1.trans x2).alloc _; have c_2 := Bk.new w2 24 #[.int .u8 (0), .bool (false), .int .i64 (0), .string (⟨#[]⟩)]; clear x2; have a_20 : (w2.alloc (.cells #[.int .u8 (0), .bool (false), .int .i64 (0), .string (⟨#[]⟩)] 24)).cell? ⟨w.heap.size, 0, none⟩ = some (.int .u8 (k)) := a_2.cell 0; have a_21 : (w2.alloc (.cells #[.int .u8 (0), .bool (false), .int .i64 (0), .string (⟨#[]⟩)] 24)).cell? ⟨w.heap.size, 1, none⟩ = some (.bool (b)) := a_2.cell 1; have a_22 : (w2.alloc (.cells #[.int .u8 (0), .bool (false), .int .i64 (0), .string (⟨#[]⟩)] 24)).cell? ⟨w.heap.size, 2, none⟩ = some (.int .i64 (n)) := a_2.cell 2; have a_23 : (w2.alloc (.cells #[.int .u8 (0), .bool (false), .int .i64 (0), .string (⟨#[]⟩)] 24)).cell? ⟨w.heap.size, 3, none⟩ = some (.string (s)) := a_2.cell 3; have c_20 : (w2.alloc (.cells #[.int .u8 (0), .bool (false), .int .i64 (0), .string (⟨#[]⟩)] 24)).cell? ⟨w2.heap.size, 0, none⟩ = some (.int .u8 (0)) := c_2.cell 0; have c_21 : (w2.alloc (.cells #[.int .u8 (0), .bool (false), .int .i64 (0), .string (⟨#[]⟩)] 24)).cell? ⟨w2.heap.size, 1, none⟩ = some (.bool (false)) := c_2.cell 1; have c_22 : (w2.alloc (.cells #[.int .u8 (0), .bool (false), .int .i64 (0), .string (⟨#[]⟩)] 24)).cell? ⟨w2.heap.size, 2, none⟩ = some (.int .i64 (0)) := c_2.cell 2; have c_23 : (w2.alloc (.cells #[.int .u8 (0), .bool (false), .int .i64 (0), .string (⟨#[]⟩)] 24)).cell? ⟨w2.heap.size, 3, none⟩ = some (.string (⟨#[]⟩)) := c_2.cell 3; have m3 : True := trivial)
    | (have z := m3; clear z m3; go_at_call 15; refine (check_at _ _ _ _ _ HC hs1 (G.ext F2).good.good).mono ?_; rintro e w3 ⟨rfl, x3⟩; have a_3 := a_2.ext x3; have c_3 := c_2.ext x3; have F3 : Ext w w3 := (F2.trans x3); clear x3; have a_30 : w3.cell? ⟨w.heap.size, 0, none⟩ = some (.int .u8 (k)) := a_3.cell 0; have a_31 : w3.cell? ⟨w.heap.size, 1, none⟩ = some (.bool (b)) := a_3.cell 1; have a_32 : w3.cell? ⟨w.heap.size, 2, none⟩ = some (.int .i64 (n)) := a_3.cell 2; have a_33 : w3.cell? ⟨w.heap.size, 3, none⟩ = some (.string (s)) := a_3.cell 3; have c_30 : w3.cell? ⟨w2.heap.size, 0, none⟩ = some (.int .u8 (0)) := c_3.cell 0; have c_31 : w3.cell? ⟨w2.heap.size, 1, none⟩ = some (.bool (false)) := c_3.cell 1; have c_32 : w3.cell? ⟨w2.heap.size, 2, none⟩ = some (.int .i64 (0)) := c_3.cell 2; have c_33 : w3.cell? ⟨w2.heap.size, 3, none⟩ = some (.string (⟨#[]⟩)) := c_3.cell 3; have m4 : True := trivial)
    | (have z := m4; clear z m4; go_at_call 49; refine (parse_at _ _ _ _ _ _ _ hz HQ (G.ext F3)).mono ?_; rintro e w4 ⟨rfl, x4⟩; have a_4 := (a_3.ext x4).alloc (.cells #[.int .u8 (0), .bool (false), .int .i64 (0), .string (⟨#[]⟩)] 24); have c_4 := (c_3.ext x4).alloc (.cells #[.int .u8 (0), .bool (false), .int .i64 (0), .string (⟨#[]⟩)] 24); have F4 : Ext w (w4.alloc (.cells #[.int .u8 (0), .bool (false), .int .i64 (0), .string (⟨#[]⟩)] 24)) := (F3.trans x4).alloc _; have d_4 := Bk.new w4 24 #[.int .u8 (0), .bool (false), .int .i64 (0), .string (⟨#[]⟩)]; clear x4; have d_40 : (w4.alloc (.cells #[.int .u8 (0), .bool (false), .int .i64 (0), .string (⟨#[]⟩)] 24)).cell? ⟨w4.heap.size, 0, none⟩ = some (.int .u8 (0)) := d_4.cell 0; have d_41 : (w4.alloc (.cells #[.int .u8 (0), .bool (false), .int .i64 (0), .string (⟨#[]⟩)] 24)).cell? ⟨w4.heap.size, 1, none⟩ = some (.bool (false)) := d_4.cell 1; have d_42 : (w4.alloc (.cells #[.int .u8 (0), .bool (false), .int .i64 (0), .string (⟨#[]⟩)] 24)).cell? ⟨w4.heap.size, 2, none⟩ = some (.int .i64 (0)) := d_4.cell 2; have d_43 : (w4.alloc (.cells #[.int .u8 (0), .bool (false), .int .i64 (0), .string (⟨#[]⟩)] 24)).cell? ⟨w4.heap.size, 3, none⟩ = some (.string (⟨#[]⟩)) := d_4.cell 3; have m5 : True := trivial)
    | (have z := m5; clear z m5; go_at_call 16; refine (known_true _ (G.ext F4).good.good).mono ?_; rintro e w5 ⟨rfl, x5⟩; have a_5 := a_4.ext x5; have c_5 := c_4.ext x5; have d_5 := d_4.ext x5; have F5 : Ext w w5 := (F4.trans x5); clear x5; have d_50 : w5.cell? ⟨w4.heap.size, 0, none⟩ = some (.int .u8 (0)) := d_5.cell 0; have d_51 : w5.cell? ⟨w4.heap.size, 1, none⟩ = some (.bool (false)) := d_5.cell 1; have d_52 : w5.cell? ⟨w4.heap.size, 2, none⟩ = some (.int .i64 (0)) := d_5.cell 2; have d_53 : w5.cell? ⟨w4.heap.size, 3, none⟩ = some (.string (⟨#[]⟩)) := d_5.cell 3; have m6 : True := trivial)
    | fail)
  go_ret
  exact ⟨rfl, F5⟩
theorem printL_size {k n : Int} {b : Bool} {s : ByteArray} (h : checkT k b n s = 0) (hn : In64 n) : (printT k b n s).size ≤ 140737488355328 := by
  rw [printT_on h]
  have := printL_len h hn
  show (printL k b n s).toArray.size ≤ _
  rw [List.size_toArray]
  omega
theorem printT_ne {k n : Int} {b : Bool} {s : ByteArray} (h : checkT k b n s = 0) : ¬ (printT k b n s).toList = [] := by
  rw [printT_on h, Lib.toList_data]
  exact printL_ne k n b s
theorem parse_none : ParseRel ⟨#[]⟩ Dat.zero 13 := .inr ⟨rfl, rfl, fun x hx h => printT_ne hx.1 (by rw [h, Lib.toList_data])⟩
theorem back_any (k n : Int) (b : Bool) (s z : ByteArray) (w : World) (hs : s.size ≤ 140737488355328) (hz : z.size ≤ 140737488355328) (hn : In64 n) (G : Good3 w) :
    Calls Tryd.prog 14 #[.agg #[.int .u8 k, .bool b, .int .i64 n, .string s], .string z] w fun e w' => e = .returned (.bool true) ∧ Ext w w' := by
  by_cases hc : checkT k b n s = 0
  · rcases rel_exists z with ⟨⟨k2, b2, n2, s2⟩, h1, ⟨h2, h4⟩, h3⟩ | h1
    · exact back_yy s z _ s2 k n k2 n2 b b2 w hs hz hn hc rfl (parse_on ⟨hc, hn⟩ rfl) (printL_size hc hn) (printT_ne hc) h1 h2 h3 h4 (by have : s2.size ≤ 1000 := size_of_check h2; omega) G
    · exact back_yn s z _ k n b w hs hz hn hc rfl (parse_on ⟨hc, hn⟩ rfl) (printL_size hc hn) (printT_ne hc) h1 G
  · have hp : printT k b n s = ⟨#[]⟩ := by unfold printT; rw [if_neg hc]
    have hcn : (checkT k b n s == 0) = false := by simpa using hc
    rcases rel_exists z with ⟨⟨k2, b2, n2, s2⟩, h1, ⟨h2, h4⟩, h3⟩ | h1
    · exact back_ny s z s2 k n _ k2 n2 b b2 w hs hz hn rfl hcn hp parse_none h1 h2 h3 h4 (by have : s2.size ≤ 1000 := size_of_check h2; omega) G
    · exact back_nn s z k n _ b w hs hz hn rfl hcn hp parse_none h1 G
end Go.Proofs.YtobgfegdfcpgfaaDoor
