/- datum.Print, penstockref01.Print; DatumChecks: the walk. Conditions: the library's tables stand; texts that lie in memory. -/
import Derived.Test.YtobgfegdfcpgfaaDoorQuoteB
import Derived.Test.YtobgfegdfcpgfaaDoorRefQuote
import Derived.Test.YtobgfegdfcpgfaaDoorRefCmp
import Derived.Test.YtobgfegdfcpgfaaDoorDText
namespace Go.Proofs.YtobgfegdfcpgfaaDoor
open Go.RowKit

theorem one_app (D : List UInt8) (x : UInt8) : (⟨#[x]⟩ : ByteArray) ++ ⟨D.toArray⟩ = ⟨(x :: D).toArray⟩ := by
  apply ByteArray.ext
  simp
/-- a datum as it is written -/
def printT (k : Int) (b : Bool) (n : Int) (s : ByteArray) : ByteArray :=
  if checkT k b n s = 0 then (if k = 2 then ⟨(Lib.formatBool b).toArray⟩ else if k = 3 then ⟨(Lib.itoa n).toArray⟩ else if k = 4 then ⟨(quotedT s.data.toList).toArray⟩ else ⟨#[110, 117, 108, 108]⟩) else ⟨#[]⟩
set_option maxRecDepth 100000 in
set_option maxHeartbeats 1000000 in
theorem print_off (k n c : Int) (b : Bool) (s : ByteArray) (w : World) (hs : s.size ≤ 9223372036854775807) (hc : checkT k b n s = c) (l : (c != 0) = true) (G : Good2 w) : Calls Tryd.prog 17 #[.agg #[.int .u8 (k), .bool (b), .int .i64 (n), .string (s)]] w fun e w' => e = .returned (.string ⟨#[]⟩) ∧ Ext w w' := by
  have HC := Lib.hid hc
  clear hc
  have a_0 : Bk (w.alloc (.cells #[.int .u8 (k), .bool (b), .int .i64 (n), .string (s)] 24)) w.heap.size 24 #[.int .u8 (k), .bool (b), .int .i64 (n), .string (s)] := Bk.new _ _ _
  have F0 : Ext w (w.alloc (.cells #[.int .u8 (k), .bool (b), .int .i64 (n), .string (s)] 24)) := (Ext.refl w).alloc _
  have m1 : True := trivial
  go_enter Tryd.func17, Tryd.ntmps17
  go_wp2_with (first
    | (have z := m1; clear z m1; go_at_call 15; refine (check_at _ _ _ _ _ HC hs (G.ext F0).good).mono ?_; rintro e w1 ⟨rfl, x1⟩; have a_1 := a_0.ext x1; have F1 : Ext w w1 := (F0.trans x1); clear x1; have a_10 : w1.cell? ⟨w.heap.size, 0, none⟩ = some (.int .u8 (k)) := a_1.cell 0; have a_11 : w1.cell? ⟨w.heap.size, 1, none⟩ = some (.bool (b)) := a_1.cell 1; have a_12 : w1.cell? ⟨w.heap.size, 2, none⟩ = some (.int .i64 (n)) := a_1.cell 2; have a_13 : w1.cell? ⟨w.heap.size, 3, none⟩ = some (.string (s)) := a_1.cell 3; have m2 : True := trivial)
    | fail)
  go_ret
  exact ⟨rfl, F1⟩
set_option maxRecDepth 100000 in
set_option maxHeartbeats 1000000 in
theorem print_bool (n : Int) (b : Bool) (s : ByteArray) (w : World) (hs : s.size ≤ 9223372036854775807) (hc : checkT 2 b n s = 0) (G : Good2 w) : Calls Tryd.prog 17 #[.agg #[.int .u8 (2), .bool (b), .int .i64 (n), .string (s)]] w fun e w' => e = .returned (.string ⟨(Lib.formatBool b).toArray⟩) ∧ Ext w w' := by
  have HC := Lib.hid hc
  clear hc
  have a_0 : Bk (w.alloc (.cells #[.int .u8 (2), .bool (b), .int .i64 (n), .string (s)] 24)) w.heap.size 24 #[.int .u8 (2), .bool (b), .int .i64 (n), .string (s)] := Bk.new _ _ _
  have F0 : Ext w (w.alloc (.cells #[.int .u8 (2), .bool (b), .int .i64 (n), .string (s)] 24)) := (Ext.refl w).alloc _
  have m1 : True := trivial
  go_enter Tryd.func17, Tryd.ntmps17
  go_wp2_with (first
    | (have z := m1; clear z m1; go_at_call 15; refine (check_at _ _ _ _ _ HC hs (G.ext F0).good).mono ?_; rintro e w1 ⟨rfl, x1⟩; have a_1 := a_0.ext x1; have F1 : Ext w w1 := (F0.trans x1); clear x1; have a_10 : w1.cell? ⟨w.heap.size, 0, none⟩ = some (.int .u8 (2)) := a_1.cell 0; have a_11 : w1.cell? ⟨w.heap.size, 1, none⟩ = some (.bool (b)) := a_1.cell 1; have a_12 : w1.cell? ⟨w.heap.size, 2, none⟩ = some (.int .i64 (n)) := a_1.cell 2; have a_13 : w1.cell? ⟨w.heap.size, 3, none⟩ = some (.string (s)) := a_1.cell 3; have m2 : True := trivial)
    | (have z := m2; clear z m2; go_at_call 54; refine (formatBool_any _ _).mono ?_; rintro e w2 ⟨rfl, x2⟩; have a_2 := a_1.ext x2; have F2 : Ext w w2 := (F1.trans x2); clear x2; have a_20 : w2.cell? ⟨w.heap.size, 0, none⟩ = some (.int .u8 (2)) := a_2.cell 0; have a_21 : w2.cell? ⟨w.heap.size, 1, none⟩ = some (.bool (b)) := a_2.cell 1; have a_22 : w2.cell? ⟨w.heap.size, 2, none⟩ = some (.int .i64 (n)) := a_2.cell 2; have a_23 : w2.cell? ⟨w.heap.size, 3, none⟩ = some (.string (s)) := a_2.cell 3; have m3 : True := trivial)
    | fail)
  go_ret
  exact ⟨rfl, F2⟩
set_option maxRecDepth 100000 in
set_option maxHeartbeats 1000000 in
theorem print_int (n : Int) (b : Bool) (s : ByteArray) (w : World) (hs : s.size ≤ 9223372036854775807) (hc : checkT 3 b n s = 0) (hn : -9223372036854775808 ≤ n ∧ n ≤ 9223372036854775807) (G : Good2 w) : Calls Tryd.prog 17 #[.agg #[.int .u8 (3), .bool (b), .int .i64 (n), .string (s)]] w fun e w' => e = .returned (.string ⟨(Lib.itoa n).toArray⟩) ∧ Ext w w' := by
  have HC := Lib.hid hc
  clear hc
  have HN := Lib.hid hn
  clear hn
  have a_0 : Bk (w.alloc (.cells #[.int .u8 (3), .bool (b), .int .i64 (n), .string (s)] 24)) w.heap.size 24 #[.int .u8 (3), .bool (b), .int .i64 (n), .string (s)] := Bk.new _ _ _
  have F0 : Ext w (w.alloc (.cells #[.int .u8 (3), .bool (b), .int .i64 (n), .string (s)] 24)) := (Ext.refl w).alloc _
  have m1 : True := trivial
  go_enter Tryd.func17, Tryd.ntmps17
  go_wp2_with (first
    | (have z := m1; clear z m1; go_at_call 15; refine (check_at _ _ _ _ _ HC hs (G.ext F0).good).mono ?_; rintro e w1 ⟨rfl, x1⟩; have a_1 := a_0.ext x1; have F1 : Ext w w1 := (F0.trans x1); clear x1; have a_10 : w1.cell? ⟨w.heap.size, 0, none⟩ = some (.int .u8 (3)) := a_1.cell 0; have a_11 : w1.cell? ⟨w.heap.size, 1, none⟩ = some (.bool (b)) := a_1.cell 1; have a_12 : w1.cell? ⟨w.heap.size, 2, none⟩ = some (.int .i64 (n)) := a_1.cell 2; have a_13 : w1.cell? ⟨w.heap.size, 3, none⟩ = some (.string (s)) := a_1.cell 3; have m2 : True := trivial)
    | (have z := m2; clear z m2; go_at_call 55; refine (formatInt_any _ _ HN.out (G.ext F1)).mono ?_; rintro e w2 ⟨rfl, x2⟩; have a_2 := a_1.ext x2; have F2 : Ext w w2 := (F1.trans x2); clear x2; have a_20 : w2.cell? ⟨w.heap.size, 0, none⟩ = some (.int .u8 (3)) := a_2.cell 0; have a_21 : w2.cell? ⟨w.heap.size, 1, none⟩ = some (.bool (b)) := a_2.cell 1; have a_22 : w2.cell? ⟨w.heap.size, 2, none⟩ = some (.int .i64 (n)) := a_2.cell 2; have a_23 : w2.cell? ⟨w.heap.size, 3, none⟩ = some (.string (s)) := a_2.cell 3; have m3 : True := trivial)
    | fail)
  go_ret
  exact ⟨rfl, F2⟩
set_option maxRecDepth 100000 in
set_option maxHeartbeats 1000000 in
theorem print_text (n : Int) (b : Bool) (s : ByteArray) (w : World) (hs : s.size ≤ 9223372036854775807) (hc : checkT 4 b n s = 0) (hl : s.size ≤ 1000000) (G : Good2 w) : Calls Tryd.prog 17 #[.agg #[.int .u8 (4), .bool (b), .int .i64 (n), .string (s)]] w fun e w' => e = .returned (.string ⟨(quotedT s.data.toList).toArray⟩) ∧ Ext w w' := by
  have HC := Lib.hid hc
  clear hc
  have a_0 : Bk (w.alloc (.cells #[.int .u8 (4), .bool (b), .int .i64 (n), .string (s)] 24)) w.heap.size 24 #[.int .u8 (4), .bool (b), .int .i64 (n), .string (s)] := Bk.new _ _ _
  have F0 : Ext w (w.alloc (.cells #[.int .u8 (4), .bool (b), .int .i64 (n), .string (s)] 24)) := (Ext.refl w).alloc _
  have m1 : True := trivial
  go_enter Tryd.func17, Tryd.ntmps17
  go_wp2_with (first
    | (have z := m1; clear z m1; go_at_call 15; refine (check_at _ _ _ _ _ HC hs (G.ext F0).good).mono ?_; rintro e w1 ⟨rfl, x1⟩; have a_1 := a_0.ext x1; have F1 : Ext w w1 := (F0.trans x1); clear x1; have a_10 : w1.cell? ⟨w.heap.size, 0, none⟩ = some (.int .u8 (4)) := a_1.cell 0; have a_11 : w1.cell? ⟨w.heap.size, 1, none⟩ = some (.bool (b)) := a_1.cell 1; have a_12 : w1.cell? ⟨w.heap.size, 2, none⟩ = some (.int .i64 (n)) := a_1.cell 2; have a_13 : w1.cell? ⟨w.heap.size, 3, none⟩ = some (.string (s)) := a_1.cell 3; have m2 : True := trivial)
    | (have z := m2; clear z m2; go_at_call 56; refine (quoted_any _ _ hl (G.ext F1)).mono ?_; rintro e w2 ⟨rfl, x2⟩; have a_2 := a_1.ext x2; have F2 : Ext w w2 := (F1.trans x2); clear x2; have a_20 : w2.cell? ⟨w.heap.size, 0, none⟩ = some (.int .u8 (4)) := a_2.cell 0; have a_21 : w2.cell? ⟨w.heap.size, 1, none⟩ = some (.bool (b)) := a_2.cell 1; have a_22 : w2.cell? ⟨w.heap.size, 2, none⟩ = some (.int .i64 (n)) := a_2.cell 2; have a_23 : w2.cell? ⟨w.heap.size, 3, none⟩ = some (.string (s)) := a_2.cell 3; have m3 : True := trivial)
    | fail)
  go_ret
  exact ⟨rfl, F2⟩
set_option maxRecDepth 100000 in
set_option maxHeartbeats 1000000 in
theorem print_null (n : Int) (b : Bool) (s : ByteArray) (w : World) (hs : s.size ≤ 9223372036854775807) (hc : checkT 1 b n s = 0) (G : Good2 w) : Calls Tryd.prog 17 #[.agg #[.int .u8 (1), .bool (b), .int .i64 (n), .string (s)]] w fun e w' => e = .returned (.string ⟨#[110, 117, 108, 108]⟩) ∧ Ext w w' := by
  have HC := Lib.hid hc
  clear hc
  have a_0 : Bk (w.alloc (.cells #[.int .u8 (1), .bool (b), .int .i64 (n), .string (s)] 24)) w.heap.size 24 #[.int .u8 (1), .bool (b), .int .i64 (n), .string (s)] := Bk.new _ _ _
  have F0 : Ext w (w.alloc (.cells #[.int .u8 (1), .bool (b), .int .i64 (n), .string (s)] 24)) := (Ext.refl w).alloc _
  have m1 : True := trivial
  go_enter Tryd.func17, Tryd.ntmps17
  go_wp2_with (first
    | (have z := m1; clear z m1; go_at_call 15; refine (check_at _ _ _ _ _ HC hs (G.ext F0).good).mono ?_; rintro e w1 ⟨rfl, x1⟩; have a_1 := a_0.ext x1; have F1 : Ext w w1 := (F0.trans x1); clear x1; have a_10 : w1.cell? ⟨w.heap.size, 0, none⟩ = some (.int .u8 (1)) := a_1.cell 0; have a_11 : w1.cell? ⟨w.heap.size, 1, none⟩ = some (.bool (b)) := a_1.cell 1; have a_12 : w1.cell? ⟨w.heap.size, 2, none⟩ = some (.int .i64 (n)) := a_1.cell 2; have a_13 : w1.cell? ⟨w.heap.size, 3, none⟩ = some (.string (s)) := a_1.cell 3; have m2 : True := trivial)
    | fail)
  go_ret
  exact ⟨rfl, F1⟩
theorem print_any (k : Int) (b : Bool) (n : Int) (s : ByteArray) (w : World) (hs : s.size ≤ 9223372036854775807) (hn : -9223372036854775808 ≤ n ∧ n ≤ 9223372036854775807) (G : Good2 w) : Calls Tryd.prog 17 #[.agg #[.int .u8 (k), .bool (b), .int .i64 (n), .string (s)]] w fun e w' => e = .returned (.string (printT k b n s)) ∧ Ext w w' := by
  unfold printT
  by_cases hc : checkT k b n s = 0
  · rw [if_pos hc]
    have hk := (form_of hc).1
    by_cases h2 : k = 2
    · subst h2; rw [if_pos rfl]; exact print_bool n b s w hs hc G
    rw [if_neg h2]
    by_cases h3 : k = 3
    · subst h3; rw [if_pos rfl]; exact print_int n b s w hs hc hn G
    rw [if_neg h3]
    by_cases h4 : k = 4
    · subst h4; rw [if_pos rfl]; exact print_text n b s w hs hc (by have := size_of_check hc; omega) G
    rw [if_neg h4]
    obtain rfl : k = 1 := by omega
    exact print_null n b s w hs hc G
  · rw [if_neg hc]; exact print_off k n _ b s w hs rfl (by simpa using hc) G
theorem print_lit {r : ByteArray} (k : Int) (b : Bool) (n : Int) (s : ByteArray) (w : World) (h : Hid (printT k b n s = r)) (hs : s.size ≤ 9223372036854775807) (hn : -9223372036854775808 ≤ n ∧ n ≤ 9223372036854775807) (G : Good2 w) : Calls Tryd.prog 17 #[.agg #[.int .u8 (k), .bool (b), .int .i64 (n), .string (s)]] w fun e w' => e = .returned (.string r) ∧ Ext w w' := h.out ▸ print_any k b n s w hs hn G
set_option maxRecDepth 100000 in
set_option maxHeartbeats 1000000 in
theorem rprint_off (k n c : Int) (b : Bool) (s : ByteArray) (w : World) (hs : s.size ≤ 140737488355328) (hc : checkT k b n s = c) (l : (c != 0) = true) : Calls Tryd.prog 41 #[.agg #[.int .u8 (k), .bool (b), .int .i64 (n), .string (s)]] w fun e w' => e = .returned (.string ⟨#[]⟩) ∧ Ext w w' := by
  have HC := Lib.hid hc
  clear hc
  have a_0 : Bk (w.alloc (.cells #[.int .u8 (k), .bool (b), .int .i64 (n), .string (s)] 24)) w.heap.size 24 #[.int .u8 (k), .bool (b), .int .i64 (n), .string (s)] := Bk.new _ _ _
  have F0 : Ext w (w.alloc (.cells #[.int .u8 (k), .bool (b), .int .i64 (n), .string (s)] 24)) := (Ext.refl w).alloc _
  have m1 : True := trivial
  go_enter Tryd.func41, Tryd.ntmps41
  go_wp2_with (first
    | (have z := m1; clear z m1; go_at_call 38; refine (rcheck_at _ _ _ _ _ HC hs).mono ?_; rintro e w1 ⟨rfl, x1⟩; have a_1 := a_0.ext x1; have F1 : Ext w w1 := (F0.trans x1); clear x1; have a_10 : w1.cell? ⟨w.heap.size, 0, none⟩ = some (.int .u8 (k)) := a_1.cell 0; have a_11 : w1.cell? ⟨w.heap.size, 1, none⟩ = some (.bool (b)) := a_1.cell 1; have a_12 : w1.cell? ⟨w.heap.size, 2, none⟩ = some (.int .i64 (n)) := a_1.cell 2; have a_13 : w1.cell? ⟨w.heap.size, 3, none⟩ = some (.string (s)) := a_1.cell 3; have m2 : True := trivial)
    | fail)
  go_ret
  exact ⟨rfl, F1⟩
set_option maxRecDepth 100000 in
set_option maxHeartbeats 1000000 in
theorem rprint_null (n : Int) (b : Bool) (s : ByteArray) (w : World) (hs : s.size ≤ 140737488355328) (hc : checkT 1 b n s = 0) : Calls Tryd.prog 41 #[.agg #[.int .u8 (1), .bool (b), .int .i64 (n), .string (s)]] w fun e w' => e = .returned (.string ⟨#[110, 117, 108, 108]⟩) ∧ Ext w w' := by
  have HC := Lib.hid hc
  clear hc
  have a_0 : Bk (w.alloc (.cells #[.int .u8 (1), .bool (b), .int .i64 (n), .string (s)] 24)) w.heap.size 24 #[.int .u8 (1), .bool (b), .int .i64 (n), .string (s)] := Bk.new _ _ _
  have F0 : Ext w (w.alloc (.cells #[.int .u8 (1), .bool (b), .int .i64 (n), .string (s)] 24)) := (Ext.refl w).alloc _
  have m1 : True := trivial
  go_enter Tryd.func41, Tryd.ntmps41
  go_wp2_with (first
    | (have z := m1; clear z m1; go_at_call 38; refine (rcheck_at _ _ _ _ _ HC hs).mono ?_; rintro e w1 ⟨rfl, x1⟩; have a_1 := a_0.ext x1; have F1 : Ext w w1 := (F0.trans x1); clear x1; have a_10 : w1.cell? ⟨w.heap.size, 0, none⟩ = some (.int .u8 (1)) := a_1.cell 0; have a_11 : w1.cell? ⟨w.heap.size, 1, none⟩ = some (.bool (b)) := a_1.cell 1; have a_12 : w1.cell? ⟨w.heap.size, 2, none⟩ = some (.int .i64 (n)) := a_1.cell 2; have a_13 : w1.cell? ⟨w.heap.size, 3, none⟩ = some (.string (s)) := a_1.cell 3; have m2 : True := trivial)
    | fail)
  go_ret
  exact ⟨rfl, F1⟩
set_option maxRecDepth 100000 in
set_option maxHeartbeats 1000000 in
theorem rprint_true (n : Int) (s : ByteArray) (w : World) (hs : s.size ≤ 140737488355328) (hc : checkT 2 true n s = 0) : Calls Tryd.prog 41 #[.agg #[.int .u8 (2), .bool (true), .int .i64 (n), .string (s)]] w fun e w' => e = .returned (.string ⟨(Lib.formatBool true).toArray⟩) ∧ Ext w w' := by
  have HC := Lib.hid hc
  clear hc
  have a_0 : Bk (w.alloc (.cells #[.int .u8 (2), .bool (true), .int .i64 (n), .string (s)] 24)) w.heap.size 24 #[.int .u8 (2), .bool (true), .int .i64 (n), .string (s)] := Bk.new _ _ _
  have F0 : Ext w (w.alloc (.cells #[.int .u8 (2), .bool (true), .int .i64 (n), .string (s)] 24)) := (Ext.refl w).alloc _
  have m1 : True := trivial
  go_enter Tryd.func41, Tryd.ntmps41
  go_wp2_with (first
    | (have z := m1; clear z m1; go_at_call 38; refine (rcheck_at _ _ _ _ _ HC hs).mono ?_; rintro e w1 ⟨rfl, x1⟩; have a_1 := a_0.ext x1; have F1 : Ext w w1 := (F0.trans x1); clear x1; have a_10 : w1.cell? ⟨w.heap.size, 0, none⟩ = some (.int .u8 (2)) := a_1.cell 0; have a_11 : w1.cell? ⟨w.heap.size, 1, none⟩ = some (.bool (true)) := a_1.cell 1; have a_12 : w1.cell? ⟨w.heap.size, 2, none⟩ = some (.int .i64 (n)) := a_1.cell 2; have a_13 : w1.cell? ⟨w.heap.size, 3, none⟩ = some (.string (s)) := a_1.cell 3; have m2 : True := trivial)
    | fail)
  go_ret
  exact ⟨rfl, F1⟩
set_option maxRecDepth 100000 in
set_option maxHeartbeats 1000000 in
theorem rprint_false (n : Int) (s : ByteArray) (w : World) (hs : s.size ≤ 140737488355328) (hc : checkT 2 false n s = 0) : Calls Tryd.prog 41 #[.agg #[.int .u8 (2), .bool (false), .int .i64 (n), .string (s)]] w fun e w' => e = .returned (.string ⟨(Lib.formatBool false).toArray⟩) ∧ Ext w w' := by
  have HC := Lib.hid hc
  clear hc
  have a_0 : Bk (w.alloc (.cells #[.int .u8 (2), .bool (false), .int .i64 (n), .string (s)] 24)) w.heap.size 24 #[.int .u8 (2), .bool (false), .int .i64 (n), .string (s)] := Bk.new _ _ _
  have F0 : Ext w (w.alloc (.cells #[.int .u8 (2), .bool (false), .int .i64 (n), .string (s)] 24)) := (Ext.refl w).alloc _
  have m1 : True := trivial
  go_enter Tryd.func41, Tryd.ntmps41
  go_wp2_with (first
    | (have z := m1; clear z m1; go_at_call 38; refine (rcheck_at _ _ _ _ _ HC hs).mono ?_; rintro e w1 ⟨rfl, x1⟩; have a_1 := a_0.ext x1; have F1 : Ext w w1 := (F0.trans x1); clear x1; have a_10 : w1.cell? ⟨w.heap.size, 0, none⟩ = some (.int .u8 (2)) := a_1.cell 0; have a_11 : w1.cell? ⟨w.heap.size, 1, none⟩ = some (.bool (false)) := a_1.cell 1; have a_12 : w1.cell? ⟨w.heap.size, 2, none⟩ = some (.int .i64 (n)) := a_1.cell 2; have a_13 : w1.cell? ⟨w.heap.size, 3, none⟩ = some (.string (s)) := a_1.cell 3; have m2 : True := trivial)
    | fail)
  go_ret
  exact ⟨rfl, F1⟩
set_option maxRecDepth 100000 in
set_option maxHeartbeats 1000000 in
theorem rprint_text (n : Int) (b : Bool) (s : ByteArray) (w : World) (hs : s.size ≤ 140737488355328) (hc : checkT 4 b n s = 0) (hl : s.size ≤ 1000000) : Calls Tryd.prog 41 #[.agg #[.int .u8 (4), .bool (b), .int .i64 (n), .string (s)]] w fun e w' => e = .returned (.string ⟨(quotedT s.data.toList).toArray⟩) ∧ Ext w w' := by
  have HC := Lib.hid hc
  clear hc
  have a_0 : Bk (w.alloc (.cells #[.int .u8 (4), .bool (b), .int .i64 (n), .string (s)] 24)) w.heap.size 24 #[.int .u8 (4), .bool (b), .int .i64 (n), .string (s)] := Bk.new _ _ _
  have F0 : Ext w (w.alloc (.cells #[.int .u8 (4), .bool (b), .int .i64 (n), .string (s)] 24)) := (Ext.refl w).alloc _
  have m1 : True := trivial
  go_enter Tryd.func41, Tryd.ntmps41
  go_wp2_with (first
    | (have z := m1; clear z m1; go_at_call 38; refine (rcheck_at _ _ _ _ _ HC hs).mono ?_; rintro e w1 ⟨rfl, x1⟩; have a_1 := a_0.ext x1; have F1 : Ext w w1 := (F0.trans x1); clear x1; have a_10 : w1.cell? ⟨w.heap.size, 0, none⟩ = some (.int .u8 (4)) := a_1.cell 0; have a_11 : w1.cell? ⟨w.heap.size, 1, none⟩ = some (.bool (b)) := a_1.cell 1; have a_12 : w1.cell? ⟨w.heap.size, 2, none⟩ = some (.int .i64 (n)) := a_1.cell 2; have a_13 : w1.cell? ⟨w.heap.size, 3, none⟩ = some (.string (s)) := a_1.cell 3; have m2 : True := trivial)
    | (have z := m2; clear z m2; go_at_call 80; refine (rquoted_any _ _ hl).mono ?_; rintro e w2 ⟨rfl, x2⟩; have a_2 := a_1.ext x2; have F2 : Ext w w2 := (F1.trans x2); clear x2; have a_20 : w2.cell? ⟨w.heap.size, 0, none⟩ = some (.int .u8 (4)) := a_2.cell 0; have a_21 : w2.cell? ⟨w.heap.size, 1, none⟩ = some (.bool (b)) := a_2.cell 1; have a_22 : w2.cell? ⟨w.heap.size, 2, none⟩ = some (.int .i64 (n)) := a_2.cell 2; have a_23 : w2.cell? ⟨w.heap.size, 3, none⟩ = some (.string (s)) := a_2.cell 3; have m3 : True := trivial)
    | fail)
  go_ret
  exact ⟨rfl, F2⟩
set_option maxRecDepth 100000 in
set_option maxHeartbeats 1000000 in
theorem rprint_pos (m : Nat) (b : Bool) (s : ByteArray) (w : World) (hs : s.size ≤ 140737488355328) (hc : checkT 3 b (m : Int) s = 0) (hm2 : m < 9223372036854775808) : Calls Tryd.prog 41 #[.agg #[.int .u8 (3), .bool (b), .int .i64 ((m : Int)), .string (s)]] w fun e w' => e = .returned (.string ⟨(Lib.decDigits m).toArray⟩) ∧ Ext w w' := by
  have HC := Lib.hid hc
  clear hc
  have z : decide ((m : Int) < 0) = false := by simp
  have hw : IntKind.u64.wrap (m : Int) = (m : Int) := IntWalk.u64_in _ (by omega)
  have a_0 : Bk (w.alloc (.cells #[.int .u8 (3), .bool (b), .int .i64 ((m : Int)), .string (s)] 24)) w.heap.size 24 #[.int .u8 (3), .bool (b), .int .i64 ((m : Int)), .string (s)] := Bk.new _ _ _
  have F0 : Ext w (w.alloc (.cells #[.int .u8 (3), .bool (b), .int .i64 ((m : Int)), .string (s)] 24)) := (Ext.refl w).alloc _
  have m1 : True := trivial
  go_enter Tryd.func41, Tryd.ntmps41
  go_wp2_with (first
    | (have z := m1; clear z m1; go_at_call 38; refine (rcheck_at _ _ _ _ _ HC hs).mono ?_; rintro e w1 ⟨rfl, x1⟩; have a_1 := a_0.ext x1; have F1 : Ext w w1 := (F0.trans x1); clear x1; have a_10 : w1.cell? ⟨w.heap.size, 0, none⟩ = some (.int .u8 (3)) := a_1.cell 0; have a_11 : w1.cell? ⟨w.heap.size, 1, none⟩ = some (.bool (b)) := a_1.cell 1; have a_12 : w1.cell? ⟨w.heap.size, 2, none⟩ = some (.int .i64 ((m : Int))) := a_1.cell 2; have a_13 : w1.cell? ⟨w.heap.size, 3, none⟩ = some (.string (s)) := a_1.cell 3; have m2 : True := trivial)
    | (have z := m2; clear z m2; go_at_call 81; refine (rdig_any m _ (by omega)).mono ?_; rintro e w2 ⟨rfl, x2⟩; have a_2 := a_1.ext x2; have F2 : Ext w w2 := (F1.trans x2); clear x2; have a_20 : w2.cell? ⟨w.heap.size, 0, none⟩ = some (.int .u8 (3)) := a_2.cell 0; have a_21 : w2.cell? ⟨w.heap.size, 1, none⟩ = some (.bool (b)) := a_2.cell 1; have a_22 : w2.cell? ⟨w.heap.size, 2, none⟩ = some (.int .i64 ((m : Int))) := a_2.cell 2; have a_23 : w2.cell? ⟨w.heap.size, 3, none⟩ = some (.string (s)) := a_2.cell 3; have m3 : True := trivial)
    | fail)
  go_ret
  exact ⟨rfl, F2⟩
set_option maxRecDepth 100000 in
set_option maxHeartbeats 1000000 in
theorem rprint_neg (n : Int) (m : Nat) (b : Bool) (s : ByteArray) (w : World) (hs : s.size ≤ 140737488355328) (hc : checkT 3 b n s = 0) (h0 : n < 0) (hm : -n = (m : Int)) (hm2 : m ≤ 9223372036854775808) : Calls Tryd.prog 41 #[.agg #[.int .u8 (3), .bool (b), .int .i64 (n), .string (s)]] w fun e w' => e = .returned (.string ⟨(45 :: Lib.decDigits m).toArray⟩) ∧ Ext w w' := by
  have HC := Lib.hid hc
  clear hc
  have h1 : IntKind.i64.wrap (n + 1) = n + 1 := IntWalk.i64_in _ (by omega)
  have h2 : IntKind.i64.wrap (-(n + 1)) = (m : Int) - 1 := by rw [IntWalk.i64_in _ (by omega)]; omega
  have h3 : IntKind.u64.wrap ((m : Int) - 1) = (m : Int) - 1 := IntWalk.u64_in _ (by omega)
  have h4 : IntKind.u64.wrap ((m : Int) - 1 + 1) = (m : Int) := by rw [IntWalk.u64_in _ (by omega)]; omega
  have h5 : (m : Int) - 1 + 1 = (m : Int) := by omega
  have h6 : IntKind.u64.wrap (m : Int) = (m : Int) := IntWalk.u64_in _ (by omega)
  have hl : (Lib.decDigits m).length ≤ 20 := digits_len 19 m (by have : (10 : Nat) ^ 20 = 100000000000000000000 := by decide
                                                                 omega)
  have hnn : ¬ 9223372036854775807 < 1 + (Lib.decDigits m).length := by omega
  have hmm : m < 18446744073709551616 := by omega
  have HM := Lib.hid hmm
  clear hm hm2 hl hmm
  have a_0 : Bk (w.alloc (.cells #[.int .u8 (3), .bool (b), .int .i64 (n), .string (s)] 24)) w.heap.size 24 #[.int .u8 (3), .bool (b), .int .i64 (n), .string (s)] := Bk.new _ _ _
  have F0 : Ext w (w.alloc (.cells #[.int .u8 (3), .bool (b), .int .i64 (n), .string (s)] 24)) := (Ext.refl w).alloc _
  have m1 : True := trivial
  go_enter Tryd.func41, Tryd.ntmps41
  go_wp2_with (first
    | (have z := m1; clear z m1; go_at_call 38; refine (rcheck_at _ _ _ _ _ HC hs).mono ?_; rintro e w1 ⟨rfl, x1⟩; have a_1 := a_0.ext x1; have F1 : Ext w w1 := (F0.trans x1); clear x1; have a_10 : w1.cell? ⟨w.heap.size, 0, none⟩ = some (.int .u8 (3)) := a_1.cell 0; have a_11 : w1.cell? ⟨w.heap.size, 1, none⟩ = some (.bool (b)) := a_1.cell 1; have a_12 : w1.cell? ⟨w.heap.size, 2, none⟩ = some (.int .i64 (n)) := a_1.cell 2; have a_13 : w1.cell? ⟨w.heap.size, 3, none⟩ = some (.string (s)) := a_1.cell 3; have m2 : True := trivial)
    | (have z := m2; clear z m2; go_at_call 81; refine (rdig_any m _ HM.out).mono ?_; rintro e w2 ⟨rfl, x2⟩; have a_2 := a_1.ext x2; have F2 : Ext w w2 := (F1.trans x2); clear x2; have a_20 : w2.cell? ⟨w.heap.size, 0, none⟩ = some (.int .u8 (3)) := a_2.cell 0; have a_21 : w2.cell? ⟨w.heap.size, 1, none⟩ = some (.bool (b)) := a_2.cell 1; have a_22 : w2.cell? ⟨w.heap.size, 2, none⟩ = some (.int .i64 (n)) := a_2.cell 2; have a_23 : w2.cell? ⟨w.heap.size, 3, none⟩ = some (.string (s)) := a_2.cell 3; have m3 : True := trivial)
    | fail)
  go_ret
  refine ⟨?_, F2⟩
  simp
  exact one_app _ _
theorem rprint_any (k : Int) (b : Bool) (n : Int) (s : ByteArray) (w : World) (hs : s.size ≤ 140737488355328) (hn : -9223372036854775808 ≤ n ∧ n ≤ 9223372036854775807) : Calls Tryd.prog 41 #[.agg #[.int .u8 (k), .bool (b), .int .i64 (n), .string (s)]] w fun e w' => e = .returned (.string (printT k b n s)) ∧ Ext w w' := by
  unfold printT
  by_cases hc : checkT k b n s = 0
  · rw [if_pos hc]
    have hk := (form_of hc).1
    by_cases h2 : k = 2
    · subst h2
      rw [if_pos rfl]
      cases b
      · exact rprint_false n s w hs hc
      · exact rprint_true n s w hs hc
    rw [if_neg h2]
    by_cases h3 : k = 3
    · subst h3
      rw [if_pos rfl]
      unfold Lib.itoa
      by_cases h0 : n < 0
      · rw [if_pos h0]; exact rprint_neg n n.natAbs b s w hs hc h0 (by omega) (by omega)
      · rw [if_neg h0]
        obtain ⟨m, rfl⟩ := Int.eq_ofNat_of_zero_le (show 0 ≤ n by omega)
        rw [Int.toNat_natCast]
        exact rprint_pos m b s w hs hc (by omega)
    rw [if_neg h3]
    by_cases h4 : k = 4
    · subst h4; rw [if_pos rfl]; exact rprint_text n b s w hs hc (by have := size_of_check hc; omega)
    rw [if_neg h4]
    obtain rfl : k = 1 := by omega
    exact rprint_null n b s w hs hc
  · rw [if_neg hc]; exact rprint_off k n _ b s w hs rfl (by simpa using hc)
theorem rprint_lit {r : ByteArray} (k : Int) (b : Bool) (n : Int) (s : ByteArray) (w : World) (h : Hid (printT k b n s = r)) (hs : s.size ≤ 140737488355328) (hn : -9223372036854775808 ≤ n ∧ n ≤ 9223372036854775807) : Calls Tryd.prog 41 #[.agg #[.int .u8 (k), .bool (b), .int .i64 (n), .string (s)]] w fun e w' => e = .returned (.string r) ∧ Ext w w' := h.out ▸ rprint_any k b n s w hs hn
set_option maxRecDepth 100000 in
set_option maxHeartbeats 3000000 in
theorem checks_any (ka na kb nb : Int) (ba bb : Bool) (sa sb : ByteArray) (w : World) (hs : sa.size ≤ 140737488355328) (hn : -9223372036854775808 ≤ na ∧ na ≤ 9223372036854775807) (G : Good2 w) :
    Calls Tryd.prog 8 #[.agg #[.int .u8 (ka), .bool (ba), .int .i64 (na), .string (sa)], .agg #[.int .u8 (kb), .bool (bb), .int .i64 (nb), .string (sb)]] w fun e w' => e = .returned (.bool true) ∧ Ext w w' := by
  obtain ⟨c, hc⟩ : ∃ c, checkT ka ba na sa = c := ⟨_, rfl⟩
  obtain ⟨d, hd⟩ : ∃ d, cmpD ⟨ka, ba, na, sa⟩ ⟨kb, bb, nb, sb⟩ = d := ⟨_, rfl⟩
  obtain ⟨p, hp⟩ : ∃ p, printT ka ba na sa = p := ⟨_, rfl⟩
  have hcc : IntKind.i64.wrap c = c := by
    have h : c = 0 ∨ c = 12 ∨ c = 13 := by
      rw [← hc]
      unfold checkT
      repeat' split
      all_goals simp
    rcases h with rfl | rfl | rfl <;> rfl
  have hs3 : sa.size ≤ 9223372036854775807 := by omega
  have HC := Lib.hid hc
  clear hc
  have HD := Lib.hid hd
  clear hd
  have HP := Lib.hid hp
  clear hp
  have HN := Lib.hid hn
  clear hn
  go_enter Tryd.func8, Tryd.ntmps8
  go_upto_region 1 with fail
  have a0 : Bk ((w.alloc (.cells #[.int .u8 (ka), .bool (ba), .int .i64 (na), .string (sa)] 24)).alloc (.cells #[.int .u8 (kb), .bool (bb), .int .i64 (nb), .string (sb)] 24)) w.heap.size 24 #[.int .u8 (ka), .bool (ba), .int .i64 (na), .string (sa)] := (Bk.new _ _ _).alloc _
  have b0 : Bk ((w.alloc (.cells #[.int .u8 (ka), .bool (ba), .int .i64 (na), .string (sa)] 24)).alloc (.cells #[.int .u8 (kb), .bool (bb), .int .i64 (nb), .string (sb)] 24)) (w.heap.size + 1) 24 #[.int .u8 (kb), .bool (bb), .int .i64 (nb), .string (sb)] := Bk.at (by simp)
  have E0 : Ext w ((w.alloc (.cells #[.int .u8 (ka), .bool (ba), .int .i64 (na), .string (sa)] 24)).alloc (.cells #[.int .u8 (kb), .bool (bb), .int .i64 (nb), .string (sb)] 24)) := ((Ext.refl w).alloc _).alloc _
  obtain ⟨w0, hw0⟩ : ∃ x, x = ((w.alloc (.cells #[.int .u8 (ka), .bool (ba), .int .i64 (na), .string (sa)] 24)).alloc (.cells #[.int .u8 (kb), .bool (bb), .int .i64 (nb), .string (sb)] 24)) := ⟨_, rfl⟩
  rw [← hw0] at a0 b0 E0 ⊢
  clear hw0
  have X0 : Ext w0 w0.drew := (Ext.refl w0).drew
  refine wp_region_ord [0,1,3,7,15,3,47,127,255,511,1023,1023,4095,1023,1023,32767,65535,131071,262143,524287,1048575,524287,4194303,8388607,16777215,33554431] (.one 0 (.flo [1,2,5] (.ext 3 (.flo [4] (.ext 6 (.flo [7,8,9,10,11,13,14] (.ext 12 (.one 15 (.flo [16,17,18,19,21] (.ext 20 (.one 22 (.flo [23,24,25] (.fin))))))))))))) (by kernel_rfl) (by kernel_rfl) (by intro _ _ d _ _ h; cases d <;> exact h) ?_
  refine ord_one (pick_cons rfl pick_nil) ?_; intro K_ hK_
  go_wp2_with (go_at_call 16; refine (known_true _ (G.ext (E0.trans X0)).good).mono ?_; rintro e w1 ⟨rfl, x1⟩)
  have X1 := X0.trans x1
  have a0_0 : ∀ y : Xt w1, y.W.cell? ⟨w.heap.size, 0, none⟩ = some (.int .u8 (ka)) := fun y => (a0.ext (X1.trans y.x)).cell 0
  have a1_0 : ∀ y : Xt w1, y.W.cell? ⟨w.heap.size, 1, none⟩ = some (.bool (ba)) := fun y => (a0.ext (X1.trans y.x)).cell 1
  have a2_0 : ∀ y : Xt w1, y.W.cell? ⟨w.heap.size, 2, none⟩ = some (.int .i64 (na)) := fun y => (a0.ext (X1.trans y.x)).cell 2
  have a3_0 : ∀ y : Xt w1, y.W.cell? ⟨w.heap.size, 3, none⟩ = some (.string (sa)) := fun y => (a0.ext (X1.trans y.x)).cell 3
  have b0_0 : ∀ y : Xt w1, y.W.cell? ⟨w.heap.size + 1, 0, none⟩ = some (.int .u8 (kb)) := fun y => (b0.ext (X1.trans y.x)).cell 0
  have b1_0 : ∀ y : Xt w1, y.W.cell? ⟨w.heap.size + 1, 1, none⟩ = some (.bool (bb)) := fun y => (b0.ext (X1.trans y.x)).cell 1
  have b2_0 : ∀ y : Xt w1, y.W.cell? ⟨w.heap.size + 1, 2, none⟩ = some (.int .i64 (nb)) := fun y => (b0.ext (X1.trans y.x)).cell 2
  have b3_0 : ∀ y : Xt w1, y.W.cell? ⟨w.heap.size + 1, 3, none⟩ = some (.string (sb)) := fun y => (b0.ext (X1.trans y.x)).cell 3
  (refine ord_flo (pick_cons rfl (pick_cons rfl (pick_cons rfl pick_nil))) ?_; (repeat (go_big_quiet_step (fail))); refine wpQuiet_nil ?_; show ordWalk _ _ _ _ _ _ _)
  refine ord_ext (pick_cons rfl pick_nil) ?_; intro K_ hK_
  go_wp2_with (go_at_call 15; refine (check_at _ _ _ _ _ HC hs3 (G.ext (E0.trans X1)).good).mono ?_; rintro e w2 ⟨rfl, x2⟩)
  refine ordNext.mk x2 ?_
  have X2 := X1.trans x2
  (refine ord_flo (pick_cons rfl pick_nil) ?_; (repeat (go_big_quiet_step (fail))); refine wpQuiet_nil ?_; show ordWalk _ _ _ _ _ _ _)
  refine ord_ext (pick_cons rfl pick_nil) ?_; intro K_ hK_
  go_wp2_with (go_at_call 38; refine (rcheck_at _ _ _ _ _ HC hs).mono ?_; rintro e w3 ⟨rfl, x3⟩)
  refine ordNext.mk x3 ?_
  have X3 := X2.trans x3
  (refine ord_flo (pick_cons rfl (pick_cons rfl (pick_cons rfl (pick_cons rfl (pick_cons rfl (pick_cons rfl (pick_cons rfl pick_nil))))))) ?_; (repeat (go_big_quiet_step (fail))); refine wpQuiet_nil ?_; show ordWalk _ _ _ _ _ _ _)
  refine ord_ext (pick_cons rfl pick_nil) ?_; intro K_ hK_
  go_wp2_with (go_at_call 39; refine (cmp_at _ _ _ _ _ _ _ _ _ HD).mono ?_; rintro e w4 ⟨rfl, x4⟩)
  refine ordNext.mk x4 ?_
  have X4 := X3.trans x4
  refine ord_one (pick_cons rfl pick_nil) ?_; intro K_ hK_
  go_wp2_with (go_at_call 40; refine (rcmp_at _ _ _ _ _ _ _ _ _ HD).mono ?_; rintro e w5 ⟨rfl, x5⟩)
  have X5 := X4.trans x5
  have a0_1 : ∀ y : Xt w5, y.W.cell? ⟨w.heap.size, 0, none⟩ = some (.int .u8 (ka)) := fun y => (a0.ext (X5.trans y.x)).cell 0
  have a1_1 : ∀ y : Xt w5, y.W.cell? ⟨w.heap.size, 1, none⟩ = some (.bool (ba)) := fun y => (a0.ext (X5.trans y.x)).cell 1
  have a2_1 : ∀ y : Xt w5, y.W.cell? ⟨w.heap.size, 2, none⟩ = some (.int .i64 (na)) := fun y => (a0.ext (X5.trans y.x)).cell 2
  have a3_1 : ∀ y : Xt w5, y.W.cell? ⟨w.heap.size, 3, none⟩ = some (.string (sa)) := fun y => (a0.ext (X5.trans y.x)).cell 3
  have b0_1 : ∀ y : Xt w5, y.W.cell? ⟨w.heap.size + 1, 0, none⟩ = some (.int .u8 (kb)) := fun y => (b0.ext (X5.trans y.x)).cell 0
  have b1_1 : ∀ y : Xt w5, y.W.cell? ⟨w.heap.size + 1, 1, none⟩ = some (.bool (bb)) := fun y => (b0.ext (X5.trans y.x)).cell 1
  have b2_1 : ∀ y : Xt w5, y.W.cell? ⟨w.heap.size + 1, 2, none⟩ = some (.int .i64 (nb)) := fun y => (b0.ext (X5.trans y.x)).cell 2
  have b3_1 : ∀ y : Xt w5, y.W.cell? ⟨w.heap.size + 1, 3, none⟩ = some (.string (sb)) := fun y => (b0.ext (X5.trans y.x)).cell 3
  (refine ord_flo (pick_cons rfl (pick_cons rfl (pick_cons rfl (pick_cons rfl (pick_cons rfl pick_nil))))) ?_; (repeat (go_big_quiet_step (fail))); refine wpQuiet_nil ?_; show ordWalk _ _ _ _ _ _ _)
  refine ord_ext (pick_cons rfl pick_nil) ?_; intro K_ hK_
  go_wp2_with (go_at_call 17; refine (print_lit _ _ _ _ _ HP hs3 HN.out (G.ext (E0.trans X5))).mono ?_; rintro e w6 ⟨rfl, x6⟩)
  refine ordNext.mk x6 ?_
  have X6 := X5.trans x6
  refine ord_one (pick_cons rfl pick_nil) ?_; intro K_ hK_
  go_wp2_with (go_at_call 41; refine (rprint_lit _ _ _ _ _ HP hs HN.out).mono ?_; rintro e w7 ⟨rfl, x7⟩)
  (refine ord_flo (pick_cons rfl (pick_cons rfl (pick_cons rfl pick_nil))) ?_; (repeat (go_big_quiet_step (fail))); refine wpQuiet_nil ?_; show ordWalk _ _ _ _ _ _ _)
  refine ord_fin ?_
  go_wp2
  go_ret
  exact ⟨rfl, E0.trans (X6.trans x7)⟩
end Go.Proofs.YtobgfegdfcpgfaaDoor
