/- datum.Print, penstockref01.Print: what they write. A row as it is written: plain. row.Print: what it writes. Conditions: each theorem states its own. -/
import Derived.Test.YtngeioghihbkeaaGreatDoorQuoteAll
import Derived.Test.YtngeioghihbkeaaGreatDoorRefQ
import Derived.Test.YtngeioghihbkeaaGreatDoorChkLaw
import Derived.Test.YtngeioghihbkeaaGreatDoorRefCheck
import Derived.Test.YtngeioghihbkeaaGreatDoorRowCheck
import Derived.Test.YtngeioghihbkeaaGreatDoorShB
import Derived.Lib.ItoaLen
import Derived.Lib.Join
import Derived.Test.YtngeioghihbkeaaGreatDoorSumAll
import Derived.Deep.LoopGhost
namespace Go.Proofs.YtngeioghihbkeaaGreatDoor
open Go.RowKit

theorem one_app (D : List UInt8) (x : UInt8) : (⟨#[x]⟩ : ByteArray) ++ ⟨D.toArray⟩ = ⟨(x :: D).toArray⟩ := by
  apply ByteArray.ext
  simp
/-- a datum as it is written -/
def printT (k : Int) (b : Bool) (n : Int) (s : ByteArray) : ByteArray :=
  if checkT k b n s = 0 then (if k = 2 then ⟨(Lib.formatBool b).toArray⟩ else if k = 3 then ⟨(Lib.itoa n).toArray⟩ else if k = 4 then ⟨(quotedT s.data.toList).toArray⟩ else ⟨#[110, 117, 108, 108]⟩) else ⟨#[]⟩
set_option maxRecDepth 100000 in
set_option maxHeartbeats 1000000 in
theorem print_off (k n c : Int) (b : Bool) (s : ByteArray) (w : World) (hs : s.size ≤ 9223372036854775807) (hc : checkT k b n s = c) (l : (c != 0) = true) (G : Good2 w) : Calls Tryz.prog 23 #[.agg #[.int .u8 (k), .bool (b), .int .i64 (n), .string (s)]] w fun e w' => e = .returned (.string ⟨#[]⟩) ∧ Ext w w' := by
  have HC := Lib.hid hc
  clear hc
  have a_0 : Bk (w.alloc (.cells #[.int .u8 (k), .bool (b), .int .i64 (n), .string (s)] 47)) w.heap.size 47 #[.int .u8 (k), .bool (b), .int .i64 (n), .string (s)] := Bk.new _ _ _
  have F0 : Ext w (w.alloc (.cells #[.int .u8 (k), .bool (b), .int .i64 (n), .string (s)] 47)) := (Ext.refl w).alloc _
  have m1 : True := trivial
  go_enter Tryz.func23, Tryz.ntmps23
  go_wp2_with (first
    | (have z := m1; clear z m1; go_at_call 25; refine (check_at _ _ _ _ _ HC hs (G.ext F0).good).mono ?_; rintro e w1 ⟨rfl, x1⟩; have a_1 := a_0.ext x1; have F1 : Ext w w1 := (F0.trans x1); clear x1; have a_10 : w1.cell? ⟨w.heap.size, 0, none⟩ = some (.int .u8 (k)) := a_1.cell 0; have a_11 : w1.cell? ⟨w.heap.size, 1, none⟩ = some (.bool (b)) := a_1.cell 1; have a_12 : w1.cell? ⟨w.heap.size, 2, none⟩ = some (.int .i64 (n)) := a_1.cell 2; have a_13 : w1.cell? ⟨w.heap.size, 3, none⟩ = some (.string (s)) := a_1.cell 3; have m2 : True := trivial)
    | fail)
  go_ret
  exact ⟨rfl, F1⟩
set_option maxRecDepth 100000 in
set_option maxHeartbeats 1000000 in
theorem print_bool (n : Int) (b : Bool) (s : ByteArray) (w : World) (hs : s.size ≤ 9223372036854775807) (hc : checkT 2 b n s = 0) (G : Good2 w) : Calls Tryz.prog 23 #[.agg #[.int .u8 (2), .bool (b), .int .i64 (n), .string (s)]] w fun e w' => e = .returned (.string ⟨(Lib.formatBool b).toArray⟩) ∧ Ext w w' := by
  have HC := Lib.hid hc
  clear hc
  have a_0 : Bk (w.alloc (.cells #[.int .u8 (2), .bool (b), .int .i64 (n), .string (s)] 47)) w.heap.size 47 #[.int .u8 (2), .bool (b), .int .i64 (n), .string (s)] := Bk.new _ _ _
  have F0 : Ext w (w.alloc (.cells #[.int .u8 (2), .bool (b), .int .i64 (n), .string (s)] 47)) := (Ext.refl w).alloc _
  have m1 : True := trivial
  go_enter Tryz.func23, Tryz.ntmps23
  go_wp2_with (first
    | (have z := m1; clear z m1; go_at_call 25; refine (check_at _ _ _ _ _ HC hs (G.ext F0).good).mono ?_; rintro e w1 ⟨rfl, x1⟩; have a_1 := a_0.ext x1; have F1 : Ext w w1 := (F0.trans x1); clear x1; have a_10 : w1.cell? ⟨w.heap.size, 0, none⟩ = some (.int .u8 (2)) := a_1.cell 0; have a_11 : w1.cell? ⟨w.heap.size, 1, none⟩ = some (.bool (b)) := a_1.cell 1; have a_12 : w1.cell? ⟨w.heap.size, 2, none⟩ = some (.int .i64 (n)) := a_1.cell 2; have a_13 : w1.cell? ⟨w.heap.size, 3, none⟩ = some (.string (s)) := a_1.cell 3; have m2 : True := trivial)
    | (have z := m2; clear z m2; go_at_call 50; refine (formatBool_any _ _).mono ?_; rintro e w2 ⟨rfl, x2⟩; have a_2 := a_1.ext x2; have F2 : Ext w w2 := (F1.trans x2); clear x2; have a_20 : w2.cell? ⟨w.heap.size, 0, none⟩ = some (.int .u8 (2)) := a_2.cell 0; have a_21 : w2.cell? ⟨w.heap.size, 1, none⟩ = some (.bool (b)) := a_2.cell 1; have a_22 : w2.cell? ⟨w.heap.size, 2, none⟩ = some (.int .i64 (n)) := a_2.cell 2; have a_23 : w2.cell? ⟨w.heap.size, 3, none⟩ = some (.string (s)) := a_2.cell 3; have m3 : True := trivial)
    | fail)
  go_ret
  exact ⟨rfl, F2⟩
set_option maxRecDepth 100000 in
set_option maxHeartbeats 1000000 in
theorem print_int (n : Int) (b : Bool) (s : ByteArray) (w : World) (hs : s.size ≤ 9223372036854775807) (hc : checkT 3 b n s = 0) (hn : -9223372036854775808 ≤ n ∧ n ≤ 9223372036854775807) (G : Good2 w) : Calls Tryz.prog 23 #[.agg #[.int .u8 (3), .bool (b), .int .i64 (n), .string (s)]] w fun e w' => e = .returned (.string ⟨(Lib.itoa n).toArray⟩) ∧ Ext w w' := by
  have HC := Lib.hid hc
  clear hc
  have HN := Lib.hid hn
  clear hn
  have a_0 : Bk (w.alloc (.cells #[.int .u8 (3), .bool (b), .int .i64 (n), .string (s)] 47)) w.heap.size 47 #[.int .u8 (3), .bool (b), .int .i64 (n), .string (s)] := Bk.new _ _ _
  have F0 : Ext w (w.alloc (.cells #[.int .u8 (3), .bool (b), .int .i64 (n), .string (s)] 47)) := (Ext.refl w).alloc _
  have m1 : True := trivial
  go_enter Tryz.func23, Tryz.ntmps23
  go_wp2_with (first
    | (have z := m1; clear z m1; go_at_call 25; refine (check_at _ _ _ _ _ HC hs (G.ext F0).good).mono ?_; rintro e w1 ⟨rfl, x1⟩; have a_1 := a_0.ext x1; have F1 : Ext w w1 := (F0.trans x1); clear x1; have a_10 : w1.cell? ⟨w.heap.size, 0, none⟩ = some (.int .u8 (3)) := a_1.cell 0; have a_11 : w1.cell? ⟨w.heap.size, 1, none⟩ = some (.bool (b)) := a_1.cell 1; have a_12 : w1.cell? ⟨w.heap.size, 2, none⟩ = some (.int .i64 (n)) := a_1.cell 2; have a_13 : w1.cell? ⟨w.heap.size, 3, none⟩ = some (.string (s)) := a_1.cell 3; have m2 : True := trivial)
    | (have z := m2; clear z m2; go_at_call 51; refine (formatInt_any _ _ HN.out (G.ext F1)).mono ?_; rintro e w2 ⟨rfl, x2⟩; have a_2 := a_1.ext x2; have F2 : Ext w w2 := (F1.trans x2); clear x2; have a_20 : w2.cell? ⟨w.heap.size, 0, none⟩ = some (.int .u8 (3)) := a_2.cell 0; have a_21 : w2.cell? ⟨w.heap.size, 1, none⟩ = some (.bool (b)) := a_2.cell 1; have a_22 : w2.cell? ⟨w.heap.size, 2, none⟩ = some (.int .i64 (n)) := a_2.cell 2; have a_23 : w2.cell? ⟨w.heap.size, 3, none⟩ = some (.string (s)) := a_2.cell 3; have m3 : True := trivial)
    | fail)
  go_ret
  exact ⟨rfl, F2⟩
set_option maxRecDepth 100000 in
set_option maxHeartbeats 1000000 in
theorem print_text (n : Int) (b : Bool) (s : ByteArray) (w : World) (hs : s.size ≤ 9223372036854775807) (hc : checkT 4 b n s = 0) (hl : s.size ≤ 1000000) (G : Good2 w) : Calls Tryz.prog 23 #[.agg #[.int .u8 (4), .bool (b), .int .i64 (n), .string (s)]] w fun e w' => e = .returned (.string ⟨(quotedT s.data.toList).toArray⟩) ∧ Ext w w' := by
  have HC := Lib.hid hc
  clear hc
  have a_0 : Bk (w.alloc (.cells #[.int .u8 (4), .bool (b), .int .i64 (n), .string (s)] 47)) w.heap.size 47 #[.int .u8 (4), .bool (b), .int .i64 (n), .string (s)] := Bk.new _ _ _
  have F0 : Ext w (w.alloc (.cells #[.int .u8 (4), .bool (b), .int .i64 (n), .string (s)] 47)) := (Ext.refl w).alloc _
  have m1 : True := trivial
  go_enter Tryz.func23, Tryz.ntmps23
  go_wp2_with (first
    | (have z := m1; clear z m1; go_at_call 25; refine (check_at _ _ _ _ _ HC hs (G.ext F0).good).mono ?_; rintro e w1 ⟨rfl, x1⟩; have a_1 := a_0.ext x1; have F1 : Ext w w1 := (F0.trans x1); clear x1; have a_10 : w1.cell? ⟨w.heap.size, 0, none⟩ = some (.int .u8 (4)) := a_1.cell 0; have a_11 : w1.cell? ⟨w.heap.size, 1, none⟩ = some (.bool (b)) := a_1.cell 1; have a_12 : w1.cell? ⟨w.heap.size, 2, none⟩ = some (.int .i64 (n)) := a_1.cell 2; have a_13 : w1.cell? ⟨w.heap.size, 3, none⟩ = some (.string (s)) := a_1.cell 3; have m2 : True := trivial)
    | (have z := m2; clear z m2; go_at_call 52; refine (quoted_any _ _ hl (G.ext F1)).mono ?_; rintro e w2 ⟨rfl, x2⟩; have a_2 := a_1.ext x2; have F2 : Ext w w2 := (F1.trans x2); clear x2; have a_20 : w2.cell? ⟨w.heap.size, 0, none⟩ = some (.int .u8 (4)) := a_2.cell 0; have a_21 : w2.cell? ⟨w.heap.size, 1, none⟩ = some (.bool (b)) := a_2.cell 1; have a_22 : w2.cell? ⟨w.heap.size, 2, none⟩ = some (.int .i64 (n)) := a_2.cell 2; have a_23 : w2.cell? ⟨w.heap.size, 3, none⟩ = some (.string (s)) := a_2.cell 3; have m3 : True := trivial)
    | fail)
  go_ret
  exact ⟨rfl, F2⟩
set_option maxRecDepth 100000 in
set_option maxHeartbeats 1000000 in
theorem print_null (n : Int) (b : Bool) (s : ByteArray) (w : World) (hs : s.size ≤ 9223372036854775807) (hc : checkT 1 b n s = 0) (G : Good2 w) : Calls Tryz.prog 23 #[.agg #[.int .u8 (1), .bool (b), .int .i64 (n), .string (s)]] w fun e w' => e = .returned (.string ⟨#[110, 117, 108, 108]⟩) ∧ Ext w w' := by
  have HC := Lib.hid hc
  clear hc
  have a_0 : Bk (w.alloc (.cells #[.int .u8 (1), .bool (b), .int .i64 (n), .string (s)] 47)) w.heap.size 47 #[.int .u8 (1), .bool (b), .int .i64 (n), .string (s)] := Bk.new _ _ _
  have F0 : Ext w (w.alloc (.cells #[.int .u8 (1), .bool (b), .int .i64 (n), .string (s)] 47)) := (Ext.refl w).alloc _
  have m1 : True := trivial
  go_enter Tryz.func23, Tryz.ntmps23
  go_wp2_with (first
    | (have z := m1; clear z m1; go_at_call 25; refine (check_at _ _ _ _ _ HC hs (G.ext F0).good).mono ?_; rintro e w1 ⟨rfl, x1⟩; have a_1 := a_0.ext x1; have F1 : Ext w w1 := (F0.trans x1); clear x1; have a_10 : w1.cell? ⟨w.heap.size, 0, none⟩ = some (.int .u8 (1)) := a_1.cell 0; have a_11 : w1.cell? ⟨w.heap.size, 1, none⟩ = some (.bool (b)) := a_1.cell 1; have a_12 : w1.cell? ⟨w.heap.size, 2, none⟩ = some (.int .i64 (n)) := a_1.cell 2; have a_13 : w1.cell? ⟨w.heap.size, 3, none⟩ = some (.string (s)) := a_1.cell 3; have m2 : True := trivial)
    | fail)
  go_ret
  exact ⟨rfl, F1⟩
theorem print_any (k : Int) (b : Bool) (n : Int) (s : ByteArray) (w : World) (hs : s.size ≤ 9223372036854775807) (hn : -9223372036854775808 ≤ n ∧ n ≤ 9223372036854775807) (G : Good2 w) : Calls Tryz.prog 23 #[.agg #[.int .u8 (k), .bool (b), .int .i64 (n), .string (s)]] w fun e w' => e = .returned (.string (printT k b n s)) ∧ Ext w w' := by
  unfold printT
  by_cases hc : checkT k b n s = 0
  · rw [if_pos hc]
    have hk := (form_of hc).1
    by_cases h2 : k = 2
    · subst h2; rw [if_pos rfl]; exact print_bool n b s w hs hc G
    rw [if_neg h2]
    by_cases h3 : k = 3
    · subst h3; rw [if_pos rfl]; exact print_int n b s w hs hc hn G
    rw [if_neg h3]
    by_cases h4 : k = 4
    · subst h4; rw [if_pos rfl]; exact print_text n b s w hs hc (by have := size_of_check hc; omega) G
    rw [if_neg h4]
    obtain rfl : k = 1 := by omega
    exact print_null n b s w hs hc G
  · rw [if_neg hc]; exact print_off k n _ b s w hs rfl (by simpa using hc) G
theorem print_lit {r : ByteArray} (k : Int) (b : Bool) (n : Int) (s : ByteArray) (w : World) (h : Hid (printT k b n s = r)) (hs : s.size ≤ 9223372036854775807) (hn : -9223372036854775808 ≤ n ∧ n ≤ 9223372036854775807) (G : Good2 w) : Calls Tryz.prog 23 #[.agg #[.int .u8 (k), .bool (b), .int .i64 (n), .string (s)]] w fun e w' => e = .returned (.string r) ∧ Ext w w' := h.out ▸ print_any k b n s w hs hn G
set_option maxRecDepth 100000 in
set_option maxHeartbeats 1000000 in
theorem rprint_off (k n c : Int) (b : Bool) (s : ByteArray) (w : World) (hs : s.size ≤ 140737488355328) (hc : checkT k b n s = c) (l : (c != 0) = true) : Calls Tryz.prog 41 #[.agg #[.int .u8 (k), .bool (b), .int .i64 (n), .string (s)]] w fun e w' => e = .returned (.string ⟨#[]⟩) ∧ Ext w w' := by
  have HC := Lib.hid hc
  clear hc
  have a_0 : Bk (w.alloc (.cells #[.int .u8 (k), .bool (b), .int .i64 (n), .string (s)] 47)) w.heap.size 47 #[.int .u8 (k), .bool (b), .int .i64 (n), .string (s)] := Bk.new _ _ _
  have F0 : Ext w (w.alloc (.cells #[.int .u8 (k), .bool (b), .int .i64 (n), .string (s)] 47)) := (Ext.refl w).alloc _
  have m1 : True := trivial
  go_enter Tryz.func41, Tryz.ntmps41
  go_wp2_with (first
    | (have z := m1; clear z m1; go_at_call 40; refine (rcheck_at _ _ _ _ _ HC hs).mono ?_; rintro e w1 ⟨rfl, x1⟩; have a_1 := a_0.ext x1; have F1 : Ext w w1 := (F0.trans x1); clear x1; have a_10 : w1.cell? ⟨w.heap.size, 0, none⟩ = some (.int .u8 (k)) := a_1.cell 0; have a_11 : w1.cell? ⟨w.heap.size, 1, none⟩ = some (.bool (b)) := a_1.cell 1; have a_12 : w1.cell? ⟨w.heap.size, 2, none⟩ = some (.int .i64 (n)) := a_1.cell 2; have a_13 : w1.cell? ⟨w.heap.size, 3, none⟩ = some (.string (s)) := a_1.cell 3; have m2 : True := trivial)
    | fail)
  go_ret
  exact ⟨rfl, F1⟩
set_option maxRecDepth 100000 in
set_option maxHeartbeats 1000000 in
theorem rprint_null (n : Int) (b : Bool) (s : ByteArray) (w : World) (hs : s.size ≤ 140737488355328) (hc : checkT 1 b n s = 0) : Calls Tryz.prog 41 #[.agg #[.int .u8 (1), .bool (b), .int .i64 (n), .string (s)]] w fun e w' => e = .returned (.string ⟨#[110, 117, 108, 108]⟩) ∧ Ext w w' := by
  have HC := Lib.hid hc
  clear hc
  have a_0 : Bk (w.alloc (.cells #[.int .u8 (1), .bool (b), .int .i64 (n), .string (s)] 47)) w.heap.size 47 #[.int .u8 (1), .bool (b), .int .i64 (n), .string (s)] := Bk.new _ _ _
  have F0 : Ext w (w.alloc (.cells #[.int .u8 (1), .bool (b), .int .i64 (n), .string (s)] 47)) := (Ext.refl w).alloc _
  have m1 : True := trivial
  go_enter Tryz.func41, Tryz.ntmps41
  go_wp2_with (first
    | (have z := m1; clear z m1; go_at_call 40; refine (rcheck_at _ _ _ _ _ HC hs).mono ?_; rintro e w1 ⟨rfl, x1⟩; have a_1 := a_0.ext x1; have F1 : Ext w w1 := (F0.trans x1); clear x1; have a_10 : w1.cell? ⟨w.heap.size, 0, none⟩ = some (.int .u8 (1)) := a_1.cell 0; have a_11 : w1.cell? ⟨w.heap.size, 1, none⟩ = some (.bool (b)) := a_1.cell 1; have a_12 : w1.cell? ⟨w.heap.size, 2, none⟩ = some (.int .i64 (n)) := a_1.cell 2; have a_13 : w1.cell? ⟨w.heap.size, 3, none⟩ = some (.string (s)) := a_1.cell 3; have m2 : True := trivial)
    | fail)
  go_ret
  exact ⟨rfl, F1⟩
set_option maxRecDepth 100000 in
set_option maxHeartbeats 1000000 in
theorem rprint_true (n : Int) (s : ByteArray) (w : World) (hs : s.size ≤ 140737488355328) (hc : checkT 2 true n s = 0) : Calls Tryz.prog 41 #[.agg #[.int .u8 (2), .bool (true), .int .i64 (n), .string (s)]] w fun e w' => e = .returned (.string ⟨(Lib.formatBool true).toArray⟩) ∧ Ext w w' := by
  have HC := Lib.hid hc
  clear hc
  have a_0 : Bk (w.alloc (.cells #[.int .u8 (2), .bool (true), .int .i64 (n), .string (s)] 47)) w.heap.size 47 #[.int .u8 (2), .bool (true), .int .i64 (n), .string (s)] := Bk.new _ _ _
  have F0 : Ext w (w.alloc (.cells #[.int .u8 (2), .bool (true), .int .i64 (n), .string (s)] 47)) := (Ext.refl w).alloc _
  have m1 : True := trivial
  go_enter Tryz.func41, Tryz.ntmps41
  go_wp2_with (first
    | (have z := m1; clear z m1; go_at_call 40; refine (rcheck_at _ _ _ _ _ HC hs).mono ?_; rintro e w1 ⟨rfl, x1⟩; have a_1 := a_0.ext x1; have F1 : Ext w w1 := (F0.trans x1); clear x1; have a_10 : w1.cell? ⟨w.heap.size, 0, none⟩ = some (.int .u8 (2)) := a_1.cell 0; have a_11 : w1.cell? ⟨w.heap.size, 1, none⟩ = some (.bool (true)) := a_1.cell 1; have a_12 : w1.cell? ⟨w.heap.size, 2, none⟩ = some (.int .i64 (n)) := a_1.cell 2; have a_13 : w1.cell? ⟨w.heap.size, 3, none⟩ = some (.string (s)) := a_1.cell 3; have m2 : True := trivial)
    | fail)
  go_ret
  exact ⟨rfl, F1⟩
set_option maxRecDepth 100000 in
set_option maxHeartbeats 1000000 in
theorem rprint_false (n : Int) (s : ByteArray) (w : World) (hs : s.size ≤ 140737488355328) (hc : checkT 2 false n s = 0) : Calls Tryz.prog 41 #[.agg #[.int .u8 (2), .bool (false), .int .i64 (n), .string (s)]] w fun e w' => e = .returned (.string ⟨(Lib.formatBool false).toArray⟩) ∧ Ext w w' := by
  have HC := Lib.hid hc
  clear hc
  have a_0 : Bk (w.alloc (.cells #[.int .u8 (2), .bool (false), .int .i64 (n), .string (s)] 47)) w.heap.size 47 #[.int .u8 (2), .bool (false), .int .i64 (n), .string (s)] := Bk.new _ _ _
  have F0 : Ext w (w.alloc (.cells #[.int .u8 (2), .bool (false), .int .i64 (n), .string (s)] 47)) := (Ext.refl w).alloc _
  have m1 : True := trivial
  go_enter Tryz.func41, Tryz.ntmps41
  go_wp2_with (first
    | (have z := m1; clear z m1; go_at_call 40; refine (rcheck_at _ _ _ _ _ HC hs).mono ?_; rintro e w1 ⟨rfl, x1⟩; have a_1 := a_0.ext x1; have F1 : Ext w w1 := (F0.trans x1); clear x1; have a_10 : w1.cell? ⟨w.heap.size, 0, none⟩ = some (.int .u8 (2)) := a_1.cell 0; have a_11 : w1.cell? ⟨w.heap.size, 1, none⟩ = some (.bool (false)) := a_1.cell 1; have a_12 : w1.cell? ⟨w.heap.size, 2, none⟩ = some (.int .i64 (n)) := a_1.cell 2; have a_13 : w1.cell? ⟨w.heap.size, 3, none⟩ = some (.string (s)) := a_1.cell 3; have m2 : True := trivial)
    | fail)
  go_ret
  exact ⟨rfl, F1⟩
set_option maxRecDepth 100000 in
set_option maxHeartbeats 1000000 in
theorem rprint_text (n : Int) (b : Bool) (s : ByteArray) (w : World) (hs : s.size ≤ 140737488355328) (hc : checkT 4 b n s = 0) (hl : s.size ≤ 1000000) : Calls Tryz.prog 41 #[.agg #[.int .u8 (4), .bool (b), .int .i64 (n), .string (s)]] w fun e w' => e = .returned (.string ⟨(quotedT s.data.toList).toArray⟩) ∧ Ext w w' := by
  have HC := Lib.hid hc
  clear hc
  have a_0 : Bk (w.alloc (.cells #[.int .u8 (4), .bool (b), .int .i64 (n), .string (s)] 47)) w.heap.size 47 #[.int .u8 (4), .bool (b), .int .i64 (n), .string (s)] := Bk.new _ _ _
  have F0 : Ext w (w.alloc (.cells #[.int .u8 (4), .bool (b), .int .i64 (n), .string (s)] 47)) := (Ext.refl w).alloc _
  have m1 : True := trivial
  go_enter Tryz.func41, Tryz.ntmps41
  go_wp2_with (first
    | (have z := m1; clear z m1; go_at_call 40; refine (rcheck_at _ _ _ _ _ HC hs).mono ?_; rintro e w1 ⟨rfl, x1⟩; have a_1 := a_0.ext x1; have F1 : Ext w w1 := (F0.trans x1); clear x1; have a_10 : w1.cell? ⟨w.heap.size, 0, none⟩ = some (.int .u8 (4)) := a_1.cell 0; have a_11 : w1.cell? ⟨w.heap.size, 1, none⟩ = some (.bool (b)) := a_1.cell 1; have a_12 : w1.cell? ⟨w.heap.size, 2, none⟩ = some (.int .i64 (n)) := a_1.cell 2; have a_13 : w1.cell? ⟨w.heap.size, 3, none⟩ = some (.string (s)) := a_1.cell 3; have m2 : True := trivial)
    | (have z := m2; clear z m2; go_at_call 66; refine (rquoted_any _ _ hl).mono ?_; rintro e w2 ⟨rfl, x2⟩; have a_2 := a_1.ext x2; have F2 : Ext w w2 := (F1.trans x2); clear x2; have a_20 : w2.cell? ⟨w.heap.size, 0, none⟩ = some (.int .u8 (4)) := a_2.cell 0; have a_21 : w2.cell? ⟨w.heap.size, 1, none⟩ = some (.bool (b)) := a_2.cell 1; have a_22 : w2.cell? ⟨w.heap.size, 2, none⟩ = some (.int .i64 (n)) := a_2.cell 2; have a_23 : w2.cell? ⟨w.heap.size, 3, none⟩ = some (.string (s)) := a_2.cell 3; have m3 : True := trivial)
    | fail)
  go_ret
  exact ⟨rfl, F2⟩
set_option maxRecDepth 100000 in
set_option maxHeartbeats 1000000 in
theorem rprint_pos (m : Nat) (b : Bool) (s : ByteArray) (w : World) (hs : s.size ≤ 140737488355328) (hc : checkT 3 b (m : Int) s = 0) (hm2 : m < 9223372036854775808) : Calls Tryz.prog 41 #[.agg #[.int .u8 (3), .bool (b), .int .i64 ((m : Int)), .string (s)]] w fun e w' => e = .returned (.string ⟨(Lib.decDigits m).toArray⟩) ∧ Ext w w' := by
  have HC := Lib.hid hc
  clear hc
  have z : decide ((m : Int) < 0) = false := by simp
  have hw : IntKind.u64.wrap (m : Int) = (m : Int) := IntWalk.u64_in _ (by omega)
  have a_0 : Bk (w.alloc (.cells #[.int .u8 (3), .bool (b), .int .i64 ((m : Int)), .string (s)] 47)) w.heap.size 47 #[.int .u8 (3), .bool (b), .int .i64 ((m : Int)), .string (s)] := Bk.new _ _ _
  have F0 : Ext w (w.alloc (.cells #[.int .u8 (3), .bool (b), .int .i64 ((m : Int)), .string (s)] 47)) := (Ext.refl w).alloc _
  have m1 : True := trivial
  go_enter Tryz.func41, Tryz.ntmps41
  go_wp2_with (first
    | (have z := m1; clear z m1; go_at_call 40; refine (rcheck_at _ _ _ _ _ HC hs).mono ?_; rintro e w1 ⟨rfl, x1⟩; have a_1 := a_0.ext x1; have F1 : Ext w w1 := (F0.trans x1); clear x1; have a_10 : w1.cell? ⟨w.heap.size, 0, none⟩ = some (.int .u8 (3)) := a_1.cell 0; have a_11 : w1.cell? ⟨w.heap.size, 1, none⟩ = some (.bool (b)) := a_1.cell 1; have a_12 : w1.cell? ⟨w.heap.size, 2, none⟩ = some (.int .i64 ((m : Int))) := a_1.cell 2; have a_13 : w1.cell? ⟨w.heap.size, 3, none⟩ = some (.string (s)) := a_1.cell 3; have m2 : True := trivial)
    | (have z := m2; clear z m2; go_at_call 67; refine (rdig_any m _ (by omega)).mono ?_; rintro e w2 ⟨rfl, x2⟩; have a_2 := a_1.ext x2; have F2 : Ext w w2 := (F1.trans x2); clear x2; have a_20 : w2.cell? ⟨w.heap.size, 0, none⟩ = some (.int .u8 (3)) := a_2.cell 0; have a_21 : w2.cell? ⟨w.heap.size, 1, none⟩ = some (.bool (b)) := a_2.cell 1; have a_22 : w2.cell? ⟨w.heap.size, 2, none⟩ = some (.int .i64 ((m : Int))) := a_2.cell 2; have a_23 : w2.cell? ⟨w.heap.size, 3, none⟩ = some (.string (s)) := a_2.cell 3; have m3 : True := trivial)
    | fail)
  go_ret
  exact ⟨rfl, F2⟩
set_option maxRecDepth 100000 in
set_option maxHeartbeats 1000000 in
theorem rprint_neg (n : Int) (m : Nat) (b : Bool) (s : ByteArray) (w : World) (hs : s.size ≤ 140737488355328) (hc : checkT 3 b n s = 0) (h0 : n < 0) (hm : -n = (m : Int)) (hm2 : m ≤ 9223372036854775808) : Calls Tryz.prog 41 #[.agg #[.int .u8 (3), .bool (b), .int .i64 (n), .string (s)]] w fun e w' => e = .returned (.string ⟨(45 :: Lib.decDigits m).toArray⟩) ∧ Ext w w' := by
  have HC := Lib.hid hc
  clear hc
  have h1 : IntKind.i64.wrap (n + 1) = n + 1 := IntWalk.i64_in _ (by omega)
  have h2 : IntKind.i64.wrap (-(n + 1)) = (m : Int) - 1 := by rw [IntWalk.i64_in _ (by omega)]; omega
  have h3 : IntKind.u64.wrap ((m : Int) - 1) = (m : Int) - 1 := IntWalk.u64_in _ (by omega)
  have h4 : IntKind.u64.wrap ((m : Int) - 1 + 1) = (m : Int) := by rw [IntWalk.u64_in _ (by omega)]; omega
  have h5 : (m : Int) - 1 + 1 = (m : Int) := by omega
  have h6 : IntKind.u64.wrap (m : Int) = (m : Int) := IntWalk.u64_in _ (by omega)
  have hl : (Lib.decDigits m).length ≤ 20 := digits_len 19 m (by have : (10 : Nat) ^ 20 = 100000000000000000000 := by decide
                                                                 omega)
  have hnn : ¬ 9223372036854775807 < 1 + (Lib.decDigits m).length := by omega
  have hmm : m < 18446744073709551616 := by omega
  have HM := Lib.hid hmm
  clear hm hm2 hl hmm
  have a_0 : Bk (w.alloc (.cells #[.int .u8 (3), .bool (b), .int .i64 (n), .string (s)] 47)) w.heap.size 47 #[.int .u8 (3), .bool (b), .int .i64 (n), .string (s)] := Bk.new _ _ _
  have F0 : Ext w (w.alloc (.cells #[.int .u8 (3), .bool (b), .int .i64 (n), .string (s)] 47)) := (Ext.refl w).alloc _
  have m1 : True := trivial
  go_enter Tryz.func41, Tryz.ntmps41
  go_wp2_with (first
    | (have z := m1; clear z m1; go_at_call 40; refine (rcheck_at _ _ _ _ _ HC hs).mono ?_; rintro e w1 ⟨rfl, x1⟩; have a_1 := a_0.ext x1; have F1 : Ext w w1 := (F0.trans x1); clear x1; have a_10 : w1.cell? ⟨w.heap.size, 0, none⟩ = some (.int .u8 (3)) := a_1.cell 0; have a_11 : w1.cell? ⟨w.heap.size, 1, none⟩ = some (.bool (b)) := a_1.cell 1; have a_12 : w1.cell? ⟨w.heap.size, 2, none⟩ = some (.int .i64 (n)) := a_1.cell 2; have a_13 : w1.cell? ⟨w.heap.size, 3, none⟩ = some (.string (s)) := a_1.cell 3; have m2 : True := trivial)
    | (have z := m2; clear z m2; go_at_call 67; refine (rdig_any m _ HM.out).mono ?_; rintro e w2 ⟨rfl, x2⟩; have a_2 := a_1.ext x2; have F2 : Ext w w2 := (F1.trans x2); clear x2; have a_20 : w2.cell? ⟨w.heap.size, 0, none⟩ = some (.int .u8 (3)) := a_2.cell 0; have a_21 : w2.cell? ⟨w.heap.size, 1, none⟩ = some (.bool (b)) := a_2.cell 1; have a_22 : w2.cell? ⟨w.heap.size, 2, none⟩ = some (.int .i64 (n)) := a_2.cell 2; have a_23 : w2.cell? ⟨w.heap.size, 3, none⟩ = some (.string (s)) := a_2.cell 3; have m3 : True := trivial)
    | fail)
  go_ret
  refine ⟨?_, F2⟩
  simp
  exact one_app _ _
theorem rprint_any (k : Int) (b : Bool) (n : Int) (s : ByteArray) (w : World) (hs : s.size ≤ 140737488355328) (hn : -9223372036854775808 ≤ n ∧ n ≤ 9223372036854775807) : Calls Tryz.prog 41 #[.agg #[.int .u8 (k), .bool (b), .int .i64 (n), .string (s)]] w fun e w' => e = .returned (.string (printT k b n s)) ∧ Ext w w' := by
  unfold printT
  by_cases hc : checkT k b n s = 0
  · rw [if_pos hc]
    have hk := (form_of hc).1
    by_cases h2 : k = 2
    · subst h2
      rw [if_pos rfl]
      cases b
      · exact rprint_false n s w hs hc
      · exact rprint_true n s w hs hc
    rw [if_neg h2]
    by_cases h3 : k = 3
    · subst h3
      rw [if_pos rfl]
      unfold Lib.itoa
      by_cases h0 : n < 0
      · rw [if_pos h0]; exact rprint_neg n n.natAbs b s w hs hc h0 (by omega) (by omega)
      · rw [if_neg h0]
        obtain ⟨m, rfl⟩ := Int.eq_ofNat_of_zero_le (show 0 ≤ n by omega)
        rw [Int.toNat_natCast]
        exact rprint_pos m b s w hs hc (by omega)
    rw [if_neg h3]
    by_cases h4 : k = 4
    · subst h4; rw [if_pos rfl]; exact rprint_text n b s w hs hc (by have := size_of_check hc; omega)
    rw [if_neg h4]
    obtain rfl : k = 1 := by omega
    exact rprint_null n b s w hs hc
  · rw [if_neg hc]; exact rprint_off k n _ b s w hs rfl (by simpa using hc)
theorem rprint_lit {r : ByteArray} (k : Int) (b : Bool) (n : Int) (s : ByteArray) (w : World) (h : Hid (printT k b n s = r)) (hs : s.size ≤ 140737488355328) (hn : -9223372036854775808 ≤ n ∧ n ≤ 9223372036854775807) : Calls Tryz.prog 41 #[.agg #[.int .u8 (k), .bool (b), .int .i64 (n), .string (s)]] w fun e w' => e = .returned (.string r) ∧ Ext w w' := h.out ▸ rprint_any k b n s w hs hn
end Go.Proofs.YtngeioghihbkeaaGreatDoor
namespace Go.Proofs.YtngeioghihbkeaaGreatDoor
open Go.RowKit

theorem take_snocP {α : Type} {l : List α} {i : Nat} (h : i < l.length) (d : α) : l.take (i + 1) = l.take i ++ [l.getD i d] := by
  rw [List.take_succ_eq_append_getElem h, List.getD_eq_getElem?_getD, List.getElem?_eq_getElem h]
  rfl
/-- a datum, written -/
def prS (d : Dat) : ByteArray := printT d.k d.b d.n d.s
def prD (d : Dat) : List UInt8 := (prS d).data.toList
theorem prD_len (d : Dat) (hn : -9223372036854775808 ≤ d.n ∧ d.n ≤ 9223372036854775807) : (prD d).length ≤ 5000 := by
  unfold prD prS printT
  split
  · rename_i hc
    have hs := size_of_check hc
    split
    · show (Lib.formatBool d.b).length ≤ 5000
      cases d.b <;> decide
    · split
      · have := Lib.itoa_length_le d.n hn.1 hn.2
        show (Lib.itoa d.n).length ≤ 5000
        omega
      · split
        · show (quotedT d.s.data.toList).length ≤ 5000
          unfold quotedT
          have h4 : (d.s.data.toList.flatMap esc).length ≤ 4 * d.s.data.toList.length := by
            generalize d.s.data.toList = l
            induction l with
            | nil => exact Nat.le_refl _
            | cons c l ih =>
              have := esc_len c
              rw [List.flatMap_cons, List.length_append, List.length_cons]
              omega
          have h5 : d.s.data.toList.length = d.s.size := by simp
          simp only [List.length_cons, List.length_append, List.length_nil]
          omega
        · decide
  · exact Nat.zero_le _
def sep_ : List UInt8 := [44, 32]
/-- a row, written -/
def rowL (l : List Dat) : List UInt8 := 40 :: (Lib.join (l.map prD) sep_ ++ [41])
def rowS (l : List Dat) : ByteArray := ⟨(rowL l).toArray⟩
theorem join_snoc (xs : List (List UInt8)) (x sep : List UInt8) (h : xs ≠ []) : Lib.join (xs ++ [x]) sep = Lib.join xs sep ++ (sep ++ x) := by
  cases xs with
  | nil => exact absurd rfl h
  | cons y r =>
    rw [List.cons_append, Lib.join_cons, Lib.join_cons, List.append_assoc]
    congr 1
    unfold Lib.joinTail
    rw [List.map_append, List.flatten_append]
    simp
theorem join_max (sep : List UInt8) (m : Nat) : ∀ xs : List (List UInt8), (∀ x ∈ xs, x.length ≤ m) → (Lib.join xs sep).length ≤ xs.length * (m + sep.length)
  | [], _ => Nat.zero_le _
  | [x], h => by
    rw [Lib.join_one]
    have := h x (List.mem_cons_self ..)
    simp only [List.length_cons, List.length_nil]
    omega
  | x :: y :: r, h => by
    have ih := join_max sep m (y :: r) (fun z hz => h z (List.mem_cons_of_mem _ hz))
    have e : Lib.join (x :: y :: r) sep = x ++ (sep ++ Lib.join (y :: r) sep) := by
      rw [Lib.join_cons, Lib.join_cons]
      unfold Lib.joinTail
      rw [List.map_cons, List.flatten_cons]
      simp
    have hx := h x (List.mem_cons_self ..)
    rw [e, List.length_append, List.length_append, List.length_cons, Nat.succ_mul]
    omega
theorem rowL_len (l : List Dat) (hn : ∀ d ∈ l, -9223372036854775808 ≤ d.n ∧ d.n ≤ 9223372036854775807) (h : l.length ≤ 32) : (Lib.join (l.map prD) sep_).length ≤ 200000 := by
  have := join_max sep_ 5000 (l.map prD) (fun x hx => by obtain ⟨d, hd, rfl⟩ := List.mem_map.1 hx; exact prD_len d (hn d hd))
  rw [List.length_map] at this
  have e : sep_.length = 2 := rfl
  rw [e] at this
  have : l.length * (5000 + 2) ≤ 32 * 5002 := Nat.mul_le_mul h (Nat.le_refl _)
  omega
/-- the row's text up to a place, as the reference writes it -/
def upS (l : List Dat) (i : Nat) : ByteArray := ⟨(40 :: Lib.join ((l.take i).map prD) sep_).toArray⟩
theorem upS_zero (l : List Dat) : upS l 0 = ⟨#[40]⟩ := rfl
theorem bytes_app (a b : List UInt8) : (⟨a.toArray⟩ : ByteArray) ++ ⟨b.toArray⟩ = ⟨(a ++ b).toArray⟩ := by
  apply ByteArray.ext
  simp
theorem prS_eq (d : Dat) : prS d = ⟨(prD d).toArray⟩ := by
  unfold prD
  apply ByteArray.ext
  simp
theorem upS_first {l : List Dat} (h : 0 < l.length) : upS l 0 ++ prS (l.getD 0 Dat.zero) = upS l 1 := by
  rw [prS_eq]
  unfold upS
  rw [bytes_app]
  have e : l.take 1 = [l.getD 0 Dat.zero] := by
    cases l with
    | nil => cases h
    | cons d l => rfl
  rw [e]
  simp [Lib.join_one, Lib.join_nil]
theorem upS_next {l : List Dat} {i : Nat} (h : i < l.length) (h0 : 0 < i) : (upS l i ++ ⟨#[44, 32]⟩) ++ prS (l.getD i Dat.zero) = upS l (i + 1) := by
  have hne : (l.take i).map prD ≠ [] := by
    intro e
    have := congrArg List.length e
    rw [List.length_map, List.length_take, List.length_nil] at this
    omega
  rw [prS_eq, show (⟨#[44, 32]⟩ : ByteArray) = ⟨sep_.toArray⟩ from rfl]
  unfold upS
  rw [bytes_app, bytes_app, (show l.take (i + 1) = l.take i ++ [l.getD i Dat.zero] by rw [List.take_succ_eq_append_getElem h, List.getD_eq_getElem?_getD, List.getElem?_eq_getElem h]; rfl), List.map_append, List.map_singleton, join_snoc _ _ _ hne]
  simp
theorem upS_size (l : List Dat) (i : Nat) (hn : ∀ d ∈ l, -9223372036854775808 ≤ d.n ∧ d.n ≤ 9223372036854775807) (h : l.length ≤ 32) : (upS l i).size ≤ 200001 := by
  have := rowL_len (l.take i) (fun d hd => hn d (List.mem_of_mem_take hd)) (by rw [List.length_take]; omega)
  show (40 :: Lib.join ((l.take i).map prD) sep_).length ≤ _
  rw [List.length_cons]
  omega
theorem upS_end (l : List Dat) {i : Nat} (h : l.length ≤ i) : upS l i ++ ⟨#[41]⟩ = rowS l := by
  rw [show (⟨#[41]⟩ : ByteArray) = ⟨([41] : List UInt8).toArray⟩ from rfl]
  unfold upS rowS rowL
  rw [bytes_app, List.take_of_length_le h]
  rfl
/-- what Print answers -/
def PrnOut (t : IntKind) (w : World) (l : List Dat) (e : Ending) (w' : World) : Prop := e = .returned (.tuple #[.string (if checkR l = 0 then rowS l else ⟨#[]⟩), .int t (checkR l)]) ∧ Ext w w'
theorem rprD_lit {r : ByteArray} (k : Int) (b : Bool) (n : Int) (s : ByteArray) (w : World) (h : Hid (prS ⟨k, b, n, s⟩ = r)) (hs : s.size ≤ 140737488355328) (hn : -9223372036854775808 ≤ n ∧ n ≤ 9223372036854775807) :
    Calls Tryz.prog 41 #[.agg #[.int .u8 k, .bool b, .int .i64 n, .string s]] w fun e w' => e = .returned (.string r) ∧ Ext w w' := rprint_lit k b n s w h hs hn
theorem prD_lit {r : ByteArray} (k : Int) (b : Bool) (n : Int) (s : ByteArray) (w : World) (h : Hid (prS ⟨k, b, n, s⟩ = r)) (hs : s.size ≤ 9223372036854775807) (hn : -9223372036854775808 ≤ n ∧ n ≤ 9223372036854775807) (G : Good2 w) :
    Calls Tryz.prog 23 #[.agg #[.int .u8 k, .bool b, .int .i64 n, .string s]] w fun e w' => e = .returned (.string r) ∧ Ext w w' := print_lit k b n s w h hs hn G
end Go.Proofs.YtngeioghihbkeaaGreatDoor
namespace Go.Proofs.YtngeioghihbkeaaGreatDoor
open Go.RowKit

theorem elem_str : Elem Tryz.prog 60 9 1 16 (.string ⟨#[]⟩) := ⟨by kernel_rfl, by kernel_rfl, rfl, by decide⟩
def madeStrs (n : Nat) : Obj := .cells (madeCells #[.string ⟨#[]⟩] (n * 1)) 9
theorem make_strs (n : Nat) (hn : n ≤ 1000000000) (W : World) : (Instr.makeSlice 60 (.int .i64 (n : Int)) (.int .i64 (n : Int))).run Tryz.prog W = .ok (.slice (some ⟨W.heap.size, 0, none⟩) n n) (W.alloc (madeStrs n)) := by
  obtain ⟨i, hi, hz, hs, hb⟩ := info_parts elem_str.info
  have := run_make (P := Tryz.prog) (w := W) 60 9 i _ elem_str.under hi hz .i64 .i64 (n : Int) (n : Int) (by omega) (Int.le_refl _) (by rw [hb]; omega) (by omega)
  rw [hs] at this
  exact this
def strC (L : List ByteArray) : List Value := L.map .string
/-- what has been written of a row's data: i of them -/
def strsTo (l : List Dat) (i : Nat) : List ByteArray := (l.take i).map prS ++ List.replicate (l.length - i) ⟨#[]⟩
theorem own_strs (W : World) (l : List Dat) (hn : l.length ≤ 1000000000) : Own (W.alloc (madeStrs l.length)) W.heap.size 9 1 (some ⟨W.heap.size, 0, none⟩) l.length l.length (strC (strsTo l 0)) := by
  have e : strC (strsTo l 0) = (madeCells #[.string ⟨#[]⟩] (l.length * 1)).toList := by
    unfold strsTo strC madeCells
    simp only [List.take_zero, List.map_nil, List.nil_append, Nat.sub_zero, List.map_replicate, Nat.mul_one]
    refine List.ext_getElem (by simp) fun j h1 h2 => ?_
    simp only [List.getElem_replicate, Array.getElem_toList, Array.getElem_map, Array.getElem_range]
    rw [show j % (#[Value.string ⟨#[]⟩] : Array Value).size = 0 by show j % 1 = 0; omega]
    rfl
  refine ⟨by rw [e]; simp [size_madeCells], .inr ⟨W.heap.size, _, rfl, Nat.le_refl _, heap_alloc_new W _, Nat.le_refl _, by unfold maxLen; omega, size_madeCells _ _, ?_⟩⟩
  rw [e]
  exact List.take_of_length_le (by simp [size_madeCells])
theorem strsTo_set {l : List Dat} {i : Nat} (h : i < l.length) : (strC (strsTo l i)).set i (.string (prS (l.getD i Dat.zero))) = strC (strsTo l (i + 1)) := by
  unfold strsTo strC
  have hl : ((l.take i).map prS).length = i := by rw [List.length_map, List.length_take]; omega
  obtain ⟨k, hk⟩ : ∃ k, l.length - i = k + 1 := ⟨l.length - i - 1, by omega⟩
  rw [hk, List.replicate_succ, List.map_append, List.map_cons, show l.length - (i + 1) = k by omega, take_snocP h Dat.zero, List.map_append (l₁ := l.take i), List.map_append, List.map_append]
  rw [List.set_append_right _ _ (by rw [List.length_map, hl]; exact Nat.le_refl _), List.length_map, hl, Nat.sub_self, List.set_cons_zero]
  simp
theorem strsTo_all (l : List Dat) : strsTo l l.length = l.map prS := by
  unfold strsTo
  rw [List.take_length, Nat.sub_self]
  simp
theorem strsTo_len {l : List Dat} {i : Nat} (h : i ≤ l.length) : (strsTo l i).length = l.length := by
  unfold strsTo
  rw [List.length_append, List.length_map, List.length_take, List.length_replicate]
  omega
theorem map_prD (l : List Dat) : (l.map prS).map (·.data.toList) = l.map prD := by rw [List.map_map]; rfl
theorem own_free {w : World} {B g n c size : Nat} {e : TypeId} {xs : List Value} (h : Own w B e size (some ⟨g, 0, none⟩) n c xs) (hc : 0 < c) (j : Nat) : w.frozen? ⟨g, j, none⟩ = false := by
  rcases h.2 with ⟨h1, h2⟩ | ⟨g', cur, e, hb, hg, _⟩
  · omega
  · cases e
    simp [World.frozen?, hg]
theorem own_str {w : World} {B g n c : Nat} {L : List ByteArray} (h : Own w B 9 1 (some ⟨g, 0, none⟩) n c (strC L)) {i : Nat} {x : ByteArray} (hx : L[i]? = some x) : w.cell? ⟨g, i, none⟩ = some (.string x) := by
  have hi : i < L.length := by
    rcases Nat.lt_or_ge i L.length with q | q
    · exact q
    · rw [List.getElem?_eq_none q] at hx; cases hx
  have hl := h.1
  rw [show (strC L).length = L.length from List.length_map .., Nat.mul_one] at hl
  obtain ⟨g', e, _, _, _, hc, _⟩ := h.form (by omega)
  cases e
  exact hc i _ (by unfold strC; rw [List.getElem?_map, hx]; rfl)
theorem join_any (g n B : Nat) (xs : List ByteArray) (w : World) (hn : n = xs.length) (o : Own w B 9 1 (some ⟨g, 0, none⟩) n n (strC xs)) (hs : n ≤ 1000) (hlen : (Lib.join (xs.map (·.data.toList)) sep_).length ≤ 140737488355328) :
    Calls Tryz.prog 24 #[.slice (some ⟨g, 0, none⟩) n n, .string ⟨#[44, 32]⟩] w fun e w' => e = .returned (.string ⟨(Lib.join (xs.map (·.data.toList)) sep_).toArray⟩) ∧ Ext w w' := by
  rcases Nat.eq_zero_or_pos n with h0 | h0
  · subst h0
    have e : xs = [] := List.eq_nil_of_length_eq_zero hn.symm
    subst e
    refine (Tryz.strings_Join_none (some ⟨g, 0, none⟩) 0 ⟨#[44, 32]⟩ w).mono ?_
    rintro e w1 ⟨rfl, rfl⟩
    exact ⟨rfl, Ext.refl _⟩
  · obtain ⟨k, hk⟩ : ∃ k, n = k + 1 := ⟨n - 1, by omega⟩
    have hg := (o.lt g (by rw [hk]; rfl)).2
    subst hn
    refine (Tryz.strings_Join g 0 xs.length xs ⟨#[44, 32]⟩ w (fun j x hx => by rw [Nat.zero_add]; exact own_str o hx) hg (by omega) (Nat.le_refl _) hlen).mono ?_
    rintro e w1 ⟨rfl, b1⟩
    exact ⟨rfl, b1⟩
theorem row_all {l : List Dat} {q : ByteArray} (h : (⟨(Lib.join ((l.map prS).map (·.data.toList)) sep_).toArray⟩ : ByteArray) = q) : (⟨#[40]⟩ ++ q) ++ ⟨#[41]⟩ = rowS l := by
  rw [← h, map_prD]
  have e1 := bytes_app [40] (Lib.join (l.map prD) sep_)
  have e2 := bytes_app ([40] ++ Lib.join (l.map prD) sep_) [41]
  rw [← e1] at e2
  exact e2
set_option maxRecDepth 100000 in
set_option maxHeartbeats 4000000 in
theorem rowPrint_any (A : Option Addr) (c n : Nat) (l : List Dat) (w : World) (e1 : Hid (n = l.length)) (h1 : Hid (Rw w A c l)) (ht : Hid (RwTxt l)) (hi : Hid (RwInt l)) (G : Good2 w) :
    Calls Tryz.prog 10 #[.slice A n c] w (PrnOut .u16 w l) := by
  have GW := G.good
  obtain ⟨v, hv⟩ : ∃ v, checkR l = v := ⟨_, rfl⟩
  have HV := Lib.hid hv
  by_cases h0 : v = 0
  · subst h0
    obtain ⟨h32, _⟩ := (checkR_ok l).1 hv
    have hn32 : n ≤ 32 := by have := e1.out; omega
    have H32 := Lib.hid h32
    have hmk := make_strs n (by omega)
    clear hv h32
    go_enter Tryz.func10, Tryz.ntmps10
    go_upto_region 5 with (go_at_call 11; refine (rowCheck_lit A c n l _ HV e1 h1 ht GW).mono ?_; rintro e w1 ⟨rfl, x1⟩)
    have X1 := Lib.hid x1
    clear x1 hmk
    obtain ⟨w2, hw2⟩ : ∃ z, z = w1.alloc (madeStrs n) := ⟨_, rfl⟩
    have Y2 : Ext w1 w2 := hw2 ▸ (Ext.refl w1).alloc _
    have s2 : w1.heap.size < w2.heap.size := by rw [hw2]; simp
    have HO2 : Hid (Own w2 w1.heap.size 9 1 (some ⟨w1.heap.size, 0, none⟩) n n (strC (strsTo l 0))) := Lib.hid (by rw [hw2, e1.out]; exact own_strs w1 l (by have := H32.out; omega))
    rw [← hw2]
    clear hw2
    go_wp2
    go_loopg [18] n (fun z v wr => ∃ i : Nat, z = n - i ∧ i ≤ n ∧ v = .int .i64 i ∧ Hid (Own wr w1.heap.size 9 1 (some ⟨w1.heap.size, 0, none⟩) n n (strC (strsTo l i))) ∧ w1.heap.size < wr.heap.size ∧ Ext w1 wr)
    case atStart => exact ⟨0, rfl, Nat.zero_le _, rfl, HO2, s2, Y2⟩
    case round =>
      clear HO2 s2 Y2
      obtain ⟨i, rfl, hi1, rfl, HO, hsz, er⟩ := hrel
      have ER := Lib.hid er
      clear er
      by_cases hlt : i < n
      · have hil : i < l.length := by rw [← e1.out]; exact hlt
        obtain ⟨a1, rfl, p0, p1, p2, p3⟩ := ((h1.out.ext X1.out).ext ER.out).at hil
        have HIN := Lib.hid (hi.out.at hil)
        have hmem : l.getD i Dat.zero ∈ l := by
          rw [List.getD_eq_getElem?_getD, List.getElem?_eq_getElem hil]
          exact List.getElem_mem hil
        have hts := ht.out _ hmem
        have HST := Lib.hid (strsTo_set hil)
        have hlen := strsTo_len (l := l) (i := i) (by omega)
        obtain ⟨u0, hu0⟩ : ∃ u, (strsTo l i)[i]? = some u := ⟨_, List.getElem?_eq_getElem (by omega)⟩
        have HU0 := Lib.hid hu0
        obtain ⟨d, hd⟩ : ∃ d, l.getD i Dat.zero = d := ⟨_, rfl⟩
        rw [hd] at p0 p1 p2 p3 HIN hts HST
        clear hil hd hmem hlen hu0
        obtain ⟨ka, ba, na, sa⟩ := d
        simp only at p0 p1 p2 p3 hts
        obtain ⟨q, hq⟩ : ∃ q, prS ⟨ka, ba, na, sa⟩ = q := ⟨_, rfl⟩
        have HQ := Lib.hid hq
        rw [hq] at HST
        clear hq
        have GR := Lib.hid (G.ext (X1.out.trans (ER.out.alloc (.cells #[.int .u8 ka, .bool ba, .int .i64 na, .string sa] 47))))
        go_wp2_with (go_at_call 23; go_loud (refine (prD_lit ka ba na sa _ HQ hts HIN.out GR.out).mono ?_); rintro e w3 ⟨rfl, x3⟩; have XX : Ext wr w3 := ((Ext.refl wr).alloc _).trans x3; have O3 := Lib.hid (HO.out.ext XX); have c0 := own_str O3.out HU0.out; have f0 := own_free O3.out (by omega) i; have Z3 := Lib.hid (ER.out.trans XX); have s3 : w1.heap.size < w3.heap.size := (by have := XX.size; omega); clear x3)
        go_roundg (n - (i + 1))
        case measure => omega
        case rel => exact ⟨i + 1, rfl, by omega, by go_num, Lib.hid (by have := O3.out.put i (.string q); rw [HST.out] at this; exact this), by rw [World.size_setCell]; exact s3, Z3.out.set (p := ⟨w1.heap.size, _, none⟩) (Nat.le_refl _) _⟩
      · obtain rfl : i = n := by omega
        have HOE : Hid (Own wr w1.heap.size 9 1 (some ⟨w1.heap.size, 0, none⟩) i i (strC (l.map prS))) := Lib.hid (by have := HO.out; rw [show strsTo l i = l.map prS by rw [e1.out]; exact strsTo_all l] at this; exact this)
        have hjl : (Lib.join ((l.map prS).map (·.data.toList)) sep_).length ≤ 200000 := by rw [map_prD]; exact rowL_len l hi.out H32.out
        obtain ⟨q, hq⟩ : ∃ q : ByteArray, (⟨(Lib.join ((l.map prS).map (·.data.toList)) sep_).toArray⟩ : ByteArray) = q := ⟨_, rfl⟩
        have hq9 : q.size ≤ 200000 := by rw [← hq]; exact hjl
        have HQ := Lib.hid hq
        have HJL := Lib.hid hjl
        clear hq hjl
        go_wp2_with (go_at_call 24; go_loud (refine (join_any w1.heap.size i w1.heap.size (l.map prS) _ (by rw [List.length_map]; exact e1.out) HOE.out (by omega) (Nat.le_trans HJL.out (by decide))).mono ?_); rintro e w3 ⟨rfl, x3⟩; rw [HQ.out])
        go_ret2
        exact ⟨by rw [if_pos HV.out, HV.out, ← row_all HQ.out]; rfl, (X1.out.trans ER.out).trans x3⟩
  · have z : (v != 0) = true := by simpa using h0
    have HZ := Lib.hid h0
    clear hv h0
    go_enter Tryz.func10, Tryz.ntmps10
    go_wp2_with (go_at_call 11; refine (rowCheck_lit A c n l _ HV e1 h1 ht GW).mono ?_; rintro e w1 ⟨rfl, x1⟩)
    go_ret2
    exact ⟨by rw [if_neg (by rw [HV.out]; exact HZ.out), HV.out]; rfl, x1⟩
end Go.Proofs.YtngeioghihbkeaaGreatDoor
