/- DatumSides: the walk. Conditions: the library's tables stand. -/
import Derived.Test.YtobgfegdfcpgfaaDoorDComp
namespace Go.Proofs.YtobgfegdfcpgfaaDoor
open Go.RowKit

theorem compare_at {op : Int} {r : Dat × Int} (ka na kb nb : Int) (ba bb : Bool) (sa sb : ByteArray) (w : World) (h : Hid (compareR op ⟨ka, ba, na, sa⟩ ⟨kb, bb, nb, sb⟩ = r)) (ga : sa.size ≤ 9223372036854775807) (gb : sb.size ≤ 9223372036854775807) (G : Good w) :
    Calls Tryd.prog 45 #[.int .u8 op, .agg #[.int .u8 (ka), .bool (ba), .int .i64 (na), .string (sa)], .agg #[.int .u8 (kb), .bool (bb), .int .i64 (nb), .string (sb)]] w (Out w r) := h.out ▸ compare_any op ⟨ka, ba, na, sa⟩ ⟨kb, bb, nb, sb⟩ w ga gb G
set_option maxRecDepth 100000 in
set_option maxHeartbeats 2000000 in
theorem sides_a (ka na kb nb ca : Int) (ba bb : Bool) (sa sb : ByteArray) (w : World) (ga : sa.size ≤ 9223372036854775807) (gb : sb.size ≤ 9223372036854775807) (G : Good w) (hca : checkT ka ba na sa = ca) (la : (ca != 0) = true) :
    Calls Tryd.prog 11 #[.agg #[.int .u8 (ka), .bool (ba), .int .i64 (na), .string (sa)], .agg #[.int .u8 (kb), .bool (bb), .int .i64 (nb), .string (sb)]] w fun e w' => e = .returned (.bool true) ∧ Ext w w' := by
  have HCA := Lib.hid hca
  clear hca
  have a_0 : Bk ((w.alloc (.cells #[.int .u8 (ka), .bool (ba), .int .i64 (na), .string (sa)] 24)).alloc (.cells #[.int .u8 (kb), .bool (bb), .int .i64 (nb), .string (sb)] 24)) w.heap.size 24 #[.int .u8 (ka), .bool (ba), .int .i64 (na), .string (sa)] := (Bk.new _ _ _).alloc _
  have b_0 : Bk ((w.alloc (.cells #[.int .u8 (ka), .bool (ba), .int .i64 (na), .string (sa)] 24)).alloc (.cells #[.int .u8 (kb), .bool (bb), .int .i64 (nb), .string (sb)] 24)) (w.heap.size + 1) 24 #[.int .u8 (kb), .bool (bb), .int .i64 (nb), .string (sb)] := Bk.at (by simp)
  have F0 : Ext w ((w.alloc (.cells #[.int .u8 (ka), .bool (ba), .int .i64 (na), .string (sa)] 24)).alloc (.cells #[.int .u8 (kb), .bool (bb), .int .i64 (nb), .string (sb)] 24)) := ((Ext.refl w).alloc _).alloc _
  have m1 : True := trivial
  go_enter Tryd.func11, Tryd.ntmps11
  go_wp2_with (first
    | (have z := m1; clear z m1; go_at_call 15; refine (check_at _ _ _ _ _ HCA ga (G.ext F0)).mono ?_; rintro e w1 ⟨rfl, x1⟩; have a_1 := a_0.ext x1; have b_1 := b_0.ext x1; have F1 : Ext w w1 := (F0.trans x1); clear x1; have a_10 : w1.cell? ⟨w.heap.size, 0, none⟩ = some (.int .u8 (ka)) := a_1.cell 0; have a_11 : w1.cell? ⟨w.heap.size, 1, none⟩ = some (.bool (ba)) := a_1.cell 1; have a_12 : w1.cell? ⟨w.heap.size, 2, none⟩ = some (.int .i64 (na)) := a_1.cell 2; have a_13 : w1.cell? ⟨w.heap.size, 3, none⟩ = some (.string (sa)) := a_1.cell 3; have b_10 : w1.cell? ⟨w.heap.size + 1, 0, none⟩ = some (.int .u8 (kb)) := b_1.cell 0; have b_11 : w1.cell? ⟨w.heap.size + 1, 1, none⟩ = some (.bool (bb)) := b_1.cell 1; have b_12 : w1.cell? ⟨w.heap.size + 1, 2, none⟩ = some (.int .i64 (nb)) := b_1.cell 2; have b_13 : w1.cell? ⟨w.heap.size + 1, 3, none⟩ = some (.string (sb)) := b_1.cell 3; have m2 : True := trivial)
    | (have z := m2; clear z m2; go_at_call 16; refine (known_true _ (G.ext F1)).mono ?_; rintro e w2 ⟨rfl, x2⟩; have a_2 := a_1.ext x2; have b_2 := b_1.ext x2; have F2 : Ext w w2 := (F1.trans x2); clear x2; have m3 : True := trivial)
    | fail)
  go_ret
  exact ⟨rfl, F2⟩
set_option maxRecDepth 100000 in
set_option maxHeartbeats 2000000 in
theorem sides_b (ka na kb nb cb : Int) (ba bb : Bool) (sa sb : ByteArray) (w : World) (ga : sa.size ≤ 9223372036854775807) (gb : sb.size ≤ 9223372036854775807) (G : Good w) (hca : checkT ka ba na sa = 0) (hcb : checkT kb bb nb sb = cb) (lb : (cb != 0) = true) :
    Calls Tryd.prog 11 #[.agg #[.int .u8 (ka), .bool (ba), .int .i64 (na), .string (sa)], .agg #[.int .u8 (kb), .bool (bb), .int .i64 (nb), .string (sb)]] w fun e w' => e = .returned (.bool true) ∧ Ext w w' := by
  have HCA := Lib.hid hca
  clear hca
  have HCB := Lib.hid hcb
  clear hcb
  have a_0 : Bk ((w.alloc (.cells #[.int .u8 (ka), .bool (ba), .int .i64 (na), .string (sa)] 24)).alloc (.cells #[.int .u8 (kb), .bool (bb), .int .i64 (nb), .string (sb)] 24)) w.heap.size 24 #[.int .u8 (ka), .bool (ba), .int .i64 (na), .string (sa)] := (Bk.new _ _ _).alloc _
  have b_0 : Bk ((w.alloc (.cells #[.int .u8 (ka), .bool (ba), .int .i64 (na), .string (sa)] 24)).alloc (.cells #[.int .u8 (kb), .bool (bb), .int .i64 (nb), .string (sb)] 24)) (w.heap.size + 1) 24 #[.int .u8 (kb), .bool (bb), .int .i64 (nb), .string (sb)] := Bk.at (by simp)
  have F0 : Ext w ((w.alloc (.cells #[.int .u8 (ka), .bool (ba), .int .i64 (na), .string (sa)] 24)).alloc (.cells #[.int .u8 (kb), .bool (bb), .int .i64 (nb), .string (sb)] 24)) := ((Ext.refl w).alloc _).alloc _
  have m1 : True := trivial
  go_enter Tryd.func11, Tryd.ntmps11
  go_wp2_with (first
    | (have z := m1; clear z m1; go_at_call 15; refine (check_at _ _ _ _ _ HCA ga (G.ext F0)).mono ?_; rintro e w1 ⟨rfl, x1⟩; have a_1 := a_0.ext x1; have b_1 := b_0.ext x1; have F1 : Ext w w1 := (F0.trans x1); clear x1; have a_10 : w1.cell? ⟨w.heap.size, 0, none⟩ = some (.int .u8 (ka)) := a_1.cell 0; have a_11 : w1.cell? ⟨w.heap.size, 1, none⟩ = some (.bool (ba)) := a_1.cell 1; have a_12 : w1.cell? ⟨w.heap.size, 2, none⟩ = some (.int .i64 (na)) := a_1.cell 2; have a_13 : w1.cell? ⟨w.heap.size, 3, none⟩ = some (.string (sa)) := a_1.cell 3; have b_10 : w1.cell? ⟨w.heap.size + 1, 0, none⟩ = some (.int .u8 (kb)) := b_1.cell 0; have b_11 : w1.cell? ⟨w.heap.size + 1, 1, none⟩ = some (.bool (bb)) := b_1.cell 1; have b_12 : w1.cell? ⟨w.heap.size + 1, 2, none⟩ = some (.int .i64 (nb)) := b_1.cell 2; have b_13 : w1.cell? ⟨w.heap.size + 1, 3, none⟩ = some (.string (sb)) := b_1.cell 3; have m2 : True := trivial)
    | (have z := m2; clear z m2; go_at_call 15; refine (check_at _ _ _ _ _ HCB gb (G.ext F1)).mono ?_; rintro e w2 ⟨rfl, x2⟩; have a_2 := a_1.ext x2; have b_2 := b_1.ext x2; have F2 : Ext w w2 := (F1.trans x2); clear x2; have a_20 : w2.cell? ⟨w.heap.size, 0, none⟩ = some (.int .u8 (ka)) := a_2.cell 0; have a_21 : w2.cell? ⟨w.heap.size, 1, none⟩ = some (.bool (ba)) := a_2.cell 1; have a_22 : w2.cell? ⟨w.heap.size, 2, none⟩ = some (.int .i64 (na)) := a_2.cell 2; have a_23 : w2.cell? ⟨w.heap.size, 3, none⟩ = some (.string (sa)) := a_2.cell 3; have b_20 : w2.cell? ⟨w.heap.size + 1, 0, none⟩ = some (.int .u8 (kb)) := b_2.cell 0; have b_21 : w2.cell? ⟨w.heap.size + 1, 1, none⟩ = some (.bool (bb)) := b_2.cell 1; have b_22 : w2.cell? ⟨w.heap.size + 1, 2, none⟩ = some (.int .i64 (nb)) := b_2.cell 2; have b_23 : w2.cell? ⟨w.heap.size + 1, 3, none⟩ = some (.string (sb)) := b_2.cell 3; have m3 : True := trivial)
    | (have z := m3; clear z m3; go_at_call 16; refine (known_true _ (G.ext F2)).mono ?_; rintro e w3 ⟨rfl, x3⟩; have a_3 := a_2.ext x3; have b_3 := b_2.ext x3; have F3 : Ext w w3 := (F2.trans x3); clear x3; have m4 : True := trivial)
    | fail)
  go_ret
  exact ⟨rfl, F3⟩
set_option maxRecDepth 100000 in
set_option maxHeartbeats 2000000 in
theorem sides_k (ka na kb nb : Int) (ba bb : Bool) (sa sb : ByteArray) (w : World) (ga : sa.size ≤ 9223372036854775807) (gb : sb.size ≤ 9223372036854775807) (G : Good w) (hca : checkT ka ba na sa = 0) (hcb : checkT kb bb nb sb = 0) (l1 : (ka != kb) = true) :
    Calls Tryd.prog 11 #[.agg #[.int .u8 (ka), .bool (ba), .int .i64 (na), .string (sa)], .agg #[.int .u8 (kb), .bool (bb), .int .i64 (nb), .string (sb)]] w fun e w' => e = .returned (.bool true) ∧ Ext w w' := by
  have HCA := Lib.hid hca
  clear hca
  have HCB := Lib.hid hcb
  clear hcb
  have a_0 : Bk ((w.alloc (.cells #[.int .u8 (ka), .bool (ba), .int .i64 (na), .string (sa)] 24)).alloc (.cells #[.int .u8 (kb), .bool (bb), .int .i64 (nb), .string (sb)] 24)) w.heap.size 24 #[.int .u8 (ka), .bool (ba), .int .i64 (na), .string (sa)] := (Bk.new _ _ _).alloc _
  have b_0 : Bk ((w.alloc (.cells #[.int .u8 (ka), .bool (ba), .int .i64 (na), .string (sa)] 24)).alloc (.cells #[.int .u8 (kb), .bool (bb), .int .i64 (nb), .string (sb)] 24)) (w.heap.size + 1) 24 #[.int .u8 (kb), .bool (bb), .int .i64 (nb), .string (sb)] := Bk.at (by simp)
  have F0 : Ext w ((w.alloc (.cells #[.int .u8 (ka), .bool (ba), .int .i64 (na), .string (sa)] 24)).alloc (.cells #[.int .u8 (kb), .bool (bb), .int .i64 (nb), .string (sb)] 24)) := ((Ext.refl w).alloc _).alloc _
  have m1 : True := trivial
  go_enter Tryd.func11, Tryd.ntmps11
  go_wp2_with (first
    | (have z := m1; clear z m1; go_at_call 15; refine (check_at _ _ _ _ _ HCA ga (G.ext F0)).mono ?_; rintro e w1 ⟨rfl, x1⟩; have a_1 := a_0.ext x1; have b_1 := b_0.ext x1; have F1 : Ext w w1 := (F0.trans x1); clear x1; have a_10 : w1.cell? ⟨w.heap.size, 0, none⟩ = some (.int .u8 (ka)) := a_1.cell 0; have a_11 : w1.cell? ⟨w.heap.size, 1, none⟩ = some (.bool (ba)) := a_1.cell 1; have a_12 : w1.cell? ⟨w.heap.size, 2, none⟩ = some (.int .i64 (na)) := a_1.cell 2; have a_13 : w1.cell? ⟨w.heap.size, 3, none⟩ = some (.string (sa)) := a_1.cell 3; have b_10 : w1.cell? ⟨w.heap.size + 1, 0, none⟩ = some (.int .u8 (kb)) := b_1.cell 0; have b_11 : w1.cell? ⟨w.heap.size + 1, 1, none⟩ = some (.bool (bb)) := b_1.cell 1; have b_12 : w1.cell? ⟨w.heap.size + 1, 2, none⟩ = some (.int .i64 (nb)) := b_1.cell 2; have b_13 : w1.cell? ⟨w.heap.size + 1, 3, none⟩ = some (.string (sb)) := b_1.cell 3; have m2 : True := trivial)
    | (have z := m2; clear z m2; go_at_call 15; refine (check_at _ _ _ _ _ HCB gb (G.ext F1)).mono ?_; rintro e w2 ⟨rfl, x2⟩; have a_2 := a_1.ext x2; have b_2 := b_1.ext x2; have F2 : Ext w w2 := (F1.trans x2); clear x2; have a_20 : w2.cell? ⟨w.heap.size, 0, none⟩ = some (.int .u8 (ka)) := a_2.cell 0; have a_21 : w2.cell? ⟨w.heap.size, 1, none⟩ = some (.bool (ba)) := a_2.cell 1; have a_22 : w2.cell? ⟨w.heap.size, 2, none⟩ = some (.int .i64 (na)) := a_2.cell 2; have a_23 : w2.cell? ⟨w.heap.size, 3, none⟩ = some (.string (sa)) := a_2.cell 3; have b_20 : w2.cell? ⟨w.heap.size + 1, 0, none⟩ = some (.int .u8 (kb)) := b_2.cell 0; have b_21 : w2.cell? ⟨w.heap.size + 1, 1, none⟩ = some (.bool (bb)) := b_2.cell 1; have b_22 : w2.cell? ⟨w.heap.size + 1, 2, none⟩ = some (.int .i64 (nb)) := b_2.cell 2; have b_23 : w2.cell? ⟨w.heap.size + 1, 3, none⟩ = some (.string (sb)) := b_2.cell 3; have m3 : True := trivial)
    | (have z := m3; clear z m3; go_at_call 16; refine (known_true _ (G.ext F2)).mono ?_; rintro e w3 ⟨rfl, x3⟩; have a_3 := a_2.ext x3; have b_3 := b_2.ext x3; have F3 : Ext w w3 := (F2.trans x3); clear x3; have m4 : True := trivial)
    | fail)
  go_ret
  exact ⟨rfl, F3⟩
set_option maxRecDepth 100000 in
set_option maxHeartbeats 2000000 in
theorem sides_n (na nb : Int) (ba bb : Bool) (sa sb : ByteArray) (w : World) (ga : sa.size ≤ 9223372036854775807) (gb : sb.size ≤ 9223372036854775807) (G : Good w) (hca : checkT 1 ba na sa = 0) (hcb : checkT 1 bb nb sb = 0) :
    Calls Tryd.prog 11 #[.agg #[.int .u8 (1), .bool (ba), .int .i64 (na), .string (sa)], .agg #[.int .u8 (1), .bool (bb), .int .i64 (nb), .string (sb)]] w fun e w' => e = .returned (.bool true) ∧ Ext w w' := by
  have HCA := Lib.hid hca
  clear hca
  have HCB := Lib.hid hcb
  clear hcb
  have a_0 : Bk ((w.alloc (.cells #[.int .u8 (1), .bool (ba), .int .i64 (na), .string (sa)] 24)).alloc (.cells #[.int .u8 (1), .bool (bb), .int .i64 (nb), .string (sb)] 24)) w.heap.size 24 #[.int .u8 (1), .bool (ba), .int .i64 (na), .string (sa)] := (Bk.new _ _ _).alloc _
  have b_0 : Bk ((w.alloc (.cells #[.int .u8 (1), .bool (ba), .int .i64 (na), .string (sa)] 24)).alloc (.cells #[.int .u8 (1), .bool (bb), .int .i64 (nb), .string (sb)] 24)) (w.heap.size + 1) 24 #[.int .u8 (1), .bool (bb), .int .i64 (nb), .string (sb)] := Bk.at (by simp)
  have F0 : Ext w ((w.alloc (.cells #[.int .u8 (1), .bool (ba), .int .i64 (na), .string (sa)] 24)).alloc (.cells #[.int .u8 (1), .bool (bb), .int .i64 (nb), .string (sb)] 24)) := ((Ext.refl w).alloc _).alloc _
  have m1 : True := trivial
  go_enter Tryd.func11, Tryd.ntmps11
  go_wp2_with (first
    | (have z := m1; clear z m1; go_at_call 15; refine (check_at _ _ _ _ _ HCA ga (G.ext F0)).mono ?_; rintro e w1 ⟨rfl, x1⟩; have a_1 := a_0.ext x1; have b_1 := b_0.ext x1; have F1 : Ext w w1 := (F0.trans x1); clear x1; have a_10 : w1.cell? ⟨w.heap.size, 0, none⟩ = some (.int .u8 (1)) := a_1.cell 0; have a_11 : w1.cell? ⟨w.heap.size, 1, none⟩ = some (.bool (ba)) := a_1.cell 1; have a_12 : w1.cell? ⟨w.heap.size, 2, none⟩ = some (.int .i64 (na)) := a_1.cell 2; have a_13 : w1.cell? ⟨w.heap.size, 3, none⟩ = some (.string (sa)) := a_1.cell 3; have b_10 : w1.cell? ⟨w.heap.size + 1, 0, none⟩ = some (.int .u8 (1)) := b_1.cell 0; have b_11 : w1.cell? ⟨w.heap.size + 1, 1, none⟩ = some (.bool (bb)) := b_1.cell 1; have b_12 : w1.cell? ⟨w.heap.size + 1, 2, none⟩ = some (.int .i64 (nb)) := b_1.cell 2; have b_13 : w1.cell? ⟨w.heap.size + 1, 3, none⟩ = some (.string (sb)) := b_1.cell 3; have m2 : True := trivial)
    | (have z := m2; clear z m2; go_at_call 15; refine (check_at _ _ _ _ _ HCB gb (G.ext F1)).mono ?_; rintro e w2 ⟨rfl, x2⟩; have a_2 := a_1.ext x2; have b_2 := b_1.ext x2; have F2 : Ext w w2 := (F1.trans x2); clear x2; have a_20 : w2.cell? ⟨w.heap.size, 0, none⟩ = some (.int .u8 (1)) := a_2.cell 0; have a_21 : w2.cell? ⟨w.heap.size, 1, none⟩ = some (.bool (ba)) := a_2.cell 1; have a_22 : w2.cell? ⟨w.heap.size, 2, none⟩ = some (.int .i64 (na)) := a_2.cell 2; have a_23 : w2.cell? ⟨w.heap.size, 3, none⟩ = some (.string (sa)) := a_2.cell 3; have b_20 : w2.cell? ⟨w.heap.size + 1, 0, none⟩ = some (.int .u8 (1)) := b_2.cell 0; have b_21 : w2.cell? ⟨w.heap.size + 1, 1, none⟩ = some (.bool (bb)) := b_2.cell 1; have b_22 : w2.cell? ⟨w.heap.size + 1, 2, none⟩ = some (.int .i64 (nb)) := b_2.cell 2; have b_23 : w2.cell? ⟨w.heap.size + 1, 3, none⟩ = some (.string (sb)) := b_2.cell 3; have m3 : True := trivial)
    | (have z := m3; clear z m3; go_at_call 16; refine (known_true _ (G.ext F2)).mono ?_; rintro e w3 ⟨rfl, x3⟩; have a_3 := a_2.ext x3; have b_3 := b_2.ext x3; have F3 : Ext w w3 := (F2.trans x3); clear x3; have m4 : True := trivial)
    | fail)
  go_ret
  exact ⟨rfl, F3⟩
set_option maxRecDepth 100000 in
set_option maxHeartbeats 2000000 in
theorem sides_lt (ka na nb : Int) (ba bb : Bool) (sa sb : ByteArray) (w : World) (ga : sa.size ≤ 9223372036854775807) (gb : sb.size ≤ 9223372036854775807) (G : Good w) (hca : checkT ka ba na sa = 0) (hcb : checkT ka bb nb sb = 0) (l1 : (ka == 1) = false) (hc : cmpD ⟨ka, ba, na, sa⟩ ⟨ka, bb, nb, sb⟩ = -1) :
    Calls Tryd.prog 11 #[.agg #[.int .u8 (ka), .bool (ba), .int .i64 (na), .string (sa)], .agg #[.int .u8 (ka), .bool (bb), .int .i64 (nb), .string (sb)]] w fun e w' => e = .returned (.bool true) ∧ Ext w w' := by
  have H0 : Hid (compareR 11 ⟨ka, ba, na, sa⟩ ⟨ka, bb, nb, sb⟩ = (⟨2, false, 0, ⟨#[]⟩⟩, 0)) := Lib.hid (by unfold compareR; rw [if_pos ⟨by omega, hca, hcb⟩, if_neg (by simpa using l1), if_pos rfl, hc]; rfl)
  have H1 : Hid (compareR 12 ⟨ka, ba, na, sa⟩ ⟨ka, bb, nb, sb⟩ = (⟨2, true, 0, ⟨#[]⟩⟩, 0)) := Lib.hid (by unfold compareR; rw [if_pos ⟨by omega, hca, hcb⟩, if_neg (by simpa using l1), if_pos rfl, hc]; rfl)
  have H2 : Hid (compareR 13 ⟨ka, ba, na, sa⟩ ⟨ka, bb, nb, sb⟩ = (⟨2, true, 0, ⟨#[]⟩⟩, 0)) := Lib.hid (by unfold compareR; rw [if_pos ⟨by omega, hca, hcb⟩, if_neg (by simpa using l1), if_pos rfl, hc]; rfl)
  have H3 : Hid (compareR 14 ⟨ka, ba, na, sa⟩ ⟨ka, bb, nb, sb⟩ = (⟨2, true, 0, ⟨#[]⟩⟩, 0)) := Lib.hid (by unfold compareR; rw [if_pos ⟨by omega, hca, hcb⟩, if_neg (by simpa using l1), if_pos rfl, hc]; rfl)
  have H4 : Hid (compareR 15 ⟨ka, ba, na, sa⟩ ⟨ka, bb, nb, sb⟩ = (⟨2, false, 0, ⟨#[]⟩⟩, 0)) := Lib.hid (by unfold compareR; rw [if_pos ⟨by omega, hca, hcb⟩, if_neg (by simpa using l1), if_pos rfl, hc]; rfl)
  have H5 : Hid (compareR 16 ⟨ka, ba, na, sa⟩ ⟨ka, bb, nb, sb⟩ = (⟨2, false, 0, ⟨#[]⟩⟩, 0)) := Lib.hid (by unfold compareR; rw [if_pos ⟨by omega, hca, hcb⟩, if_neg (by simpa using l1), if_pos rfl, hc]; rfl)
  have HCA := Lib.hid hca
  clear hca
  have HCB := Lib.hid hcb
  clear hcb
  have HC := Lib.hid hc
  clear hc
  have l3 : (ka != ka) = false := by simp
  have a_0 : Bk ((w.alloc (.cells #[.int .u8 (ka), .bool (ba), .int .i64 (na), .string (sa)] 24)).alloc (.cells #[.int .u8 (ka), .bool (bb), .int .i64 (nb), .string (sb)] 24)) w.heap.size 24 #[.int .u8 (ka), .bool (ba), .int .i64 (na), .string (sa)] := (Bk.new _ _ _).alloc _
  have b_0 : Bk ((w.alloc (.cells #[.int .u8 (ka), .bool (ba), .int .i64 (na), .string (sa)] 24)).alloc (.cells #[.int .u8 (ka), .bool (bb), .int .i64 (nb), .string (sb)] 24)) (w.heap.size + 1) 24 #[.int .u8 (ka), .bool (bb), .int .i64 (nb), .string (sb)] := Bk.at (by simp)
  have F0 : Ext w ((w.alloc (.cells #[.int .u8 (ka), .bool (ba), .int .i64 (na), .string (sa)] 24)).alloc (.cells #[.int .u8 (ka), .bool (bb), .int .i64 (nb), .string (sb)] 24)) := ((Ext.refl w).alloc _).alloc _
  have m1 : True := trivial
  go_enter Tryd.func11, Tryd.ntmps11
  go_wp2_with (first
    | (have z := m1; clear z m1; go_at_call 15; refine (check_at _ _ _ _ _ HCA ga (G.ext F0)).mono ?_; rintro e w1 ⟨rfl, x1⟩; have a_1 := a_0.ext x1; have b_1 := b_0.ext x1; have F1 : Ext w w1 := (F0.trans x1); clear x1; have a_10 : w1.cell? ⟨w.heap.size, 0, none⟩ = some (.int .u8 (ka)) := a_1.cell 0; have a_11 : w1.cell? ⟨w.heap.size, 1, none⟩ = some (.bool (ba)) := a_1.cell 1; have a_12 : w1.cell? ⟨w.heap.size, 2, none⟩ = some (.int .i64 (na)) := a_1.cell 2; have a_13 : w1.cell? ⟨w.heap.size, 3, none⟩ = some (.string (sa)) := a_1.cell 3; have b_10 : w1.cell? ⟨w.heap.size + 1, 0, none⟩ = some (.int .u8 (ka)) := b_1.cell 0; have b_11 : w1.cell? ⟨w.heap.size + 1, 1, none⟩ = some (.bool (bb)) := b_1.cell 1; have b_12 : w1.cell? ⟨w.heap.size + 1, 2, none⟩ = some (.int .i64 (nb)) := b_1.cell 2; have b_13 : w1.cell? ⟨w.heap.size + 1, 3, none⟩ = some (.string (sb)) := b_1.cell 3; have m2 : True := trivial)
    | (have z := m2; clear z m2; go_at_call 15; refine (check_at _ _ _ _ _ HCB gb (G.ext F1)).mono ?_; rintro e w2 ⟨rfl, x2⟩; have ap2_0 : w2.cell? ⟨w.heap.size, 0, none⟩ = some (.int .u8 (ka)) := (a_1.ext x2).cell 0; have ap2_1 : w2.cell? ⟨w.heap.size, 1, none⟩ = some (.bool (ba)) := (a_1.ext x2).cell 1; have ap2_2 : w2.cell? ⟨w.heap.size, 2, none⟩ = some (.int .i64 (na)) := (a_1.ext x2).cell 2; have ap2_3 : w2.cell? ⟨w.heap.size, 3, none⟩ = some (.string (sa)) := (a_1.ext x2).cell 3; have bp2_0 : w2.cell? ⟨w.heap.size + 1, 0, none⟩ = some (.int .u8 (ka)) := (b_1.ext x2).cell 0; have bp2_1 : w2.cell? ⟨w.heap.size + 1, 1, none⟩ = some (.bool (bb)) := (b_1.ext x2).cell 1; have bp2_2 : w2.cell? ⟨w.heap.size + 1, 2, none⟩ = some (.int .i64 (nb)) := (b_1.ext x2).cell 2; have bp2_3 : w2.cell? ⟨w.heap.size + 1, 3, none⟩ = some (.string (sb)) := (b_1.ext x2).cell 3; have a_2 := (a_1.ext x2).alloc (.cells #[.bool false, .bool false, .bool false, .bool false, .bool false, .bool false] 47); have b_2 := (b_1.ext x2).alloc (.cells #[.bool false, .bool false, .bool false, .bool false, .bool false, .bool false] 47); have F2 : Ext w (w2.alloc (.cells #[.bool false, .bool false, .bool false, .bool false, .bool false, .bool false] 47)) := (F1.trans x2).alloc _; have l_2 := Bk.new w2 47 #[.bool false, .bool false, .bool false, .bool false, .bool false, .bool false]; have gl : w.heap.size ≤ w2.heap.size := (F1.trans x2).size; have gl2 : w.heap.size + 1 < w2.heap.size := (b_1.ext x2).lt; clear x2; have a_20 : (w2.alloc (.cells #[.bool false, .bool false, .bool false, .bool false, .bool false, .bool false] 47)).cell? ⟨w.heap.size, 0, none⟩ = some (.int .u8 (ka)) := a_2.cell 0; have a_21 : (w2.alloc (.cells #[.bool false, .bool false, .bool false, .bool false, .bool false, .bool false] 47)).cell? ⟨w.heap.size, 1, none⟩ = some (.bool (ba)) := a_2.cell 1; have a_22 : (w2.alloc (.cells #[.bool false, .bool false, .bool false, .bool false, .bool false, .bool false] 47)).cell? ⟨w.heap.size, 2, none⟩ = some (.int .i64 (na)) := a_2.cell 2; have a_23 : (w2.alloc (.cells #[.bool false, .bool false, .bool false, .bool false, .bool false, .bool false] 47)).cell? ⟨w.heap.size, 3, none⟩ = some (.string (sa)) := a_2.cell 3; have b_20 : (w2.alloc (.cells #[.bool false, .bool false, .bool false, .bool false, .bool false, .bool false] 47)).cell? ⟨w.heap.size + 1, 0, none⟩ = some (.int .u8 (ka)) := b_2.cell 0; have b_21 : (w2.alloc (.cells #[.bool false, .bool false, .bool false, .bool false, .bool false, .bool false] 47)).cell? ⟨w.heap.size + 1, 1, none⟩ = some (.bool (bb)) := b_2.cell 1; have b_22 : (w2.alloc (.cells #[.bool false, .bool false, .bool false, .bool false, .bool false, .bool false] 47)).cell? ⟨w.heap.size + 1, 2, none⟩ = some (.int .i64 (nb)) := b_2.cell 2; have b_23 : (w2.alloc (.cells #[.bool false, .bool false, .bool false, .bool false, .bool false, .bool false] 47)).cell? ⟨w.heap.size + 1, 3, none⟩ = some (.string (sb)) := b_2.cell 3; have m3 : True := trivial)
    | fail)
  refine wp_loop_rounds 7 ?_
  rw [rounds_succ]
  go_wp2_with fail
  have z := m3; clear z m3; go_at_call 45
  refine (compare_at _ _ _ _ _ _ _ _ _ H0 ga gb (G.ext F2)).mono ?_
  rintro e w3 ⟨rfl, x3⟩
  have a_3 : Bk ((w3.alloc (.cells #[.int .u8 (2), .bool (false), .int .i64 (0), .string (⟨#[]⟩)] 24)).setCell ⟨w2.heap.size, 0, none⟩ (.bool false)) (w.heap.size) 24 #[.int .u8 (ka), .bool (ba), .int .i64 (na), .string (sa)] := Bk.far (p := ⟨w2.heap.size, 0, none⟩) ((a_2.ext x3).alloc _) (by show w.heap.size ≠ w2.heap.size; omega) _
  have b_3 : Bk ((w3.alloc (.cells #[.int .u8 (2), .bool (false), .int .i64 (0), .string (⟨#[]⟩)] 24)).setCell ⟨w2.heap.size, 0, none⟩ (.bool false)) (w.heap.size + 1) 24 #[.int .u8 (ka), .bool (bb), .int .i64 (nb), .string (sb)] := Bk.far (p := ⟨w2.heap.size, 0, none⟩) ((b_2.ext x3).alloc _) (by show w.heap.size + 1 ≠ w2.heap.size; omega) _
  have l_3 : Bk ((w3.alloc (.cells #[.int .u8 (2), .bool (false), .int .i64 (0), .string (⟨#[]⟩)] 24)).setCell ⟨w2.heap.size, 0, none⟩ (.bool false)) w2.heap.size 47 #[.bool false, .bool false, .bool false, .bool false, .bool false, .bool false] := ((l_2.ext x3).alloc _).set 0 (.bool false)
  have lf3 : (w3.alloc (.cells #[.int .u8 (2), .bool (false), .int .i64 (0), .string (⟨#[]⟩)] 24)).frozen? ⟨w2.heap.size, 0, none⟩ = false := ((l_2.ext x3).alloc _).free 0
  have lc3 : (w3.alloc (.cells #[.int .u8 (2), .bool (false), .int .i64 (0), .string (⟨#[]⟩)] 24)).cell? ⟨w2.heap.size, 0, none⟩ = some (.bool false) := ((l_2.ext x3).alloc _).cell 0
  have F3 : Ext w ((w3.alloc (.cells #[.int .u8 (2), .bool (false), .int .i64 (0), .string (⟨#[]⟩)] 24)).setCell ⟨w2.heap.size, 0, none⟩ (.bool false)) := Ext.set (p := ⟨w2.heap.size, 0, none⟩) ((F2.trans x3).alloc _) (by show w.heap.size ≤ w2.heap.size; exact gl) _
  clear x3
  have a_30 : ((w3.alloc (.cells #[.int .u8 (2), .bool (false), .int .i64 (0), .string (⟨#[]⟩)] 24)).setCell ⟨w2.heap.size, 0, none⟩ (.bool false)).cell? ⟨w.heap.size, 0, none⟩ = some (.int .u8 (ka)) := a_3.cell 0
  have a_31 : ((w3.alloc (.cells #[.int .u8 (2), .bool (false), .int .i64 (0), .string (⟨#[]⟩)] 24)).setCell ⟨w2.heap.size, 0, none⟩ (.bool false)).cell? ⟨w.heap.size, 1, none⟩ = some (.bool (ba)) := a_3.cell 1
  have a_32 : ((w3.alloc (.cells #[.int .u8 (2), .bool (false), .int .i64 (0), .string (⟨#[]⟩)] 24)).setCell ⟨w2.heap.size, 0, none⟩ (.bool false)).cell? ⟨w.heap.size, 2, none⟩ = some (.int .i64 (na)) := a_3.cell 2
  have a_33 : ((w3.alloc (.cells #[.int .u8 (2), .bool (false), .int .i64 (0), .string (⟨#[]⟩)] 24)).setCell ⟨w2.heap.size, 0, none⟩ (.bool false)).cell? ⟨w.heap.size, 3, none⟩ = some (.string (sa)) := a_3.cell 3
  have b_30 : ((w3.alloc (.cells #[.int .u8 (2), .bool (false), .int .i64 (0), .string (⟨#[]⟩)] 24)).setCell ⟨w2.heap.size, 0, none⟩ (.bool false)).cell? ⟨w.heap.size + 1, 0, none⟩ = some (.int .u8 (ka)) := b_3.cell 0
  have b_31 : ((w3.alloc (.cells #[.int .u8 (2), .bool (false), .int .i64 (0), .string (⟨#[]⟩)] 24)).setCell ⟨w2.heap.size, 0, none⟩ (.bool false)).cell? ⟨w.heap.size + 1, 1, none⟩ = some (.bool (bb)) := b_3.cell 1
  have b_32 : ((w3.alloc (.cells #[.int .u8 (2), .bool (false), .int .i64 (0), .string (⟨#[]⟩)] 24)).setCell ⟨w2.heap.size, 0, none⟩ (.bool false)).cell? ⟨w.heap.size + 1, 2, none⟩ = some (.int .i64 (nb)) := b_3.cell 2
  have b_33 : ((w3.alloc (.cells #[.int .u8 (2), .bool (false), .int .i64 (0), .string (⟨#[]⟩)] 24)).setCell ⟨w2.heap.size, 0, none⟩ (.bool false)).cell? ⟨w.heap.size + 1, 3, none⟩ = some (.string (sb)) := b_3.cell 3
  have m4 : True := trivial
  go_wp2_with fail
  rw [rounds_succ]
  go_wp2_with fail
  have z := m4; clear z m4; go_at_call 45
  refine (compare_at _ _ _ _ _ _ _ _ _ H1 ga gb (G.ext F3)).mono ?_
  rintro e w4 ⟨rfl, x4⟩
  have a_4 : Bk ((w4.alloc (.cells #[.int .u8 (2), .bool (true), .int .i64 (0), .string (⟨#[]⟩)] 24)).setCell ⟨w2.heap.size, 1, none⟩ (.bool true)) (w.heap.size) 24 #[.int .u8 (ka), .bool (ba), .int .i64 (na), .string (sa)] := Bk.far (p := ⟨w2.heap.size, 1, none⟩) ((a_3.ext x4).alloc _) (by show w.heap.size ≠ w2.heap.size; omega) _
  have b_4 : Bk ((w4.alloc (.cells #[.int .u8 (2), .bool (true), .int .i64 (0), .string (⟨#[]⟩)] 24)).setCell ⟨w2.heap.size, 1, none⟩ (.bool true)) (w.heap.size + 1) 24 #[.int .u8 (ka), .bool (bb), .int .i64 (nb), .string (sb)] := Bk.far (p := ⟨w2.heap.size, 1, none⟩) ((b_3.ext x4).alloc _) (by show w.heap.size + 1 ≠ w2.heap.size; omega) _
  have l_4 : Bk ((w4.alloc (.cells #[.int .u8 (2), .bool (true), .int .i64 (0), .string (⟨#[]⟩)] 24)).setCell ⟨w2.heap.size, 1, none⟩ (.bool true)) w2.heap.size 47 #[.bool false, .bool true, .bool false, .bool false, .bool false, .bool false] := ((l_3.ext x4).alloc _).set 1 (.bool true)
  have lf4 : (w4.alloc (.cells #[.int .u8 (2), .bool (true), .int .i64 (0), .string (⟨#[]⟩)] 24)).frozen? ⟨w2.heap.size, 1, none⟩ = false := ((l_3.ext x4).alloc _).free 1
  have lc4 : (w4.alloc (.cells #[.int .u8 (2), .bool (true), .int .i64 (0), .string (⟨#[]⟩)] 24)).cell? ⟨w2.heap.size, 1, none⟩ = some (.bool false) := ((l_3.ext x4).alloc _).cell 1
  have F4 : Ext w ((w4.alloc (.cells #[.int .u8 (2), .bool (true), .int .i64 (0), .string (⟨#[]⟩)] 24)).setCell ⟨w2.heap.size, 1, none⟩ (.bool true)) := Ext.set (p := ⟨w2.heap.size, 1, none⟩) ((F3.trans x4).alloc _) (by show w.heap.size ≤ w2.heap.size; exact gl) _
  clear x4
  have a_40 : ((w4.alloc (.cells #[.int .u8 (2), .bool (true), .int .i64 (0), .string (⟨#[]⟩)] 24)).setCell ⟨w2.heap.size, 1, none⟩ (.bool true)).cell? ⟨w.heap.size, 0, none⟩ = some (.int .u8 (ka)) := a_4.cell 0
  have a_41 : ((w4.alloc (.cells #[.int .u8 (2), .bool (true), .int .i64 (0), .string (⟨#[]⟩)] 24)).setCell ⟨w2.heap.size, 1, none⟩ (.bool true)).cell? ⟨w.heap.size, 1, none⟩ = some (.bool (ba)) := a_4.cell 1
  have a_42 : ((w4.alloc (.cells #[.int .u8 (2), .bool (true), .int .i64 (0), .string (⟨#[]⟩)] 24)).setCell ⟨w2.heap.size, 1, none⟩ (.bool true)).cell? ⟨w.heap.size, 2, none⟩ = some (.int .i64 (na)) := a_4.cell 2
  have a_43 : ((w4.alloc (.cells #[.int .u8 (2), .bool (true), .int .i64 (0), .string (⟨#[]⟩)] 24)).setCell ⟨w2.heap.size, 1, none⟩ (.bool true)).cell? ⟨w.heap.size, 3, none⟩ = some (.string (sa)) := a_4.cell 3
  have b_40 : ((w4.alloc (.cells #[.int .u8 (2), .bool (true), .int .i64 (0), .string (⟨#[]⟩)] 24)).setCell ⟨w2.heap.size, 1, none⟩ (.bool true)).cell? ⟨w.heap.size + 1, 0, none⟩ = some (.int .u8 (ka)) := b_4.cell 0
  have b_41 : ((w4.alloc (.cells #[.int .u8 (2), .bool (true), .int .i64 (0), .string (⟨#[]⟩)] 24)).setCell ⟨w2.heap.size, 1, none⟩ (.bool true)).cell? ⟨w.heap.size + 1, 1, none⟩ = some (.bool (bb)) := b_4.cell 1
  have b_42 : ((w4.alloc (.cells #[.int .u8 (2), .bool (true), .int .i64 (0), .string (⟨#[]⟩)] 24)).setCell ⟨w2.heap.size, 1, none⟩ (.bool true)).cell? ⟨w.heap.size + 1, 2, none⟩ = some (.int .i64 (nb)) := b_4.cell 2
  have b_43 : ((w4.alloc (.cells #[.int .u8 (2), .bool (true), .int .i64 (0), .string (⟨#[]⟩)] 24)).setCell ⟨w2.heap.size, 1, none⟩ (.bool true)).cell? ⟨w.heap.size + 1, 3, none⟩ = some (.string (sb)) := b_4.cell 3
  have m5 : True := trivial
  go_wp2_with fail
  rw [rounds_succ]
  go_wp2_with fail
  have z := m5; clear z m5; go_at_call 45
  refine (compare_at _ _ _ _ _ _ _ _ _ H2 ga gb (G.ext F4)).mono ?_
  rintro e w5 ⟨rfl, x5⟩
  have a_5 : Bk ((w5.alloc (.cells #[.int .u8 (2), .bool (true), .int .i64 (0), .string (⟨#[]⟩)] 24)).setCell ⟨w2.heap.size, 2, none⟩ (.bool true)) (w.heap.size) 24 #[.int .u8 (ka), .bool (ba), .int .i64 (na), .string (sa)] := Bk.far (p := ⟨w2.heap.size, 2, none⟩) ((a_4.ext x5).alloc _) (by show w.heap.size ≠ w2.heap.size; omega) _
  have b_5 : Bk ((w5.alloc (.cells #[.int .u8 (2), .bool (true), .int .i64 (0), .string (⟨#[]⟩)] 24)).setCell ⟨w2.heap.size, 2, none⟩ (.bool true)) (w.heap.size + 1) 24 #[.int .u8 (ka), .bool (bb), .int .i64 (nb), .string (sb)] := Bk.far (p := ⟨w2.heap.size, 2, none⟩) ((b_4.ext x5).alloc _) (by show w.heap.size + 1 ≠ w2.heap.size; omega) _
  have l_5 : Bk ((w5.alloc (.cells #[.int .u8 (2), .bool (true), .int .i64 (0), .string (⟨#[]⟩)] 24)).setCell ⟨w2.heap.size, 2, none⟩ (.bool true)) w2.heap.size 47 #[.bool false, .bool true, .bool true, .bool false, .bool false, .bool false] := ((l_4.ext x5).alloc _).set 2 (.bool true)
  have lf5 : (w5.alloc (.cells #[.int .u8 (2), .bool (true), .int .i64 (0), .string (⟨#[]⟩)] 24)).frozen? ⟨w2.heap.size, 2, none⟩ = false := ((l_4.ext x5).alloc _).free 2
  have lc5 : (w5.alloc (.cells #[.int .u8 (2), .bool (true), .int .i64 (0), .string (⟨#[]⟩)] 24)).cell? ⟨w2.heap.size, 2, none⟩ = some (.bool false) := ((l_4.ext x5).alloc _).cell 2
  have F5 : Ext w ((w5.alloc (.cells #[.int .u8 (2), .bool (true), .int .i64 (0), .string (⟨#[]⟩)] 24)).setCell ⟨w2.heap.size, 2, none⟩ (.bool true)) := Ext.set (p := ⟨w2.heap.size, 2, none⟩) ((F4.trans x5).alloc _) (by show w.heap.size ≤ w2.heap.size; exact gl) _
  clear x5
  have a_50 : ((w5.alloc (.cells #[.int .u8 (2), .bool (true), .int .i64 (0), .string (⟨#[]⟩)] 24)).setCell ⟨w2.heap.size, 2, none⟩ (.bool true)).cell? ⟨w.heap.size, 0, none⟩ = some (.int .u8 (ka)) := a_5.cell 0
  have a_51 : ((w5.alloc (.cells #[.int .u8 (2), .bool (true), .int .i64 (0), .string (⟨#[]⟩)] 24)).setCell ⟨w2.heap.size, 2, none⟩ (.bool true)).cell? ⟨w.heap.size, 1, none⟩ = some (.bool (ba)) := a_5.cell 1
  have a_52 : ((w5.alloc (.cells #[.int .u8 (2), .bool (true), .int .i64 (0), .string (⟨#[]⟩)] 24)).setCell ⟨w2.heap.size, 2, none⟩ (.bool true)).cell? ⟨w.heap.size, 2, none⟩ = some (.int .i64 (na)) := a_5.cell 2
  have a_53 : ((w5.alloc (.cells #[.int .u8 (2), .bool (true), .int .i64 (0), .string (⟨#[]⟩)] 24)).setCell ⟨w2.heap.size, 2, none⟩ (.bool true)).cell? ⟨w.heap.size, 3, none⟩ = some (.string (sa)) := a_5.cell 3
  have b_50 : ((w5.alloc (.cells #[.int .u8 (2), .bool (true), .int .i64 (0), .string (⟨#[]⟩)] 24)).setCell ⟨w2.heap.size, 2, none⟩ (.bool true)).cell? ⟨w.heap.size + 1, 0, none⟩ = some (.int .u8 (ka)) := b_5.cell 0
  have b_51 : ((w5.alloc (.cells #[.int .u8 (2), .bool (true), .int .i64 (0), .string (⟨#[]⟩)] 24)).setCell ⟨w2.heap.size, 2, none⟩ (.bool true)).cell? ⟨w.heap.size + 1, 1, none⟩ = some (.bool (bb)) := b_5.cell 1
  have b_52 : ((w5.alloc (.cells #[.int .u8 (2), .bool (true), .int .i64 (0), .string (⟨#[]⟩)] 24)).setCell ⟨w2.heap.size, 2, none⟩ (.bool true)).cell? ⟨w.heap.size + 1, 2, none⟩ = some (.int .i64 (nb)) := b_5.cell 2
  have b_53 : ((w5.alloc (.cells #[.int .u8 (2), .bool (true), .int .i64 (0), .string (⟨#[]⟩)] 24)).setCell ⟨w2.heap.size, 2, none⟩ (.bool true)).cell? ⟨w.heap.size + 1, 3, none⟩ = some (.string (sb)) := b_5.cell 3
  have m6 : True := trivial
  go_wp2_with fail
  rw [rounds_succ]
  go_wp2_with fail
  have z := m6; clear z m6; go_at_call 45
  refine (compare_at _ _ _ _ _ _ _ _ _ H3 ga gb (G.ext F5)).mono ?_
  rintro e w6 ⟨rfl, x6⟩
  have a_6 : Bk ((w6.alloc (.cells #[.int .u8 (2), .bool (true), .int .i64 (0), .string (⟨#[]⟩)] 24)).setCell ⟨w2.heap.size, 3, none⟩ (.bool true)) (w.heap.size) 24 #[.int .u8 (ka), .bool (ba), .int .i64 (na), .string (sa)] := Bk.far (p := ⟨w2.heap.size, 3, none⟩) ((a_5.ext x6).alloc _) (by show w.heap.size ≠ w2.heap.size; omega) _
  have b_6 : Bk ((w6.alloc (.cells #[.int .u8 (2), .bool (true), .int .i64 (0), .string (⟨#[]⟩)] 24)).setCell ⟨w2.heap.size, 3, none⟩ (.bool true)) (w.heap.size + 1) 24 #[.int .u8 (ka), .bool (bb), .int .i64 (nb), .string (sb)] := Bk.far (p := ⟨w2.heap.size, 3, none⟩) ((b_5.ext x6).alloc _) (by show w.heap.size + 1 ≠ w2.heap.size; omega) _
  have l_6 : Bk ((w6.alloc (.cells #[.int .u8 (2), .bool (true), .int .i64 (0), .string (⟨#[]⟩)] 24)).setCell ⟨w2.heap.size, 3, none⟩ (.bool true)) w2.heap.size 47 #[.bool false, .bool true, .bool true, .bool true, .bool false, .bool false] := ((l_5.ext x6).alloc _).set 3 (.bool true)
  have lf6 : (w6.alloc (.cells #[.int .u8 (2), .bool (true), .int .i64 (0), .string (⟨#[]⟩)] 24)).frozen? ⟨w2.heap.size, 3, none⟩ = false := ((l_5.ext x6).alloc _).free 3
  have lc6 : (w6.alloc (.cells #[.int .u8 (2), .bool (true), .int .i64 (0), .string (⟨#[]⟩)] 24)).cell? ⟨w2.heap.size, 3, none⟩ = some (.bool false) := ((l_5.ext x6).alloc _).cell 3
  have F6 : Ext w ((w6.alloc (.cells #[.int .u8 (2), .bool (true), .int .i64 (0), .string (⟨#[]⟩)] 24)).setCell ⟨w2.heap.size, 3, none⟩ (.bool true)) := Ext.set (p := ⟨w2.heap.size, 3, none⟩) ((F5.trans x6).alloc _) (by show w.heap.size ≤ w2.heap.size; exact gl) _
  clear x6
  have a_60 : ((w6.alloc (.cells #[.int .u8 (2), .bool (true), .int .i64 (0), .string (⟨#[]⟩)] 24)).setCell ⟨w2.heap.size, 3, none⟩ (.bool true)).cell? ⟨w.heap.size, 0, none⟩ = some (.int .u8 (ka)) := a_6.cell 0
  have a_61 : ((w6.alloc (.cells #[.int .u8 (2), .bool (true), .int .i64 (0), .string (⟨#[]⟩)] 24)).setCell ⟨w2.heap.size, 3, none⟩ (.bool true)).cell? ⟨w.heap.size, 1, none⟩ = some (.bool (ba)) := a_6.cell 1
  have a_62 : ((w6.alloc (.cells #[.int .u8 (2), .bool (true), .int .i64 (0), .string (⟨#[]⟩)] 24)).setCell ⟨w2.heap.size, 3, none⟩ (.bool true)).cell? ⟨w.heap.size, 2, none⟩ = some (.int .i64 (na)) := a_6.cell 2
  have a_63 : ((w6.alloc (.cells #[.int .u8 (2), .bool (true), .int .i64 (0), .string (⟨#[]⟩)] 24)).setCell ⟨w2.heap.size, 3, none⟩ (.bool true)).cell? ⟨w.heap.size, 3, none⟩ = some (.string (sa)) := a_6.cell 3
  have b_60 : ((w6.alloc (.cells #[.int .u8 (2), .bool (true), .int .i64 (0), .string (⟨#[]⟩)] 24)).setCell ⟨w2.heap.size, 3, none⟩ (.bool true)).cell? ⟨w.heap.size + 1, 0, none⟩ = some (.int .u8 (ka)) := b_6.cell 0
  have b_61 : ((w6.alloc (.cells #[.int .u8 (2), .bool (true), .int .i64 (0), .string (⟨#[]⟩)] 24)).setCell ⟨w2.heap.size, 3, none⟩ (.bool true)).cell? ⟨w.heap.size + 1, 1, none⟩ = some (.bool (bb)) := b_6.cell 1
  have b_62 : ((w6.alloc (.cells #[.int .u8 (2), .bool (true), .int .i64 (0), .string (⟨#[]⟩)] 24)).setCell ⟨w2.heap.size, 3, none⟩ (.bool true)).cell? ⟨w.heap.size + 1, 2, none⟩ = some (.int .i64 (nb)) := b_6.cell 2
  have b_63 : ((w6.alloc (.cells #[.int .u8 (2), .bool (true), .int .i64 (0), .string (⟨#[]⟩)] 24)).setCell ⟨w2.heap.size, 3, none⟩ (.bool true)).cell? ⟨w.heap.size + 1, 3, none⟩ = some (.string (sb)) := b_6.cell 3
  have m7 : True := trivial
  go_wp2_with fail
  rw [rounds_succ]
  go_wp2_with fail
  have z := m7; clear z m7; go_at_call 45
  refine (compare_at _ _ _ _ _ _ _ _ _ H4 ga gb (G.ext F6)).mono ?_
  rintro e w7 ⟨rfl, x7⟩
  have a_7 : Bk ((w7.alloc (.cells #[.int .u8 (2), .bool (false), .int .i64 (0), .string (⟨#[]⟩)] 24)).setCell ⟨w2.heap.size, 4, none⟩ (.bool false)) (w.heap.size) 24 #[.int .u8 (ka), .bool (ba), .int .i64 (na), .string (sa)] := Bk.far (p := ⟨w2.heap.size, 4, none⟩) ((a_6.ext x7).alloc _) (by show w.heap.size ≠ w2.heap.size; omega) _
  have b_7 : Bk ((w7.alloc (.cells #[.int .u8 (2), .bool (false), .int .i64 (0), .string (⟨#[]⟩)] 24)).setCell ⟨w2.heap.size, 4, none⟩ (.bool false)) (w.heap.size + 1) 24 #[.int .u8 (ka), .bool (bb), .int .i64 (nb), .string (sb)] := Bk.far (p := ⟨w2.heap.size, 4, none⟩) ((b_6.ext x7).alloc _) (by show w.heap.size + 1 ≠ w2.heap.size; omega) _
  have l_7 : Bk ((w7.alloc (.cells #[.int .u8 (2), .bool (false), .int .i64 (0), .string (⟨#[]⟩)] 24)).setCell ⟨w2.heap.size, 4, none⟩ (.bool false)) w2.heap.size 47 #[.bool false, .bool true, .bool true, .bool true, .bool false, .bool false] := ((l_6.ext x7).alloc _).set 4 (.bool false)
  have lf7 : (w7.alloc (.cells #[.int .u8 (2), .bool (false), .int .i64 (0), .string (⟨#[]⟩)] 24)).frozen? ⟨w2.heap.size, 4, none⟩ = false := ((l_6.ext x7).alloc _).free 4
  have lc7 : (w7.alloc (.cells #[.int .u8 (2), .bool (false), .int .i64 (0), .string (⟨#[]⟩)] 24)).cell? ⟨w2.heap.size, 4, none⟩ = some (.bool false) := ((l_6.ext x7).alloc _).cell 4
  have F7 : Ext w ((w7.alloc (.cells #[.int .u8 (2), .bool (false), .int .i64 (0), .string (⟨#[]⟩)] 24)).setCell ⟨w2.heap.size, 4, none⟩ (.bool false)) := Ext.set (p := ⟨w2.heap.size, 4, none⟩) ((F6.trans x7).alloc _) (by show w.heap.size ≤ w2.heap.size; exact gl) _
  clear x7
  have a_70 : ((w7.alloc (.cells #[.int .u8 (2), .bool (false), .int .i64 (0), .string (⟨#[]⟩)] 24)).setCell ⟨w2.heap.size, 4, none⟩ (.bool false)).cell? ⟨w.heap.size, 0, none⟩ = some (.int .u8 (ka)) := a_7.cell 0
  have a_71 : ((w7.alloc (.cells #[.int .u8 (2), .bool (false), .int .i64 (0), .string (⟨#[]⟩)] 24)).setCell ⟨w2.heap.size, 4, none⟩ (.bool false)).cell? ⟨w.heap.size, 1, none⟩ = some (.bool (ba)) := a_7.cell 1
  have a_72 : ((w7.alloc (.cells #[.int .u8 (2), .bool (false), .int .i64 (0), .string (⟨#[]⟩)] 24)).setCell ⟨w2.heap.size, 4, none⟩ (.bool false)).cell? ⟨w.heap.size, 2, none⟩ = some (.int .i64 (na)) := a_7.cell 2
  have a_73 : ((w7.alloc (.cells #[.int .u8 (2), .bool (false), .int .i64 (0), .string (⟨#[]⟩)] 24)).setCell ⟨w2.heap.size, 4, none⟩ (.bool false)).cell? ⟨w.heap.size, 3, none⟩ = some (.string (sa)) := a_7.cell 3
  have b_70 : ((w7.alloc (.cells #[.int .u8 (2), .bool (false), .int .i64 (0), .string (⟨#[]⟩)] 24)).setCell ⟨w2.heap.size, 4, none⟩ (.bool false)).cell? ⟨w.heap.size + 1, 0, none⟩ = some (.int .u8 (ka)) := b_7.cell 0
  have b_71 : ((w7.alloc (.cells #[.int .u8 (2), .bool (false), .int .i64 (0), .string (⟨#[]⟩)] 24)).setCell ⟨w2.heap.size, 4, none⟩ (.bool false)).cell? ⟨w.heap.size + 1, 1, none⟩ = some (.bool (bb)) := b_7.cell 1
  have b_72 : ((w7.alloc (.cells #[.int .u8 (2), .bool (false), .int .i64 (0), .string (⟨#[]⟩)] 24)).setCell ⟨w2.heap.size, 4, none⟩ (.bool false)).cell? ⟨w.heap.size + 1, 2, none⟩ = some (.int .i64 (nb)) := b_7.cell 2
  have b_73 : ((w7.alloc (.cells #[.int .u8 (2), .bool (false), .int .i64 (0), .string (⟨#[]⟩)] 24)).setCell ⟨w2.heap.size, 4, none⟩ (.bool false)).cell? ⟨w.heap.size + 1, 3, none⟩ = some (.string (sb)) := b_7.cell 3
  have m8 : True := trivial
  go_wp2_with fail
  rw [rounds_succ]
  go_wp2_with fail
  have z := m8; clear z m8; go_at_call 45
  refine (compare_at _ _ _ _ _ _ _ _ _ H5 ga gb (G.ext F7)).mono ?_
  rintro e w8 ⟨rfl, x8⟩
  have a_8 : Bk ((w8.alloc (.cells #[.int .u8 (2), .bool (false), .int .i64 (0), .string (⟨#[]⟩)] 24)).setCell ⟨w2.heap.size, 5, none⟩ (.bool false)) (w.heap.size) 24 #[.int .u8 (ka), .bool (ba), .int .i64 (na), .string (sa)] := Bk.far (p := ⟨w2.heap.size, 5, none⟩) ((a_7.ext x8).alloc _) (by show w.heap.size ≠ w2.heap.size; omega) _
  have b_8 : Bk ((w8.alloc (.cells #[.int .u8 (2), .bool (false), .int .i64 (0), .string (⟨#[]⟩)] 24)).setCell ⟨w2.heap.size, 5, none⟩ (.bool false)) (w.heap.size + 1) 24 #[.int .u8 (ka), .bool (bb), .int .i64 (nb), .string (sb)] := Bk.far (p := ⟨w2.heap.size, 5, none⟩) ((b_7.ext x8).alloc _) (by show w.heap.size + 1 ≠ w2.heap.size; omega) _
  have l_8 : Bk ((w8.alloc (.cells #[.int .u8 (2), .bool (false), .int .i64 (0), .string (⟨#[]⟩)] 24)).setCell ⟨w2.heap.size, 5, none⟩ (.bool false)) w2.heap.size 47 #[.bool false, .bool true, .bool true, .bool true, .bool false, .bool false] := ((l_7.ext x8).alloc _).set 5 (.bool false)
  have lf8 : (w8.alloc (.cells #[.int .u8 (2), .bool (false), .int .i64 (0), .string (⟨#[]⟩)] 24)).frozen? ⟨w2.heap.size, 5, none⟩ = false := ((l_7.ext x8).alloc _).free 5
  have lc8 : (w8.alloc (.cells #[.int .u8 (2), .bool (false), .int .i64 (0), .string (⟨#[]⟩)] 24)).cell? ⟨w2.heap.size, 5, none⟩ = some (.bool false) := ((l_7.ext x8).alloc _).cell 5
  have F8 : Ext w ((w8.alloc (.cells #[.int .u8 (2), .bool (false), .int .i64 (0), .string (⟨#[]⟩)] 24)).setCell ⟨w2.heap.size, 5, none⟩ (.bool false)) := Ext.set (p := ⟨w2.heap.size, 5, none⟩) ((F7.trans x8).alloc _) (by show w.heap.size ≤ w2.heap.size; exact gl) _
  clear x8
  have a_80 : ((w8.alloc (.cells #[.int .u8 (2), .bool (false), .int .i64 (0), .string (⟨#[]⟩)] 24)).setCell ⟨w2.heap.size, 5, none⟩ (.bool false)).cell? ⟨w.heap.size, 0, none⟩ = some (.int .u8 (ka)) := a_8.cell 0
  have a_81 : ((w8.alloc (.cells #[.int .u8 (2), .bool (false), .int .i64 (0), .string (⟨#[]⟩)] 24)).setCell ⟨w2.heap.size, 5, none⟩ (.bool false)).cell? ⟨w.heap.size, 1, none⟩ = some (.bool (ba)) := a_8.cell 1
  have a_82 : ((w8.alloc (.cells #[.int .u8 (2), .bool (false), .int .i64 (0), .string (⟨#[]⟩)] 24)).setCell ⟨w2.heap.size, 5, none⟩ (.bool false)).cell? ⟨w.heap.size, 2, none⟩ = some (.int .i64 (na)) := a_8.cell 2
  have a_83 : ((w8.alloc (.cells #[.int .u8 (2), .bool (false), .int .i64 (0), .string (⟨#[]⟩)] 24)).setCell ⟨w2.heap.size, 5, none⟩ (.bool false)).cell? ⟨w.heap.size, 3, none⟩ = some (.string (sa)) := a_8.cell 3
  have b_80 : ((w8.alloc (.cells #[.int .u8 (2), .bool (false), .int .i64 (0), .string (⟨#[]⟩)] 24)).setCell ⟨w2.heap.size, 5, none⟩ (.bool false)).cell? ⟨w.heap.size + 1, 0, none⟩ = some (.int .u8 (ka)) := b_8.cell 0
  have b_81 : ((w8.alloc (.cells #[.int .u8 (2), .bool (false), .int .i64 (0), .string (⟨#[]⟩)] 24)).setCell ⟨w2.heap.size, 5, none⟩ (.bool false)).cell? ⟨w.heap.size + 1, 1, none⟩ = some (.bool (bb)) := b_8.cell 1
  have b_82 : ((w8.alloc (.cells #[.int .u8 (2), .bool (false), .int .i64 (0), .string (⟨#[]⟩)] 24)).setCell ⟨w2.heap.size, 5, none⟩ (.bool false)).cell? ⟨w.heap.size + 1, 2, none⟩ = some (.int .i64 (nb)) := b_8.cell 2
  have b_83 : ((w8.alloc (.cells #[.int .u8 (2), .bool (false), .int .i64 (0), .string (⟨#[]⟩)] 24)).setCell ⟨w2.heap.size, 5, none⟩ (.bool false)).cell? ⟨w.heap.size + 1, 3, none⟩ = some (.string (sb)) := b_8.cell 3
  have lz0 : ((w8.alloc (.cells #[.int .u8 (2), .bool (false), .int .i64 (0), .string (⟨#[]⟩)] 24)).setCell ⟨w2.heap.size, 5, none⟩ (.bool false)).cell? ⟨w2.heap.size, 0, none⟩ = some (.bool false) := l_8.cell 0
  have lz1 : ((w8.alloc (.cells #[.int .u8 (2), .bool (false), .int .i64 (0), .string (⟨#[]⟩)] 24)).setCell ⟨w2.heap.size, 5, none⟩ (.bool false)).cell? ⟨w2.heap.size, 1, none⟩ = some (.bool true) := l_8.cell 1
  have lz2 : ((w8.alloc (.cells #[.int .u8 (2), .bool (false), .int .i64 (0), .string (⟨#[]⟩)] 24)).setCell ⟨w2.heap.size, 5, none⟩ (.bool false)).cell? ⟨w2.heap.size, 2, none⟩ = some (.bool true) := l_8.cell 2
  have lz3 : ((w8.alloc (.cells #[.int .u8 (2), .bool (false), .int .i64 (0), .string (⟨#[]⟩)] 24)).setCell ⟨w2.heap.size, 5, none⟩ (.bool false)).cell? ⟨w2.heap.size, 3, none⟩ = some (.bool true) := l_8.cell 3
  have lz4 : ((w8.alloc (.cells #[.int .u8 (2), .bool (false), .int .i64 (0), .string (⟨#[]⟩)] 24)).setCell ⟨w2.heap.size, 5, none⟩ (.bool false)).cell? ⟨w2.heap.size, 4, none⟩ = some (.bool false) := l_8.cell 4
  have lz5 : ((w8.alloc (.cells #[.int .u8 (2), .bool (false), .int .i64 (0), .string (⟨#[]⟩)] 24)).setCell ⟨w2.heap.size, 5, none⟩ (.bool false)).cell? ⟨w2.heap.size, 5, none⟩ = some (.bool false) := l_8.cell 5
  have m9 : True := trivial
  go_wp2_with fail
  rw [rounds_succ]
  go_wp2_with fail
  refine wp_loop_rounds 7 ?_
  rw [rounds_succ]
  go_wp2_with fail
  rw [rounds_succ]
  go_wp2_with fail
  rw [rounds_succ]
  go_wp2_with fail
  rw [rounds_succ]
  go_wp2_with fail
  rw [rounds_succ]
  go_wp2_with fail
  rw [rounds_succ]
  go_wp2_with fail
  rw [rounds_succ]
  go_wp2_with (first
    | (have z := m9; clear z m9; go_at_call 39; refine (cmp_at _ _ _ _ _ _ _ _ _ HC).mono ?_; rintro e w9 ⟨rfl, x9⟩; have a_9 := a_8.ext x9; have b_9 := b_8.ext x9; have l_9 := l_8.ext x9; have F9 : Ext w w9 := (F8.trans x9); clear x9; have l_90 : w9.cell? ⟨w2.heap.size, 0, none⟩ = some (.bool false) := l_9.cell 0; have l_91 : w9.cell? ⟨w2.heap.size, 1, none⟩ = some (.bool true) := l_9.cell 1; have l_92 : w9.cell? ⟨w2.heap.size, 2, none⟩ = some (.bool true) := l_9.cell 2; have l_93 : w9.cell? ⟨w2.heap.size, 3, none⟩ = some (.bool true) := l_9.cell 3; have l_94 : w9.cell? ⟨w2.heap.size, 4, none⟩ = some (.bool false) := l_9.cell 4; have l_95 : w9.cell? ⟨w2.heap.size, 5, none⟩ = some (.bool false) := l_9.cell 5; have m10 : True := trivial)
    | (have z := m10; clear z m10; go_at_call 16; refine (known_true _ (G.ext F9)).mono ?_; rintro e w10 ⟨rfl, x10⟩; have a_10 := a_9.ext x10; have b_10 := b_9.ext x10; have l_10 := l_9.ext x10; have F10 : Ext w w10 := (F9.trans x10); clear x10; have l_100 : w10.cell? ⟨w2.heap.size, 0, none⟩ = some (.bool false) := l_10.cell 0; have l_101 : w10.cell? ⟨w2.heap.size, 1, none⟩ = some (.bool true) := l_10.cell 1; have l_102 : w10.cell? ⟨w2.heap.size, 2, none⟩ = some (.bool true) := l_10.cell 2; have l_103 : w10.cell? ⟨w2.heap.size, 3, none⟩ = some (.bool true) := l_10.cell 3; have l_104 : w10.cell? ⟨w2.heap.size, 4, none⟩ = some (.bool false) := l_10.cell 4; have l_105 : w10.cell? ⟨w2.heap.size, 5, none⟩ = some (.bool false) := l_10.cell 5; have m11 : True := trivial)
    | fail)
  go_ret
  exact ⟨rfl, F10⟩
set_option maxRecDepth 100000 in
set_option maxHeartbeats 2000000 in
theorem sides_eq (ka na nb : Int) (ba bb : Bool) (sa sb : ByteArray) (w : World) (ga : sa.size ≤ 9223372036854775807) (gb : sb.size ≤ 9223372036854775807) (G : Good w) (hca : checkT ka ba na sa = 0) (hcb : checkT ka bb nb sb = 0) (l1 : (ka == 1) = false) (hc : cmpD ⟨ka, ba, na, sa⟩ ⟨ka, bb, nb, sb⟩ = 0) :
    Calls Tryd.prog 11 #[.agg #[.int .u8 (ka), .bool (ba), .int .i64 (na), .string (sa)], .agg #[.int .u8 (ka), .bool (bb), .int .i64 (nb), .string (sb)]] w fun e w' => e = .returned (.bool true) ∧ Ext w w' := by
  have H0 : Hid (compareR 11 ⟨ka, ba, na, sa⟩ ⟨ka, bb, nb, sb⟩ = (⟨2, true, 0, ⟨#[]⟩⟩, 0)) := Lib.hid (by unfold compareR; rw [if_pos ⟨by omega, hca, hcb⟩, if_neg (by simpa using l1), if_pos rfl, hc]; rfl)
  have H1 : Hid (compareR 12 ⟨ka, ba, na, sa⟩ ⟨ka, bb, nb, sb⟩ = (⟨2, false, 0, ⟨#[]⟩⟩, 0)) := Lib.hid (by unfold compareR; rw [if_pos ⟨by omega, hca, hcb⟩, if_neg (by simpa using l1), if_pos rfl, hc]; rfl)
  have H2 : Hid (compareR 13 ⟨ka, ba, na, sa⟩ ⟨ka, bb, nb, sb⟩ = (⟨2, false, 0, ⟨#[]⟩⟩, 0)) := Lib.hid (by unfold compareR; rw [if_pos ⟨by omega, hca, hcb⟩, if_neg (by simpa using l1), if_pos rfl, hc]; rfl)
  have H3 : Hid (compareR 14 ⟨ka, ba, na, sa⟩ ⟨ka, bb, nb, sb⟩ = (⟨2, true, 0, ⟨#[]⟩⟩, 0)) := Lib.hid (by unfold compareR; rw [if_pos ⟨by omega, hca, hcb⟩, if_neg (by simpa using l1), if_pos rfl, hc]; rfl)
  have H4 : Hid (compareR 15 ⟨ka, ba, na, sa⟩ ⟨ka, bb, nb, sb⟩ = (⟨2, false, 0, ⟨#[]⟩⟩, 0)) := Lib.hid (by unfold compareR; rw [if_pos ⟨by omega, hca, hcb⟩, if_neg (by simpa using l1), if_pos rfl, hc]; rfl)
  have H5 : Hid (compareR 16 ⟨ka, ba, na, sa⟩ ⟨ka, bb, nb, sb⟩ = (⟨2, true, 0, ⟨#[]⟩⟩, 0)) := Lib.hid (by unfold compareR; rw [if_pos ⟨by omega, hca, hcb⟩, if_neg (by simpa using l1), if_pos rfl, hc]; rfl)
  have HCA := Lib.hid hca
  clear hca
  have HCB := Lib.hid hcb
  clear hcb
  have HC := Lib.hid hc
  clear hc
  have l3 : (ka != ka) = false := by simp
  have a_0 : Bk ((w.alloc (.cells #[.int .u8 (ka), .bool (ba), .int .i64 (na), .string (sa)] 24)).alloc (.cells #[.int .u8 (ka), .bool (bb), .int .i64 (nb), .string (sb)] 24)) w.heap.size 24 #[.int .u8 (ka), .bool (ba), .int .i64 (na), .string (sa)] := (Bk.new _ _ _).alloc _
  have b_0 : Bk ((w.alloc (.cells #[.int .u8 (ka), .bool (ba), .int .i64 (na), .string (sa)] 24)).alloc (.cells #[.int .u8 (ka), .bool (bb), .int .i64 (nb), .string (sb)] 24)) (w.heap.size + 1) 24 #[.int .u8 (ka), .bool (bb), .int .i64 (nb), .string (sb)] := Bk.at (by simp)
  have F0 : Ext w ((w.alloc (.cells #[.int .u8 (ka), .bool (ba), .int .i64 (na), .string (sa)] 24)).alloc (.cells #[.int .u8 (ka), .bool (bb), .int .i64 (nb), .string (sb)] 24)) := ((Ext.refl w).alloc _).alloc _
  have m1 : True := trivial
  go_enter Tryd.func11, Tryd.ntmps11
  go_wp2_with (first
    | (have z := m1; clear z m1; go_at_call 15; refine (check_at _ _ _ _ _ HCA ga (G.ext F0)).mono ?_; rintro e w1 ⟨rfl, x1⟩; have a_1 := a_0.ext x1; have b_1 := b_0.ext x1; have F1 : Ext w w1 := (F0.trans x1); clear x1; have a_10 : w1.cell? ⟨w.heap.size, 0, none⟩ = some (.int .u8 (ka)) := a_1.cell 0; have a_11 : w1.cell? ⟨w.heap.size, 1, none⟩ = some (.bool (ba)) := a_1.cell 1; have a_12 : w1.cell? ⟨w.heap.size, 2, none⟩ = some (.int .i64 (na)) := a_1.cell 2; have a_13 : w1.cell? ⟨w.heap.size, 3, none⟩ = some (.string (sa)) := a_1.cell 3; have b_10 : w1.cell? ⟨w.heap.size + 1, 0, none⟩ = some (.int .u8 (ka)) := b_1.cell 0; have b_11 : w1.cell? ⟨w.heap.size + 1, 1, none⟩ = some (.bool (bb)) := b_1.cell 1; have b_12 : w1.cell? ⟨w.heap.size + 1, 2, none⟩ = some (.int .i64 (nb)) := b_1.cell 2; have b_13 : w1.cell? ⟨w.heap.size + 1, 3, none⟩ = some (.string (sb)) := b_1.cell 3; have m2 : True := trivial)
    | (have z := m2; clear z m2; go_at_call 15; refine (check_at _ _ _ _ _ HCB gb (G.ext F1)).mono ?_; rintro e w2 ⟨rfl, x2⟩; have ap2_0 : w2.cell? ⟨w.heap.size, 0, none⟩ = some (.int .u8 (ka)) := (a_1.ext x2).cell 0; have ap2_1 : w2.cell? ⟨w.heap.size, 1, none⟩ = some (.bool (ba)) := (a_1.ext x2).cell 1; have ap2_2 : w2.cell? ⟨w.heap.size, 2, none⟩ = some (.int .i64 (na)) := (a_1.ext x2).cell 2; have ap2_3 : w2.cell? ⟨w.heap.size, 3, none⟩ = some (.string (sa)) := (a_1.ext x2).cell 3; have bp2_0 : w2.cell? ⟨w.heap.size + 1, 0, none⟩ = some (.int .u8 (ka)) := (b_1.ext x2).cell 0; have bp2_1 : w2.cell? ⟨w.heap.size + 1, 1, none⟩ = some (.bool (bb)) := (b_1.ext x2).cell 1; have bp2_2 : w2.cell? ⟨w.heap.size + 1, 2, none⟩ = some (.int .i64 (nb)) := (b_1.ext x2).cell 2; have bp2_3 : w2.cell? ⟨w.heap.size + 1, 3, none⟩ = some (.string (sb)) := (b_1.ext x2).cell 3; have a_2 := (a_1.ext x2).alloc (.cells #[.bool false, .bool false, .bool false, .bool false, .bool false, .bool false] 47); have b_2 := (b_1.ext x2).alloc (.cells #[.bool false, .bool false, .bool false, .bool false, .bool false, .bool false] 47); have F2 : Ext w (w2.alloc (.cells #[.bool false, .bool false, .bool false, .bool false, .bool false, .bool false] 47)) := (F1.trans x2).alloc _; have l_2 := Bk.new w2 47 #[.bool false, .bool false, .bool false, .bool false, .bool false, .bool false]; have gl : w.heap.size ≤ w2.heap.size := (F1.trans x2).size; have gl2 : w.heap.size + 1 < w2.heap.size := (b_1.ext x2).lt; clear x2; have a_20 : (w2.alloc (.cells #[.bool false, .bool false, .bool false, .bool false, .bool false, .bool false] 47)).cell? ⟨w.heap.size, 0, none⟩ = some (.int .u8 (ka)) := a_2.cell 0; have a_21 : (w2.alloc (.cells #[.bool false, .bool false, .bool false, .bool false, .bool false, .bool false] 47)).cell? ⟨w.heap.size, 1, none⟩ = some (.bool (ba)) := a_2.cell 1; have a_22 : (w2.alloc (.cells #[.bool false, .bool false, .bool false, .bool false, .bool false, .bool false] 47)).cell? ⟨w.heap.size, 2, none⟩ = some (.int .i64 (na)) := a_2.cell 2; have a_23 : (w2.alloc (.cells #[.bool false, .bool false, .bool false, .bool false, .bool false, .bool false] 47)).cell? ⟨w.heap.size, 3, none⟩ = some (.string (sa)) := a_2.cell 3; have b_20 : (w2.alloc (.cells #[.bool false, .bool false, .bool false, .bool false, .bool false, .bool false] 47)).cell? ⟨w.heap.size + 1, 0, none⟩ = some (.int .u8 (ka)) := b_2.cell 0; have b_21 : (w2.alloc (.cells #[.bool false, .bool false, .bool false, .bool false, .bool false, .bool false] 47)).cell? ⟨w.heap.size + 1, 1, none⟩ = some (.bool (bb)) := b_2.cell 1; have b_22 : (w2.alloc (.cells #[.bool false, .bool false, .bool false, .bool false, .bool false, .bool false] 47)).cell? ⟨w.heap.size + 1, 2, none⟩ = some (.int .i64 (nb)) := b_2.cell 2; have b_23 : (w2.alloc (.cells #[.bool false, .bool false, .bool false, .bool false, .bool false, .bool false] 47)).cell? ⟨w.heap.size + 1, 3, none⟩ = some (.string (sb)) := b_2.cell 3; have m3 : True := trivial)
    | fail)
  refine wp_loop_rounds 7 ?_
  rw [rounds_succ]
  go_wp2_with fail
  have z := m3; clear z m3; go_at_call 45
  refine (compare_at _ _ _ _ _ _ _ _ _ H0 ga gb (G.ext F2)).mono ?_
  rintro e w3 ⟨rfl, x3⟩
  have a_3 : Bk ((w3.alloc (.cells #[.int .u8 (2), .bool (true), .int .i64 (0), .string (⟨#[]⟩)] 24)).setCell ⟨w2.heap.size, 0, none⟩ (.bool true)) (w.heap.size) 24 #[.int .u8 (ka), .bool (ba), .int .i64 (na), .string (sa)] := Bk.far (p := ⟨w2.heap.size, 0, none⟩) ((a_2.ext x3).alloc _) (by show w.heap.size ≠ w2.heap.size; omega) _
  have b_3 : Bk ((w3.alloc (.cells #[.int .u8 (2), .bool (true), .int .i64 (0), .string (⟨#[]⟩)] 24)).setCell ⟨w2.heap.size, 0, none⟩ (.bool true)) (w.heap.size + 1) 24 #[.int .u8 (ka), .bool (bb), .int .i64 (nb), .string (sb)] := Bk.far (p := ⟨w2.heap.size, 0, none⟩) ((b_2.ext x3).alloc _) (by show w.heap.size + 1 ≠ w2.heap.size; omega) _
  have l_3 : Bk ((w3.alloc (.cells #[.int .u8 (2), .bool (true), .int .i64 (0), .string (⟨#[]⟩)] 24)).setCell ⟨w2.heap.size, 0, none⟩ (.bool true)) w2.heap.size 47 #[.bool true, .bool false, .bool false, .bool false, .bool false, .bool false] := ((l_2.ext x3).alloc _).set 0 (.bool true)
  have lf3 : (w3.alloc (.cells #[.int .u8 (2), .bool (true), .int .i64 (0), .string (⟨#[]⟩)] 24)).frozen? ⟨w2.heap.size, 0, none⟩ = false := ((l_2.ext x3).alloc _).free 0
  have lc3 : (w3.alloc (.cells #[.int .u8 (2), .bool (true), .int .i64 (0), .string (⟨#[]⟩)] 24)).cell? ⟨w2.heap.size, 0, none⟩ = some (.bool false) := ((l_2.ext x3).alloc _).cell 0
  have F3 : Ext w ((w3.alloc (.cells #[.int .u8 (2), .bool (true), .int .i64 (0), .string (⟨#[]⟩)] 24)).setCell ⟨w2.heap.size, 0, none⟩ (.bool true)) := Ext.set (p := ⟨w2.heap.size, 0, none⟩) ((F2.trans x3).alloc _) (by show w.heap.size ≤ w2.heap.size; exact gl) _
  clear x3
  have a_30 : ((w3.alloc (.cells #[.int .u8 (2), .bool (true), .int .i64 (0), .string (⟨#[]⟩)] 24)).setCell ⟨w2.heap.size, 0, none⟩ (.bool true)).cell? ⟨w.heap.size, 0, none⟩ = some (.int .u8 (ka)) := a_3.cell 0
  have a_31 : ((w3.alloc (.cells #[.int .u8 (2), .bool (true), .int .i64 (0), .string (⟨#[]⟩)] 24)).setCell ⟨w2.heap.size, 0, none⟩ (.bool true)).cell? ⟨w.heap.size, 1, none⟩ = some (.bool (ba)) := a_3.cell 1
  have a_32 : ((w3.alloc (.cells #[.int .u8 (2), .bool (true), .int .i64 (0), .string (⟨#[]⟩)] 24)).setCell ⟨w2.heap.size, 0, none⟩ (.bool true)).cell? ⟨w.heap.size, 2, none⟩ = some (.int .i64 (na)) := a_3.cell 2
  have a_33 : ((w3.alloc (.cells #[.int .u8 (2), .bool (true), .int .i64 (0), .string (⟨#[]⟩)] 24)).setCell ⟨w2.heap.size, 0, none⟩ (.bool true)).cell? ⟨w.heap.size, 3, none⟩ = some (.string (sa)) := a_3.cell 3
  have b_30 : ((w3.alloc (.cells #[.int .u8 (2), .bool (true), .int .i64 (0), .string (⟨#[]⟩)] 24)).setCell ⟨w2.heap.size, 0, none⟩ (.bool true)).cell? ⟨w.heap.size + 1, 0, none⟩ = some (.int .u8 (ka)) := b_3.cell 0
  have b_31 : ((w3.alloc (.cells #[.int .u8 (2), .bool (true), .int .i64 (0), .string (⟨#[]⟩)] 24)).setCell ⟨w2.heap.size, 0, none⟩ (.bool true)).cell? ⟨w.heap.size + 1, 1, none⟩ = some (.bool (bb)) := b_3.cell 1
  have b_32 : ((w3.alloc (.cells #[.int .u8 (2), .bool (true), .int .i64 (0), .string (⟨#[]⟩)] 24)).setCell ⟨w2.heap.size, 0, none⟩ (.bool true)).cell? ⟨w.heap.size + 1, 2, none⟩ = some (.int .i64 (nb)) := b_3.cell 2
  have b_33 : ((w3.alloc (.cells #[.int .u8 (2), .bool (true), .int .i64 (0), .string (⟨#[]⟩)] 24)).setCell ⟨w2.heap.size, 0, none⟩ (.bool true)).cell? ⟨w.heap.size + 1, 3, none⟩ = some (.string (sb)) := b_3.cell 3
  have m4 : True := trivial
  go_wp2_with fail
  rw [rounds_succ]
  go_wp2_with fail
  have z := m4; clear z m4; go_at_call 45
  refine (compare_at _ _ _ _ _ _ _ _ _ H1 ga gb (G.ext F3)).mono ?_
  rintro e w4 ⟨rfl, x4⟩
  have a_4 : Bk ((w4.alloc (.cells #[.int .u8 (2), .bool (false), .int .i64 (0), .string (⟨#[]⟩)] 24)).setCell ⟨w2.heap.size, 1, none⟩ (.bool false)) (w.heap.size) 24 #[.int .u8 (ka), .bool (ba), .int .i64 (na), .string (sa)] := Bk.far (p := ⟨w2.heap.size, 1, none⟩) ((a_3.ext x4).alloc _) (by show w.heap.size ≠ w2.heap.size; omega) _
  have b_4 : Bk ((w4.alloc (.cells #[.int .u8 (2), .bool (false), .int .i64 (0), .string (⟨#[]⟩)] 24)).setCell ⟨w2.heap.size, 1, none⟩ (.bool false)) (w.heap.size + 1) 24 #[.int .u8 (ka), .bool (bb), .int .i64 (nb), .string (sb)] := Bk.far (p := ⟨w2.heap.size, 1, none⟩) ((b_3.ext x4).alloc _) (by show w.heap.size + 1 ≠ w2.heap.size; omega) _
  have l_4 : Bk ((w4.alloc (.cells #[.int .u8 (2), .bool (false), .int .i64 (0), .string (⟨#[]⟩)] 24)).setCell ⟨w2.heap.size, 1, none⟩ (.bool false)) w2.heap.size 47 #[.bool true, .bool false, .bool false, .bool false, .bool false, .bool false] := ((l_3.ext x4).alloc _).set 1 (.bool false)
  have lf4 : (w4.alloc (.cells #[.int .u8 (2), .bool (false), .int .i64 (0), .string (⟨#[]⟩)] 24)).frozen? ⟨w2.heap.size, 1, none⟩ = false := ((l_3.ext x4).alloc _).free 1
  have lc4 : (w4.alloc (.cells #[.int .u8 (2), .bool (false), .int .i64 (0), .string (⟨#[]⟩)] 24)).cell? ⟨w2.heap.size, 1, none⟩ = some (.bool false) := ((l_3.ext x4).alloc _).cell 1
  have F4 : Ext w ((w4.alloc (.cells #[.int .u8 (2), .bool (false), .int .i64 (0), .string (⟨#[]⟩)] 24)).setCell ⟨w2.heap.size, 1, none⟩ (.bool false)) := Ext.set (p := ⟨w2.heap.size, 1, none⟩) ((F3.trans x4).alloc _) (by show w.heap.size ≤ w2.heap.size; exact gl) _
  clear x4
  have a_40 : ((w4.alloc (.cells #[.int .u8 (2), .bool (false), .int .i64 (0), .string (⟨#[]⟩)] 24)).setCell ⟨w2.heap.size, 1, none⟩ (.bool false)).cell? ⟨w.heap.size, 0, none⟩ = some (.int .u8 (ka)) := a_4.cell 0
  have a_41 : ((w4.alloc (.cells #[.int .u8 (2), .bool (false), .int .i64 (0), .string (⟨#[]⟩)] 24)).setCell ⟨w2.heap.size, 1, none⟩ (.bool false)).cell? ⟨w.heap.size, 1, none⟩ = some (.bool (ba)) := a_4.cell 1
  have a_42 : ((w4.alloc (.cells #[.int .u8 (2), .bool (false), .int .i64 (0), .string (⟨#[]⟩)] 24)).setCell ⟨w2.heap.size, 1, none⟩ (.bool false)).cell? ⟨w.heap.size, 2, none⟩ = some (.int .i64 (na)) := a_4.cell 2
  have a_43 : ((w4.alloc (.cells #[.int .u8 (2), .bool (false), .int .i64 (0), .string (⟨#[]⟩)] 24)).setCell ⟨w2.heap.size, 1, none⟩ (.bool false)).cell? ⟨w.heap.size, 3, none⟩ = some (.string (sa)) := a_4.cell 3
  have b_40 : ((w4.alloc (.cells #[.int .u8 (2), .bool (false), .int .i64 (0), .string (⟨#[]⟩)] 24)).setCell ⟨w2.heap.size, 1, none⟩ (.bool false)).cell? ⟨w.heap.size + 1, 0, none⟩ = some (.int .u8 (ka)) := b_4.cell 0
  have b_41 : ((w4.alloc (.cells #[.int .u8 (2), .bool (false), .int .i64 (0), .string (⟨#[]⟩)] 24)).setCell ⟨w2.heap.size, 1, none⟩ (.bool false)).cell? ⟨w.heap.size + 1, 1, none⟩ = some (.bool (bb)) := b_4.cell 1
  have b_42 : ((w4.alloc (.cells #[.int .u8 (2), .bool (false), .int .i64 (0), .string (⟨#[]⟩)] 24)).setCell ⟨w2.heap.size, 1, none⟩ (.bool false)).cell? ⟨w.heap.size + 1, 2, none⟩ = some (.int .i64 (nb)) := b_4.cell 2
  have b_43 : ((w4.alloc (.cells #[.int .u8 (2), .bool (false), .int .i64 (0), .string (⟨#[]⟩)] 24)).setCell ⟨w2.heap.size, 1, none⟩ (.bool false)).cell? ⟨w.heap.size + 1, 3, none⟩ = some (.string (sb)) := b_4.cell 3
  have m5 : True := trivial
  go_wp2_with fail
  rw [rounds_succ]
  go_wp2_with fail
  have z := m5; clear z m5; go_at_call 45
  refine (compare_at _ _ _ _ _ _ _ _ _ H2 ga gb (G.ext F4)).mono ?_
  rintro e w5 ⟨rfl, x5⟩
  have a_5 : Bk ((w5.alloc (.cells #[.int .u8 (2), .bool (false), .int .i64 (0), .string (⟨#[]⟩)] 24)).setCell ⟨w2.heap.size, 2, none⟩ (.bool false)) (w.heap.size) 24 #[.int .u8 (ka), .bool (ba), .int .i64 (na), .string (sa)] := Bk.far (p := ⟨w2.heap.size, 2, none⟩) ((a_4.ext x5).alloc _) (by show w.heap.size ≠ w2.heap.size; omega) _
  have b_5 : Bk ((w5.alloc (.cells #[.int .u8 (2), .bool (false), .int .i64 (0), .string (⟨#[]⟩)] 24)).setCell ⟨w2.heap.size, 2, none⟩ (.bool false)) (w.heap.size + 1) 24 #[.int .u8 (ka), .bool (bb), .int .i64 (nb), .string (sb)] := Bk.far (p := ⟨w2.heap.size, 2, none⟩) ((b_4.ext x5).alloc _) (by show w.heap.size + 1 ≠ w2.heap.size; omega) _
  have l_5 : Bk ((w5.alloc (.cells #[.int .u8 (2), .bool (false), .int .i64 (0), .string (⟨#[]⟩)] 24)).setCell ⟨w2.heap.size, 2, none⟩ (.bool false)) w2.heap.size 47 #[.bool true, .bool false, .bool false, .bool false, .bool false, .bool false] := ((l_4.ext x5).alloc _).set 2 (.bool false)
  have lf5 : (w5.alloc (.cells #[.int .u8 (2), .bool (false), .int .i64 (0), .string (⟨#[]⟩)] 24)).frozen? ⟨w2.heap.size, 2, none⟩ = false := ((l_4.ext x5).alloc _).free 2
  have lc5 : (w5.alloc (.cells #[.int .u8 (2), .bool (false), .int .i64 (0), .string (⟨#[]⟩)] 24)).cell? ⟨w2.heap.size, 2, none⟩ = some (.bool false) := ((l_4.ext x5).alloc _).cell 2
  have F5 : Ext w ((w5.alloc (.cells #[.int .u8 (2), .bool (false), .int .i64 (0), .string (⟨#[]⟩)] 24)).setCell ⟨w2.heap.size, 2, none⟩ (.bool false)) := Ext.set (p := ⟨w2.heap.size, 2, none⟩) ((F4.trans x5).alloc _) (by show w.heap.size ≤ w2.heap.size; exact gl) _
  clear x5
  have a_50 : ((w5.alloc (.cells #[.int .u8 (2), .bool (false), .int .i64 (0), .string (⟨#[]⟩)] 24)).setCell ⟨w2.heap.size, 2, none⟩ (.bool false)).cell? ⟨w.heap.size, 0, none⟩ = some (.int .u8 (ka)) := a_5.cell 0
  have a_51 : ((w5.alloc (.cells #[.int .u8 (2), .bool (false), .int .i64 (0), .string (⟨#[]⟩)] 24)).setCell ⟨w2.heap.size, 2, none⟩ (.bool false)).cell? ⟨w.heap.size, 1, none⟩ = some (.bool (ba)) := a_5.cell 1
  have a_52 : ((w5.alloc (.cells #[.int .u8 (2), .bool (false), .int .i64 (0), .string (⟨#[]⟩)] 24)).setCell ⟨w2.heap.size, 2, none⟩ (.bool false)).cell? ⟨w.heap.size, 2, none⟩ = some (.int .i64 (na)) := a_5.cell 2
  have a_53 : ((w5.alloc (.cells #[.int .u8 (2), .bool (false), .int .i64 (0), .string (⟨#[]⟩)] 24)).setCell ⟨w2.heap.size, 2, none⟩ (.bool false)).cell? ⟨w.heap.size, 3, none⟩ = some (.string (sa)) := a_5.cell 3
  have b_50 : ((w5.alloc (.cells #[.int .u8 (2), .bool (false), .int .i64 (0), .string (⟨#[]⟩)] 24)).setCell ⟨w2.heap.size, 2, none⟩ (.bool false)).cell? ⟨w.heap.size + 1, 0, none⟩ = some (.int .u8 (ka)) := b_5.cell 0
  have b_51 : ((w5.alloc (.cells #[.int .u8 (2), .bool (false), .int .i64 (0), .string (⟨#[]⟩)] 24)).setCell ⟨w2.heap.size, 2, none⟩ (.bool false)).cell? ⟨w.heap.size + 1, 1, none⟩ = some (.bool (bb)) := b_5.cell 1
  have b_52 : ((w5.alloc (.cells #[.int .u8 (2), .bool (false), .int .i64 (0), .string (⟨#[]⟩)] 24)).setCell ⟨w2.heap.size, 2, none⟩ (.bool false)).cell? ⟨w.heap.size + 1, 2, none⟩ = some (.int .i64 (nb)) := b_5.cell 2
  have b_53 : ((w5.alloc (.cells #[.int .u8 (2), .bool (false), .int .i64 (0), .string (⟨#[]⟩)] 24)).setCell ⟨w2.heap.size, 2, none⟩ (.bool false)).cell? ⟨w.heap.size + 1, 3, none⟩ = some (.string (sb)) := b_5.cell 3
  have m6 : True := trivial
  go_wp2_with fail
  rw [rounds_succ]
  go_wp2_with fail
  have z := m6; clear z m6; go_at_call 45
  refine (compare_at _ _ _ _ _ _ _ _ _ H3 ga gb (G.ext F5)).mono ?_
  rintro e w6 ⟨rfl, x6⟩
  have a_6 : Bk ((w6.alloc (.cells #[.int .u8 (2), .bool (true), .int .i64 (0), .string (⟨#[]⟩)] 24)).setCell ⟨w2.heap.size, 3, none⟩ (.bool true)) (w.heap.size) 24 #[.int .u8 (ka), .bool (ba), .int .i64 (na), .string (sa)] := Bk.far (p := ⟨w2.heap.size, 3, none⟩) ((a_5.ext x6).alloc _) (by show w.heap.size ≠ w2.heap.size; omega) _
  have b_6 : Bk ((w6.alloc (.cells #[.int .u8 (2), .bool (true), .int .i64 (0), .string (⟨#[]⟩)] 24)).setCell ⟨w2.heap.size, 3, none⟩ (.bool true)) (w.heap.size + 1) 24 #[.int .u8 (ka), .bool (bb), .int .i64 (nb), .string (sb)] := Bk.far (p := ⟨w2.heap.size, 3, none⟩) ((b_5.ext x6).alloc _) (by show w.heap.size + 1 ≠ w2.heap.size; omega) _
  have l_6 : Bk ((w6.alloc (.cells #[.int .u8 (2), .bool (true), .int .i64 (0), .string (⟨#[]⟩)] 24)).setCell ⟨w2.heap.size, 3, none⟩ (.bool true)) w2.heap.size 47 #[.bool true, .bool false, .bool false, .bool true, .bool false, .bool false] := ((l_5.ext x6).alloc _).set 3 (.bool true)
  have lf6 : (w6.alloc (.cells #[.int .u8 (2), .bool (true), .int .i64 (0), .string (⟨#[]⟩)] 24)).frozen? ⟨w2.heap.size, 3, none⟩ = false := ((l_5.ext x6).alloc _).free 3
  have lc6 : (w6.alloc (.cells #[.int .u8 (2), .bool (true), .int .i64 (0), .string (⟨#[]⟩)] 24)).cell? ⟨w2.heap.size, 3, none⟩ = some (.bool false) := ((l_5.ext x6).alloc _).cell 3
  have F6 : Ext w ((w6.alloc (.cells #[.int .u8 (2), .bool (true), .int .i64 (0), .string (⟨#[]⟩)] 24)).setCell ⟨w2.heap.size, 3, none⟩ (.bool true)) := Ext.set (p := ⟨w2.heap.size, 3, none⟩) ((F5.trans x6).alloc _) (by show w.heap.size ≤ w2.heap.size; exact gl) _
  clear x6
  have a_60 : ((w6.alloc (.cells #[.int .u8 (2), .bool (true), .int .i64 (0), .string (⟨#[]⟩)] 24)).setCell ⟨w2.heap.size, 3, none⟩ (.bool true)).cell? ⟨w.heap.size, 0, none⟩ = some (.int .u8 (ka)) := a_6.cell 0
  have a_61 : ((w6.alloc (.cells #[.int .u8 (2), .bool (true), .int .i64 (0), .string (⟨#[]⟩)] 24)).setCell ⟨w2.heap.size, 3, none⟩ (.bool true)).cell? ⟨w.heap.size, 1, none⟩ = some (.bool (ba)) := a_6.cell 1
  have a_62 : ((w6.alloc (.cells #[.int .u8 (2), .bool (true), .int .i64 (0), .string (⟨#[]⟩)] 24)).setCell ⟨w2.heap.size, 3, none⟩ (.bool true)).cell? ⟨w.heap.size, 2, none⟩ = some (.int .i64 (na)) := a_6.cell 2
  have a_63 : ((w6.alloc (.cells #[.int .u8 (2), .bool (true), .int .i64 (0), .string (⟨#[]⟩)] 24)).setCell ⟨w2.heap.size, 3, none⟩ (.bool true)).cell? ⟨w.heap.size, 3, none⟩ = some (.string (sa)) := a_6.cell 3
  have b_60 : ((w6.alloc (.cells #[.int .u8 (2), .bool (true), .int .i64 (0), .string (⟨#[]⟩)] 24)).setCell ⟨w2.heap.size, 3, none⟩ (.bool true)).cell? ⟨w.heap.size + 1, 0, none⟩ = some (.int .u8 (ka)) := b_6.cell 0
  have b_61 : ((w6.alloc (.cells #[.int .u8 (2), .bool (true), .int .i64 (0), .string (⟨#[]⟩)] 24)).setCell ⟨w2.heap.size, 3, none⟩ (.bool true)).cell? ⟨w.heap.size + 1, 1, none⟩ = some (.bool (bb)) := b_6.cell 1
  have b_62 : ((w6.alloc (.cells #[.int .u8 (2), .bool (true), .int .i64 (0), .string (⟨#[]⟩)] 24)).setCell ⟨w2.heap.size, 3, none⟩ (.bool true)).cell? ⟨w.heap.size + 1, 2, none⟩ = some (.int .i64 (nb)) := b_6.cell 2
  have b_63 : ((w6.alloc (.cells #[.int .u8 (2), .bool (true), .int .i64 (0), .string (⟨#[]⟩)] 24)).setCell ⟨w2.heap.size, 3, none⟩ (.bool true)).cell? ⟨w.heap.size + 1, 3, none⟩ = some (.string (sb)) := b_6.cell 3
  have m7 : True := trivial
  go_wp2_with fail
  rw [rounds_succ]
  go_wp2_with fail
  have z := m7; clear z m7; go_at_call 45
  refine (compare_at _ _ _ _ _ _ _ _ _ H4 ga gb (G.ext F6)).mono ?_
  rintro e w7 ⟨rfl, x7⟩
  have a_7 : Bk ((w7.alloc (.cells #[.int .u8 (2), .bool (false), .int .i64 (0), .string (⟨#[]⟩)] 24)).setCell ⟨w2.heap.size, 4, none⟩ (.bool false)) (w.heap.size) 24 #[.int .u8 (ka), .bool (ba), .int .i64 (na), .string (sa)] := Bk.far (p := ⟨w2.heap.size, 4, none⟩) ((a_6.ext x7).alloc _) (by show w.heap.size ≠ w2.heap.size; omega) _
  have b_7 : Bk ((w7.alloc (.cells #[.int .u8 (2), .bool (false), .int .i64 (0), .string (⟨#[]⟩)] 24)).setCell ⟨w2.heap.size, 4, none⟩ (.bool false)) (w.heap.size + 1) 24 #[.int .u8 (ka), .bool (bb), .int .i64 (nb), .string (sb)] := Bk.far (p := ⟨w2.heap.size, 4, none⟩) ((b_6.ext x7).alloc _) (by show w.heap.size + 1 ≠ w2.heap.size; omega) _
  have l_7 : Bk ((w7.alloc (.cells #[.int .u8 (2), .bool (false), .int .i64 (0), .string (⟨#[]⟩)] 24)).setCell ⟨w2.heap.size, 4, none⟩ (.bool false)) w2.heap.size 47 #[.bool true, .bool false, .bool false, .bool true, .bool false, .bool false] := ((l_6.ext x7).alloc _).set 4 (.bool false)
  have lf7 : (w7.alloc (.cells #[.int .u8 (2), .bool (false), .int .i64 (0), .string (⟨#[]⟩)] 24)).frozen? ⟨w2.heap.size, 4, none⟩ = false := ((l_6.ext x7).alloc _).free 4
  have lc7 : (w7.alloc (.cells #[.int .u8 (2), .bool (false), .int .i64 (0), .string (⟨#[]⟩)] 24)).cell? ⟨w2.heap.size, 4, none⟩ = some (.bool false) := ((l_6.ext x7).alloc _).cell 4
  have F7 : Ext w ((w7.alloc (.cells #[.int .u8 (2), .bool (false), .int .i64 (0), .string (⟨#[]⟩)] 24)).setCell ⟨w2.heap.size, 4, none⟩ (.bool false)) := Ext.set (p := ⟨w2.heap.size, 4, none⟩) ((F6.trans x7).alloc _) (by show w.heap.size ≤ w2.heap.size; exact gl) _
  clear x7
  have a_70 : ((w7.alloc (.cells #[.int .u8 (2), .bool (false), .int .i64 (0), .string (⟨#[]⟩)] 24)).setCell ⟨w2.heap.size, 4, none⟩ (.bool false)).cell? ⟨w.heap.size, 0, none⟩ = some (.int .u8 (ka)) := a_7.cell 0
  have a_71 : ((w7.alloc (.cells #[.int .u8 (2), .bool (false), .int .i64 (0), .string (⟨#[]⟩)] 24)).setCell ⟨w2.heap.size, 4, none⟩ (.bool false)).cell? ⟨w.heap.size, 1, none⟩ = some (.bool (ba)) := a_7.cell 1
  have a_72 : ((w7.alloc (.cells #[.int .u8 (2), .bool (false), .int .i64 (0), .string (⟨#[]⟩)] 24)).setCell ⟨w2.heap.size, 4, none⟩ (.bool false)).cell? ⟨w.heap.size, 2, none⟩ = some (.int .i64 (na)) := a_7.cell 2
  have a_73 : ((w7.alloc (.cells #[.int .u8 (2), .bool (false), .int .i64 (0), .string (⟨#[]⟩)] 24)).setCell ⟨w2.heap.size, 4, none⟩ (.bool false)).cell? ⟨w.heap.size, 3, none⟩ = some (.string (sa)) := a_7.cell 3
  have b_70 : ((w7.alloc (.cells #[.int .u8 (2), .bool (false), .int .i64 (0), .string (⟨#[]⟩)] 24)).setCell ⟨w2.heap.size, 4, none⟩ (.bool false)).cell? ⟨w.heap.size + 1, 0, none⟩ = some (.int .u8 (ka)) := b_7.cell 0
  have b_71 : ((w7.alloc (.cells #[.int .u8 (2), .bool (false), .int .i64 (0), .string (⟨#[]⟩)] 24)).setCell ⟨w2.heap.size, 4, none⟩ (.bool false)).cell? ⟨w.heap.size + 1, 1, none⟩ = some (.bool (bb)) := b_7.cell 1
  have b_72 : ((w7.alloc (.cells #[.int .u8 (2), .bool (false), .int .i64 (0), .string (⟨#[]⟩)] 24)).setCell ⟨w2.heap.size, 4, none⟩ (.bool false)).cell? ⟨w.heap.size + 1, 2, none⟩ = some (.int .i64 (nb)) := b_7.cell 2
  have b_73 : ((w7.alloc (.cells #[.int .u8 (2), .bool (false), .int .i64 (0), .string (⟨#[]⟩)] 24)).setCell ⟨w2.heap.size, 4, none⟩ (.bool false)).cell? ⟨w.heap.size + 1, 3, none⟩ = some (.string (sb)) := b_7.cell 3
  have m8 : True := trivial
  go_wp2_with fail
  rw [rounds_succ]
  go_wp2_with fail
  have z := m8; clear z m8; go_at_call 45
  refine (compare_at _ _ _ _ _ _ _ _ _ H5 ga gb (G.ext F7)).mono ?_
  rintro e w8 ⟨rfl, x8⟩
  have a_8 : Bk ((w8.alloc (.cells #[.int .u8 (2), .bool (true), .int .i64 (0), .string (⟨#[]⟩)] 24)).setCell ⟨w2.heap.size, 5, none⟩ (.bool true)) (w.heap.size) 24 #[.int .u8 (ka), .bool (ba), .int .i64 (na), .string (sa)] := Bk.far (p := ⟨w2.heap.size, 5, none⟩) ((a_7.ext x8).alloc _) (by show w.heap.size ≠ w2.heap.size; omega) _
  have b_8 : Bk ((w8.alloc (.cells #[.int .u8 (2), .bool (true), .int .i64 (0), .string (⟨#[]⟩)] 24)).setCell ⟨w2.heap.size, 5, none⟩ (.bool true)) (w.heap.size + 1) 24 #[.int .u8 (ka), .bool (bb), .int .i64 (nb), .string (sb)] := Bk.far (p := ⟨w2.heap.size, 5, none⟩) ((b_7.ext x8).alloc _) (by show w.heap.size + 1 ≠ w2.heap.size; omega) _
  have l_8 : Bk ((w8.alloc (.cells #[.int .u8 (2), .bool (true), .int .i64 (0), .string (⟨#[]⟩)] 24)).setCell ⟨w2.heap.size, 5, none⟩ (.bool true)) w2.heap.size 47 #[.bool true, .bool false, .bool false, .bool true, .bool false, .bool true] := ((l_7.ext x8).alloc _).set 5 (.bool true)
  have lf8 : (w8.alloc (.cells #[.int .u8 (2), .bool (true), .int .i64 (0), .string (⟨#[]⟩)] 24)).frozen? ⟨w2.heap.size, 5, none⟩ = false := ((l_7.ext x8).alloc _).free 5
  have lc8 : (w8.alloc (.cells #[.int .u8 (2), .bool (true), .int .i64 (0), .string (⟨#[]⟩)] 24)).cell? ⟨w2.heap.size, 5, none⟩ = some (.bool false) := ((l_7.ext x8).alloc _).cell 5
  have F8 : Ext w ((w8.alloc (.cells #[.int .u8 (2), .bool (true), .int .i64 (0), .string (⟨#[]⟩)] 24)).setCell ⟨w2.heap.size, 5, none⟩ (.bool true)) := Ext.set (p := ⟨w2.heap.size, 5, none⟩) ((F7.trans x8).alloc _) (by show w.heap.size ≤ w2.heap.size; exact gl) _
  clear x8
  have a_80 : ((w8.alloc (.cells #[.int .u8 (2), .bool (true), .int .i64 (0), .string (⟨#[]⟩)] 24)).setCell ⟨w2.heap.size, 5, none⟩ (.bool true)).cell? ⟨w.heap.size, 0, none⟩ = some (.int .u8 (ka)) := a_8.cell 0
  have a_81 : ((w8.alloc (.cells #[.int .u8 (2), .bool (true), .int .i64 (0), .string (⟨#[]⟩)] 24)).setCell ⟨w2.heap.size, 5, none⟩ (.bool true)).cell? ⟨w.heap.size, 1, none⟩ = some (.bool (ba)) := a_8.cell 1
  have a_82 : ((w8.alloc (.cells #[.int .u8 (2), .bool (true), .int .i64 (0), .string (⟨#[]⟩)] 24)).setCell ⟨w2.heap.size, 5, none⟩ (.bool true)).cell? ⟨w.heap.size, 2, none⟩ = some (.int .i64 (na)) := a_8.cell 2
  have a_83 : ((w8.alloc (.cells #[.int .u8 (2), .bool (true), .int .i64 (0), .string (⟨#[]⟩)] 24)).setCell ⟨w2.heap.size, 5, none⟩ (.bool true)).cell? ⟨w.heap.size, 3, none⟩ = some (.string (sa)) := a_8.cell 3
  have b_80 : ((w8.alloc (.cells #[.int .u8 (2), .bool (true), .int .i64 (0), .string (⟨#[]⟩)] 24)).setCell ⟨w2.heap.size, 5, none⟩ (.bool true)).cell? ⟨w.heap.size + 1, 0, none⟩ = some (.int .u8 (ka)) := b_8.cell 0
  have b_81 : ((w8.alloc (.cells #[.int .u8 (2), .bool (true), .int .i64 (0), .string (⟨#[]⟩)] 24)).setCell ⟨w2.heap.size, 5, none⟩ (.bool true)).cell? ⟨w.heap.size + 1, 1, none⟩ = some (.bool (bb)) := b_8.cell 1
  have b_82 : ((w8.alloc (.cells #[.int .u8 (2), .bool (true), .int .i64 (0), .string (⟨#[]⟩)] 24)).setCell ⟨w2.heap.size, 5, none⟩ (.bool true)).cell? ⟨w.heap.size + 1, 2, none⟩ = some (.int .i64 (nb)) := b_8.cell 2
  have b_83 : ((w8.alloc (.cells #[.int .u8 (2), .bool (true), .int .i64 (0), .string (⟨#[]⟩)] 24)).setCell ⟨w2.heap.size, 5, none⟩ (.bool true)).cell? ⟨w.heap.size + 1, 3, none⟩ = some (.string (sb)) := b_8.cell 3
  have lz0 : ((w8.alloc (.cells #[.int .u8 (2), .bool (true), .int .i64 (0), .string (⟨#[]⟩)] 24)).setCell ⟨w2.heap.size, 5, none⟩ (.bool true)).cell? ⟨w2.heap.size, 0, none⟩ = some (.bool true) := l_8.cell 0
  have lz1 : ((w8.alloc (.cells #[.int .u8 (2), .bool (true), .int .i64 (0), .string (⟨#[]⟩)] 24)).setCell ⟨w2.heap.size, 5, none⟩ (.bool true)).cell? ⟨w2.heap.size, 1, none⟩ = some (.bool false) := l_8.cell 1
  have lz2 : ((w8.alloc (.cells #[.int .u8 (2), .bool (true), .int .i64 (0), .string (⟨#[]⟩)] 24)).setCell ⟨w2.heap.size, 5, none⟩ (.bool true)).cell? ⟨w2.heap.size, 2, none⟩ = some (.bool false) := l_8.cell 2
  have lz3 : ((w8.alloc (.cells #[.int .u8 (2), .bool (true), .int .i64 (0), .string (⟨#[]⟩)] 24)).setCell ⟨w2.heap.size, 5, none⟩ (.bool true)).cell? ⟨w2.heap.size, 3, none⟩ = some (.bool true) := l_8.cell 3
  have lz4 : ((w8.alloc (.cells #[.int .u8 (2), .bool (true), .int .i64 (0), .string (⟨#[]⟩)] 24)).setCell ⟨w2.heap.size, 5, none⟩ (.bool true)).cell? ⟨w2.heap.size, 4, none⟩ = some (.bool false) := l_8.cell 4
  have lz5 : ((w8.alloc (.cells #[.int .u8 (2), .bool (true), .int .i64 (0), .string (⟨#[]⟩)] 24)).setCell ⟨w2.heap.size, 5, none⟩ (.bool true)).cell? ⟨w2.heap.size, 5, none⟩ = some (.bool true) := l_8.cell 5
  have m9 : True := trivial
  go_wp2_with fail
  rw [rounds_succ]
  go_wp2_with fail
  refine wp_loop_rounds 7 ?_
  rw [rounds_succ]
  go_wp2_with fail
  rw [rounds_succ]
  go_wp2_with fail
  rw [rounds_succ]
  go_wp2_with fail
  rw [rounds_succ]
  go_wp2_with fail
  rw [rounds_succ]
  go_wp2_with fail
  rw [rounds_succ]
  go_wp2_with fail
  rw [rounds_succ]
  go_wp2_with (first
    | (have z := m9; clear z m9; go_at_call 39; refine (cmp_at _ _ _ _ _ _ _ _ _ HC).mono ?_; rintro e w9 ⟨rfl, x9⟩; have a_9 := a_8.ext x9; have b_9 := b_8.ext x9; have l_9 := l_8.ext x9; have F9 : Ext w w9 := (F8.trans x9); clear x9; have l_90 : w9.cell? ⟨w2.heap.size, 0, none⟩ = some (.bool true) := l_9.cell 0; have l_91 : w9.cell? ⟨w2.heap.size, 1, none⟩ = some (.bool false) := l_9.cell 1; have l_92 : w9.cell? ⟨w2.heap.size, 2, none⟩ = some (.bool false) := l_9.cell 2; have l_93 : w9.cell? ⟨w2.heap.size, 3, none⟩ = some (.bool true) := l_9.cell 3; have l_94 : w9.cell? ⟨w2.heap.size, 4, none⟩ = some (.bool false) := l_9.cell 4; have l_95 : w9.cell? ⟨w2.heap.size, 5, none⟩ = some (.bool true) := l_9.cell 5; have m10 : True := trivial)
    | (have z := m10; clear z m10; go_at_call 16; refine (known_true _ (G.ext F9)).mono ?_; rintro e w10 ⟨rfl, x10⟩; have a_10 := a_9.ext x10; have b_10 := b_9.ext x10; have l_10 := l_9.ext x10; have F10 : Ext w w10 := (F9.trans x10); clear x10; have l_100 : w10.cell? ⟨w2.heap.size, 0, none⟩ = some (.bool true) := l_10.cell 0; have l_101 : w10.cell? ⟨w2.heap.size, 1, none⟩ = some (.bool false) := l_10.cell 1; have l_102 : w10.cell? ⟨w2.heap.size, 2, none⟩ = some (.bool false) := l_10.cell 2; have l_103 : w10.cell? ⟨w2.heap.size, 3, none⟩ = some (.bool true) := l_10.cell 3; have l_104 : w10.cell? ⟨w2.heap.size, 4, none⟩ = some (.bool false) := l_10.cell 4; have l_105 : w10.cell? ⟨w2.heap.size, 5, none⟩ = some (.bool true) := l_10.cell 5; have m11 : True := trivial)
    | fail)
  go_ret
  exact ⟨rfl, F10⟩
set_option maxRecDepth 100000 in
set_option maxHeartbeats 2000000 in
theorem sides_gt (ka na nb : Int) (ba bb : Bool) (sa sb : ByteArray) (w : World) (ga : sa.size ≤ 9223372036854775807) (gb : sb.size ≤ 9223372036854775807) (G : Good w) (hca : checkT ka ba na sa = 0) (hcb : checkT ka bb nb sb = 0) (l1 : (ka == 1) = false) (hc : cmpD ⟨ka, ba, na, sa⟩ ⟨ka, bb, nb, sb⟩ = 1) :
    Calls Tryd.prog 11 #[.agg #[.int .u8 (ka), .bool (ba), .int .i64 (na), .string (sa)], .agg #[.int .u8 (ka), .bool (bb), .int .i64 (nb), .string (sb)]] w fun e w' => e = .returned (.bool true) ∧ Ext w w' := by
  have H0 : Hid (compareR 11 ⟨ka, ba, na, sa⟩ ⟨ka, bb, nb, sb⟩ = (⟨2, false, 0, ⟨#[]⟩⟩, 0)) := Lib.hid (by unfold compareR; rw [if_pos ⟨by omega, hca, hcb⟩, if_neg (by simpa using l1), if_pos rfl, hc]; rfl)
  have H1 : Hid (compareR 12 ⟨ka, ba, na, sa⟩ ⟨ka, bb, nb, sb⟩ = (⟨2, true, 0, ⟨#[]⟩⟩, 0)) := Lib.hid (by unfold compareR; rw [if_pos ⟨by omega, hca, hcb⟩, if_neg (by simpa using l1), if_pos rfl, hc]; rfl)
  have H2 : Hid (compareR 13 ⟨ka, ba, na, sa⟩ ⟨ka, bb, nb, sb⟩ = (⟨2, false, 0, ⟨#[]⟩⟩, 0)) := Lib.hid (by unfold compareR; rw [if_pos ⟨by omega, hca, hcb⟩, if_neg (by simpa using l1), if_pos rfl, hc]; rfl)
  have H3 : Hid (compareR 14 ⟨ka, ba, na, sa⟩ ⟨ka, bb, nb, sb⟩ = (⟨2, false, 0, ⟨#[]⟩⟩, 0)) := Lib.hid (by unfold compareR; rw [if_pos ⟨by omega, hca, hcb⟩, if_neg (by simpa using l1), if_pos rfl, hc]; rfl)
  have H4 : Hid (compareR 15 ⟨ka, ba, na, sa⟩ ⟨ka, bb, nb, sb⟩ = (⟨2, true, 0, ⟨#[]⟩⟩, 0)) := Lib.hid (by unfold compareR; rw [if_pos ⟨by omega, hca, hcb⟩, if_neg (by simpa using l1), if_pos rfl, hc]; rfl)
  have H5 : Hid (compareR 16 ⟨ka, ba, na, sa⟩ ⟨ka, bb, nb, sb⟩ = (⟨2, true, 0, ⟨#[]⟩⟩, 0)) := Lib.hid (by unfold compareR; rw [if_pos ⟨by omega, hca, hcb⟩, if_neg (by simpa using l1), if_pos rfl, hc]; rfl)
  have HCA := Lib.hid hca
  clear hca
  have HCB := Lib.hid hcb
  clear hcb
  have HC := Lib.hid hc
  clear hc
  have l3 : (ka != ka) = false := by simp
  have a_0 : Bk ((w.alloc (.cells #[.int .u8 (ka), .bool (ba), .int .i64 (na), .string (sa)] 24)).alloc (.cells #[.int .u8 (ka), .bool (bb), .int .i64 (nb), .string (sb)] 24)) w.heap.size 24 #[.int .u8 (ka), .bool (ba), .int .i64 (na), .string (sa)] := (Bk.new _ _ _).alloc _
  have b_0 : Bk ((w.alloc (.cells #[.int .u8 (ka), .bool (ba), .int .i64 (na), .string (sa)] 24)).alloc (.cells #[.int .u8 (ka), .bool (bb), .int .i64 (nb), .string (sb)] 24)) (w.heap.size + 1) 24 #[.int .u8 (ka), .bool (bb), .int .i64 (nb), .string (sb)] := Bk.at (by simp)
  have F0 : Ext w ((w.alloc (.cells #[.int .u8 (ka), .bool (ba), .int .i64 (na), .string (sa)] 24)).alloc (.cells #[.int .u8 (ka), .bool (bb), .int .i64 (nb), .string (sb)] 24)) := ((Ext.refl w).alloc _).alloc _
  have m1 : True := trivial
  go_enter Tryd.func11, Tryd.ntmps11
  go_wp2_with (first
    | (have z := m1; clear z m1; go_at_call 15; refine (check_at _ _ _ _ _ HCA ga (G.ext F0)).mono ?_; rintro e w1 ⟨rfl, x1⟩; have a_1 := a_0.ext x1; have b_1 := b_0.ext x1; have F1 : Ext w w1 := (F0.trans x1); clear x1; have a_10 : w1.cell? ⟨w.heap.size, 0, none⟩ = some (.int .u8 (ka)) := a_1.cell 0; have a_11 : w1.cell? ⟨w.heap.size, 1, none⟩ = some (.bool (ba)) := a_1.cell 1; have a_12 : w1.cell? ⟨w.heap.size, 2, none⟩ = some (.int .i64 (na)) := a_1.cell 2; have a_13 : w1.cell? ⟨w.heap.size, 3, none⟩ = some (.string (sa)) := a_1.cell 3; have b_10 : w1.cell? ⟨w.heap.size + 1, 0, none⟩ = some (.int .u8 (ka)) := b_1.cell 0; have b_11 : w1.cell? ⟨w.heap.size + 1, 1, none⟩ = some (.bool (bb)) := b_1.cell 1; have b_12 : w1.cell? ⟨w.heap.size + 1, 2, none⟩ = some (.int .i64 (nb)) := b_1.cell 2; have b_13 : w1.cell? ⟨w.heap.size + 1, 3, none⟩ = some (.string (sb)) := b_1.cell 3; have m2 : True := trivial)
    | (have z := m2; clear z m2; go_at_call 15; refine (check_at _ _ _ _ _ HCB gb (G.ext F1)).mono ?_; rintro e w2 ⟨rfl, x2⟩; have ap2_0 : w2.cell? ⟨w.heap.size, 0, none⟩ = some (.int .u8 (ka)) := (a_1.ext x2).cell 0; have ap2_1 : w2.cell? ⟨w.heap.size, 1, none⟩ = some (.bool (ba)) := (a_1.ext x2).cell 1; have ap2_2 : w2.cell? ⟨w.heap.size, 2, none⟩ = some (.int .i64 (na)) := (a_1.ext x2).cell 2; have ap2_3 : w2.cell? ⟨w.heap.size, 3, none⟩ = some (.string (sa)) := (a_1.ext x2).cell 3; have bp2_0 : w2.cell? ⟨w.heap.size + 1, 0, none⟩ = some (.int .u8 (ka)) := (b_1.ext x2).cell 0; have bp2_1 : w2.cell? ⟨w.heap.size + 1, 1, none⟩ = some (.bool (bb)) := (b_1.ext x2).cell 1; have bp2_2 : w2.cell? ⟨w.heap.size + 1, 2, none⟩ = some (.int .i64 (nb)) := (b_1.ext x2).cell 2; have bp2_3 : w2.cell? ⟨w.heap.size + 1, 3, none⟩ = some (.string (sb)) := (b_1.ext x2).cell 3; have a_2 := (a_1.ext x2).alloc (.cells #[.bool false, .bool false, .bool false, .bool false, .bool false, .bool false] 47); have b_2 := (b_1.ext x2).alloc (.cells #[.bool false, .bool false, .bool false, .bool false, .bool false, .bool false] 47); have F2 : Ext w (w2.alloc (.cells #[.bool false, .bool false, .bool false, .bool false, .bool false, .bool false] 47)) := (F1.trans x2).alloc _; have l_2 := Bk.new w2 47 #[.bool false, .bool false, .bool false, .bool false, .bool false, .bool false]; have gl : w.heap.size ≤ w2.heap.size := (F1.trans x2).size; have gl2 : w.heap.size + 1 < w2.heap.size := (b_1.ext x2).lt; clear x2; have a_20 : (w2.alloc (.cells #[.bool false, .bool false, .bool false, .bool false, .bool false, .bool false] 47)).cell? ⟨w.heap.size, 0, none⟩ = some (.int .u8 (ka)) := a_2.cell 0; have a_21 : (w2.alloc (.cells #[.bool false, .bool false, .bool false, .bool false, .bool false, .bool false] 47)).cell? ⟨w.heap.size, 1, none⟩ = some (.bool (ba)) := a_2.cell 1; have a_22 : (w2.alloc (.cells #[.bool false, .bool false, .bool false, .bool false, .bool false, .bool false] 47)).cell? ⟨w.heap.size, 2, none⟩ = some (.int .i64 (na)) := a_2.cell 2; have a_23 : (w2.alloc (.cells #[.bool false, .bool false, .bool false, .bool false, .bool false, .bool false] 47)).cell? ⟨w.heap.size, 3, none⟩ = some (.string (sa)) := a_2.cell 3; have b_20 : (w2.alloc (.cells #[.bool false, .bool false, .bool false, .bool false, .bool false, .bool false] 47)).cell? ⟨w.heap.size + 1, 0, none⟩ = some (.int .u8 (ka)) := b_2.cell 0; have b_21 : (w2.alloc (.cells #[.bool false, .bool false, .bool false, .bool false, .bool false, .bool false] 47)).cell? ⟨w.heap.size + 1, 1, none⟩ = some (.bool (bb)) := b_2.cell 1; have b_22 : (w2.alloc (.cells #[.bool false, .bool false, .bool false, .bool false, .bool false, .bool false] 47)).cell? ⟨w.heap.size + 1, 2, none⟩ = some (.int .i64 (nb)) := b_2.cell 2; have b_23 : (w2.alloc (.cells #[.bool false, .bool false, .bool false, .bool false, .bool false, .bool false] 47)).cell? ⟨w.heap.size + 1, 3, none⟩ = some (.string (sb)) := b_2.cell 3; have m3 : True := trivial)
    | fail)
  refine wp_loop_rounds 7 ?_
  rw [rounds_succ]
  go_wp2_with fail
  have z := m3; clear z m3; go_at_call 45
  refine (compare_at _ _ _ _ _ _ _ _ _ H0 ga gb (G.ext F2)).mono ?_
  rintro e w3 ⟨rfl, x3⟩
  have a_3 : Bk ((w3.alloc (.cells #[.int .u8 (2), .bool (false), .int .i64 (0), .string (⟨#[]⟩)] 24)).setCell ⟨w2.heap.size, 0, none⟩ (.bool false)) (w.heap.size) 24 #[.int .u8 (ka), .bool (ba), .int .i64 (na), .string (sa)] := Bk.far (p := ⟨w2.heap.size, 0, none⟩) ((a_2.ext x3).alloc _) (by show w.heap.size ≠ w2.heap.size; omega) _
  have b_3 : Bk ((w3.alloc (.cells #[.int .u8 (2), .bool (false), .int .i64 (0), .string (⟨#[]⟩)] 24)).setCell ⟨w2.heap.size, 0, none⟩ (.bool false)) (w.heap.size + 1) 24 #[.int .u8 (ka), .bool (bb), .int .i64 (nb), .string (sb)] := Bk.far (p := ⟨w2.heap.size, 0, none⟩) ((b_2.ext x3).alloc _) (by show w.heap.size + 1 ≠ w2.heap.size; omega) _
  have l_3 : Bk ((w3.alloc (.cells #[.int .u8 (2), .bool (false), .int .i64 (0), .string (⟨#[]⟩)] 24)).setCell ⟨w2.heap.size, 0, none⟩ (.bool false)) w2.heap.size 47 #[.bool false, .bool false, .bool false, .bool false, .bool false, .bool false] := ((l_2.ext x3).alloc _).set 0 (.bool false)
  have lf3 : (w3.alloc (.cells #[.int .u8 (2), .bool (false), .int .i64 (0), .string (⟨#[]⟩)] 24)).frozen? ⟨w2.heap.size, 0, none⟩ = false := ((l_2.ext x3).alloc _).free 0
  have lc3 : (w3.alloc (.cells #[.int .u8 (2), .bool (false), .int .i64 (0), .string (⟨#[]⟩)] 24)).cell? ⟨w2.heap.size, 0, none⟩ = some (.bool false) := ((l_2.ext x3).alloc _).cell 0
  have F3 : Ext w ((w3.alloc (.cells #[.int .u8 (2), .bool (false), .int .i64 (0), .string (⟨#[]⟩)] 24)).setCell ⟨w2.heap.size, 0, none⟩ (.bool false)) := Ext.set (p := ⟨w2.heap.size, 0, none⟩) ((F2.trans x3).alloc _) (by show w.heap.size ≤ w2.heap.size; exact gl) _
  clear x3
  have a_30 : ((w3.alloc (.cells #[.int .u8 (2), .bool (false), .int .i64 (0), .string (⟨#[]⟩)] 24)).setCell ⟨w2.heap.size, 0, none⟩ (.bool false)).cell? ⟨w.heap.size, 0, none⟩ = some (.int .u8 (ka)) := a_3.cell 0
  have a_31 : ((w3.alloc (.cells #[.int .u8 (2), .bool (false), .int .i64 (0), .string (⟨#[]⟩)] 24)).setCell ⟨w2.heap.size, 0, none⟩ (.bool false)).cell? ⟨w.heap.size, 1, none⟩ = some (.bool (ba)) := a_3.cell 1
  have a_32 : ((w3.alloc (.cells #[.int .u8 (2), .bool (false), .int .i64 (0), .string (⟨#[]⟩)] 24)).setCell ⟨w2.heap.size, 0, none⟩ (.bool false)).cell? ⟨w.heap.size, 2, none⟩ = some (.int .i64 (na)) := a_3.cell 2
  have a_33 : ((w3.alloc (.cells #[.int .u8 (2), .bool (false), .int .i64 (0), .string (⟨#[]⟩)] 24)).setCell ⟨w2.heap.size, 0, none⟩ (.bool false)).cell? ⟨w.heap.size, 3, none⟩ = some (.string (sa)) := a_3.cell 3
  have b_30 : ((w3.alloc (.cells #[.int .u8 (2), .bool (false), .int .i64 (0), .string (⟨#[]⟩)] 24)).setCell ⟨w2.heap.size, 0, none⟩ (.bool false)).cell? ⟨w.heap.size + 1, 0, none⟩ = some (.int .u8 (ka)) := b_3.cell 0
  have b_31 : ((w3.alloc (.cells #[.int .u8 (2), .bool (false), .int .i64 (0), .string (⟨#[]⟩)] 24)).setCell ⟨w2.heap.size, 0, none⟩ (.bool false)).cell? ⟨w.heap.size + 1, 1, none⟩ = some (.bool (bb)) := b_3.cell 1
  have b_32 : ((w3.alloc (.cells #[.int .u8 (2), .bool (false), .int .i64 (0), .string (⟨#[]⟩)] 24)).setCell ⟨w2.heap.size, 0, none⟩ (.bool false)).cell? ⟨w.heap.size + 1, 2, none⟩ = some (.int .i64 (nb)) := b_3.cell 2
  have b_33 : ((w3.alloc (.cells #[.int .u8 (2), .bool (false), .int .i64 (0), .string (⟨#[]⟩)] 24)).setCell ⟨w2.heap.size, 0, none⟩ (.bool false)).cell? ⟨w.heap.size + 1, 3, none⟩ = some (.string (sb)) := b_3.cell 3
  have m4 : True := trivial
  go_wp2_with fail
  rw [rounds_succ]
  go_wp2_with fail
  have z := m4; clear z m4; go_at_call 45
  refine (compare_at _ _ _ _ _ _ _ _ _ H1 ga gb (G.ext F3)).mono ?_
  rintro e w4 ⟨rfl, x4⟩
  have a_4 : Bk ((w4.alloc (.cells #[.int .u8 (2), .bool (true), .int .i64 (0), .string (⟨#[]⟩)] 24)).setCell ⟨w2.heap.size, 1, none⟩ (.bool true)) (w.heap.size) 24 #[.int .u8 (ka), .bool (ba), .int .i64 (na), .string (sa)] := Bk.far (p := ⟨w2.heap.size, 1, none⟩) ((a_3.ext x4).alloc _) (by show w.heap.size ≠ w2.heap.size; omega) _
  have b_4 : Bk ((w4.alloc (.cells #[.int .u8 (2), .bool (true), .int .i64 (0), .string (⟨#[]⟩)] 24)).setCell ⟨w2.heap.size, 1, none⟩ (.bool true)) (w.heap.size + 1) 24 #[.int .u8 (ka), .bool (bb), .int .i64 (nb), .string (sb)] := Bk.far (p := ⟨w2.heap.size, 1, none⟩) ((b_3.ext x4).alloc _) (by show w.heap.size + 1 ≠ w2.heap.size; omega) _
  have l_4 : Bk ((w4.alloc (.cells #[.int .u8 (2), .bool (true), .int .i64 (0), .string (⟨#[]⟩)] 24)).setCell ⟨w2.heap.size, 1, none⟩ (.bool true)) w2.heap.size 47 #[.bool false, .bool true, .bool false, .bool false, .bool false, .bool false] := ((l_3.ext x4).alloc _).set 1 (.bool true)
  have lf4 : (w4.alloc (.cells #[.int .u8 (2), .bool (true), .int .i64 (0), .string (⟨#[]⟩)] 24)).frozen? ⟨w2.heap.size, 1, none⟩ = false := ((l_3.ext x4).alloc _).free 1
  have lc4 : (w4.alloc (.cells #[.int .u8 (2), .bool (true), .int .i64 (0), .string (⟨#[]⟩)] 24)).cell? ⟨w2.heap.size, 1, none⟩ = some (.bool false) := ((l_3.ext x4).alloc _).cell 1
  have F4 : Ext w ((w4.alloc (.cells #[.int .u8 (2), .bool (true), .int .i64 (0), .string (⟨#[]⟩)] 24)).setCell ⟨w2.heap.size, 1, none⟩ (.bool true)) := Ext.set (p := ⟨w2.heap.size, 1, none⟩) ((F3.trans x4).alloc _) (by show w.heap.size ≤ w2.heap.size; exact gl) _
  clear x4
  have a_40 : ((w4.alloc (.cells #[.int .u8 (2), .bool (true), .int .i64 (0), .string (⟨#[]⟩)] 24)).setCell ⟨w2.heap.size, 1, none⟩ (.bool true)).cell? ⟨w.heap.size, 0, none⟩ = some (.int .u8 (ka)) := a_4.cell 0
  have a_41 : ((w4.alloc (.cells #[.int .u8 (2), .bool (true), .int .i64 (0), .string (⟨#[]⟩)] 24)).setCell ⟨w2.heap.size, 1, none⟩ (.bool true)).cell? ⟨w.heap.size, 1, none⟩ = some (.bool (ba)) := a_4.cell 1
  have a_42 : ((w4.alloc (.cells #[.int .u8 (2), .bool (true), .int .i64 (0), .string (⟨#[]⟩)] 24)).setCell ⟨w2.heap.size, 1, none⟩ (.bool true)).cell? ⟨w.heap.size, 2, none⟩ = some (.int .i64 (na)) := a_4.cell 2
  have a_43 : ((w4.alloc (.cells #[.int .u8 (2), .bool (true), .int .i64 (0), .string (⟨#[]⟩)] 24)).setCell ⟨w2.heap.size, 1, none⟩ (.bool true)).cell? ⟨w.heap.size, 3, none⟩ = some (.string (sa)) := a_4.cell 3
  have b_40 : ((w4.alloc (.cells #[.int .u8 (2), .bool (true), .int .i64 (0), .string (⟨#[]⟩)] 24)).setCell ⟨w2.heap.size, 1, none⟩ (.bool true)).cell? ⟨w.heap.size + 1, 0, none⟩ = some (.int .u8 (ka)) := b_4.cell 0
  have b_41 : ((w4.alloc (.cells #[.int .u8 (2), .bool (true), .int .i64 (0), .string (⟨#[]⟩)] 24)).setCell ⟨w2.heap.size, 1, none⟩ (.bool true)).cell? ⟨w.heap.size + 1, 1, none⟩ = some (.bool (bb)) := b_4.cell 1
  have b_42 : ((w4.alloc (.cells #[.int .u8 (2), .bool (true), .int .i64 (0), .string (⟨#[]⟩)] 24)).setCell ⟨w2.heap.size, 1, none⟩ (.bool true)).cell? ⟨w.heap.size + 1, 2, none⟩ = some (.int .i64 (nb)) := b_4.cell 2
  have b_43 : ((w4.alloc (.cells #[.int .u8 (2), .bool (true), .int .i64 (0), .string (⟨#[]⟩)] 24)).setCell ⟨w2.heap.size, 1, none⟩ (.bool true)).cell? ⟨w.heap.size + 1, 3, none⟩ = some (.string (sb)) := b_4.cell 3
  have m5 : True := trivial
  go_wp2_with fail
  rw [rounds_succ]
  go_wp2_with fail
  have z := m5; clear z m5; go_at_call 45
  refine (compare_at _ _ _ _ _ _ _ _ _ H2 ga gb (G.ext F4)).mono ?_
  rintro e w5 ⟨rfl, x5⟩
  have a_5 : Bk ((w5.alloc (.cells #[.int .u8 (2), .bool (false), .int .i64 (0), .string (⟨#[]⟩)] 24)).setCell ⟨w2.heap.size, 2, none⟩ (.bool false)) (w.heap.size) 24 #[.int .u8 (ka), .bool (ba), .int .i64 (na), .string (sa)] := Bk.far (p := ⟨w2.heap.size, 2, none⟩) ((a_4.ext x5).alloc _) (by show w.heap.size ≠ w2.heap.size; omega) _
  have b_5 : Bk ((w5.alloc (.cells #[.int .u8 (2), .bool (false), .int .i64 (0), .string (⟨#[]⟩)] 24)).setCell ⟨w2.heap.size, 2, none⟩ (.bool false)) (w.heap.size + 1) 24 #[.int .u8 (ka), .bool (bb), .int .i64 (nb), .string (sb)] := Bk.far (p := ⟨w2.heap.size, 2, none⟩) ((b_4.ext x5).alloc _) (by show w.heap.size + 1 ≠ w2.heap.size; omega) _
  have l_5 : Bk ((w5.alloc (.cells #[.int .u8 (2), .bool (false), .int .i64 (0), .string (⟨#[]⟩)] 24)).setCell ⟨w2.heap.size, 2, none⟩ (.bool false)) w2.heap.size 47 #[.bool false, .bool true, .bool false, .bool false, .bool false, .bool false] := ((l_4.ext x5).alloc _).set 2 (.bool false)
  have lf5 : (w5.alloc (.cells #[.int .u8 (2), .bool (false), .int .i64 (0), .string (⟨#[]⟩)] 24)).frozen? ⟨w2.heap.size, 2, none⟩ = false := ((l_4.ext x5).alloc _).free 2
  have lc5 : (w5.alloc (.cells #[.int .u8 (2), .bool (false), .int .i64 (0), .string (⟨#[]⟩)] 24)).cell? ⟨w2.heap.size, 2, none⟩ = some (.bool false) := ((l_4.ext x5).alloc _).cell 2
  have F5 : Ext w ((w5.alloc (.cells #[.int .u8 (2), .bool (false), .int .i64 (0), .string (⟨#[]⟩)] 24)).setCell ⟨w2.heap.size, 2, none⟩ (.bool false)) := Ext.set (p := ⟨w2.heap.size, 2, none⟩) ((F4.trans x5).alloc _) (by show w.heap.size ≤ w2.heap.size; exact gl) _
  clear x5
  have a_50 : ((w5.alloc (.cells #[.int .u8 (2), .bool (false), .int .i64 (0), .string (⟨#[]⟩)] 24)).setCell ⟨w2.heap.size, 2, none⟩ (.bool false)).cell? ⟨w.heap.size, 0, none⟩ = some (.int .u8 (ka)) := a_5.cell 0
  have a_51 : ((w5.alloc (.cells #[.int .u8 (2), .bool (false), .int .i64 (0), .string (⟨#[]⟩)] 24)).setCell ⟨w2.heap.size, 2, none⟩ (.bool false)).cell? ⟨w.heap.size, 1, none⟩ = some (.bool (ba)) := a_5.cell 1
  have a_52 : ((w5.alloc (.cells #[.int .u8 (2), .bool (false), .int .i64 (0), .string (⟨#[]⟩)] 24)).setCell ⟨w2.heap.size, 2, none⟩ (.bool false)).cell? ⟨w.heap.size, 2, none⟩ = some (.int .i64 (na)) := a_5.cell 2
  have a_53 : ((w5.alloc (.cells #[.int .u8 (2), .bool (false), .int .i64 (0), .string (⟨#[]⟩)] 24)).setCell ⟨w2.heap.size, 2, none⟩ (.bool false)).cell? ⟨w.heap.size, 3, none⟩ = some (.string (sa)) := a_5.cell 3
  have b_50 : ((w5.alloc (.cells #[.int .u8 (2), .bool (false), .int .i64 (0), .string (⟨#[]⟩)] 24)).setCell ⟨w2.heap.size, 2, none⟩ (.bool false)).cell? ⟨w.heap.size + 1, 0, none⟩ = some (.int .u8 (ka)) := b_5.cell 0
  have b_51 : ((w5.alloc (.cells #[.int .u8 (2), .bool (false), .int .i64 (0), .string (⟨#[]⟩)] 24)).setCell ⟨w2.heap.size, 2, none⟩ (.bool false)).cell? ⟨w.heap.size + 1, 1, none⟩ = some (.bool (bb)) := b_5.cell 1
  have b_52 : ((w5.alloc (.cells #[.int .u8 (2), .bool (false), .int .i64 (0), .string (⟨#[]⟩)] 24)).setCell ⟨w2.heap.size, 2, none⟩ (.bool false)).cell? ⟨w.heap.size + 1, 2, none⟩ = some (.int .i64 (nb)) := b_5.cell 2
  have b_53 : ((w5.alloc (.cells #[.int .u8 (2), .bool (false), .int .i64 (0), .string (⟨#[]⟩)] 24)).setCell ⟨w2.heap.size, 2, none⟩ (.bool false)).cell? ⟨w.heap.size + 1, 3, none⟩ = some (.string (sb)) := b_5.cell 3
  have m6 : True := trivial
  go_wp2_with fail
  rw [rounds_succ]
  go_wp2_with fail
  have z := m6; clear z m6; go_at_call 45
  refine (compare_at _ _ _ _ _ _ _ _ _ H3 ga gb (G.ext F5)).mono ?_
  rintro e w6 ⟨rfl, x6⟩
  have a_6 : Bk ((w6.alloc (.cells #[.int .u8 (2), .bool (false), .int .i64 (0), .string (⟨#[]⟩)] 24)).setCell ⟨w2.heap.size, 3, none⟩ (.bool false)) (w.heap.size) 24 #[.int .u8 (ka), .bool (ba), .int .i64 (na), .string (sa)] := Bk.far (p := ⟨w2.heap.size, 3, none⟩) ((a_5.ext x6).alloc _) (by show w.heap.size ≠ w2.heap.size; omega) _
  have b_6 : Bk ((w6.alloc (.cells #[.int .u8 (2), .bool (false), .int .i64 (0), .string (⟨#[]⟩)] 24)).setCell ⟨w2.heap.size, 3, none⟩ (.bool false)) (w.heap.size + 1) 24 #[.int .u8 (ka), .bool (bb), .int .i64 (nb), .string (sb)] := Bk.far (p := ⟨w2.heap.size, 3, none⟩) ((b_5.ext x6).alloc _) (by show w.heap.size + 1 ≠ w2.heap.size; omega) _
  have l_6 : Bk ((w6.alloc (.cells #[.int .u8 (2), .bool (false), .int .i64 (0), .string (⟨#[]⟩)] 24)).setCell ⟨w2.heap.size, 3, none⟩ (.bool false)) w2.heap.size 47 #[.bool false, .bool true, .bool false, .bool false, .bool false, .bool false] := ((l_5.ext x6).alloc _).set 3 (.bool false)
  have lf6 : (w6.alloc (.cells #[.int .u8 (2), .bool (false), .int .i64 (0), .string (⟨#[]⟩)] 24)).frozen? ⟨w2.heap.size, 3, none⟩ = false := ((l_5.ext x6).alloc _).free 3
  have lc6 : (w6.alloc (.cells #[.int .u8 (2), .bool (false), .int .i64 (0), .string (⟨#[]⟩)] 24)).cell? ⟨w2.heap.size, 3, none⟩ = some (.bool false) := ((l_5.ext x6).alloc _).cell 3
  have F6 : Ext w ((w6.alloc (.cells #[.int .u8 (2), .bool (false), .int .i64 (0), .string (⟨#[]⟩)] 24)).setCell ⟨w2.heap.size, 3, none⟩ (.bool false)) := Ext.set (p := ⟨w2.heap.size, 3, none⟩) ((F5.trans x6).alloc _) (by show w.heap.size ≤ w2.heap.size; exact gl) _
  clear x6
  have a_60 : ((w6.alloc (.cells #[.int .u8 (2), .bool (false), .int .i64 (0), .string (⟨#[]⟩)] 24)).setCell ⟨w2.heap.size, 3, none⟩ (.bool false)).cell? ⟨w.heap.size, 0, none⟩ = some (.int .u8 (ka)) := a_6.cell 0
  have a_61 : ((w6.alloc (.cells #[.int .u8 (2), .bool (false), .int .i64 (0), .string (⟨#[]⟩)] 24)).setCell ⟨w2.heap.size, 3, none⟩ (.bool false)).cell? ⟨w.heap.size, 1, none⟩ = some (.bool (ba)) := a_6.cell 1
  have a_62 : ((w6.alloc (.cells #[.int .u8 (2), .bool (false), .int .i64 (0), .string (⟨#[]⟩)] 24)).setCell ⟨w2.heap.size, 3, none⟩ (.bool false)).cell? ⟨w.heap.size, 2, none⟩ = some (.int .i64 (na)) := a_6.cell 2
  have a_63 : ((w6.alloc (.cells #[.int .u8 (2), .bool (false), .int .i64 (0), .string (⟨#[]⟩)] 24)).setCell ⟨w2.heap.size, 3, none⟩ (.bool false)).cell? ⟨w.heap.size, 3, none⟩ = some (.string (sa)) := a_6.cell 3
  have b_60 : ((w6.alloc (.cells #[.int .u8 (2), .bool (false), .int .i64 (0), .string (⟨#[]⟩)] 24)).setCell ⟨w2.heap.size, 3, none⟩ (.bool false)).cell? ⟨w.heap.size + 1, 0, none⟩ = some (.int .u8 (ka)) := b_6.cell 0
  have b_61 : ((w6.alloc (.cells #[.int .u8 (2), .bool (false), .int .i64 (0), .string (⟨#[]⟩)] 24)).setCell ⟨w2.heap.size, 3, none⟩ (.bool false)).cell? ⟨w.heap.size + 1, 1, none⟩ = some (.bool (bb)) := b_6.cell 1
  have b_62 : ((w6.alloc (.cells #[.int .u8 (2), .bool (false), .int .i64 (0), .string (⟨#[]⟩)] 24)).setCell ⟨w2.heap.size, 3, none⟩ (.bool false)).cell? ⟨w.heap.size + 1, 2, none⟩ = some (.int .i64 (nb)) := b_6.cell 2
  have b_63 : ((w6.alloc (.cells #[.int .u8 (2), .bool (false), .int .i64 (0), .string (⟨#[]⟩)] 24)).setCell ⟨w2.heap.size, 3, none⟩ (.bool false)).cell? ⟨w.heap.size + 1, 3, none⟩ = some (.string (sb)) := b_6.cell 3
  have m7 : True := trivial
  go_wp2_with fail
  rw [rounds_succ]
  go_wp2_with fail
  have z := m7; clear z m7; go_at_call 45
  refine (compare_at _ _ _ _ _ _ _ _ _ H4 ga gb (G.ext F6)).mono ?_
  rintro e w7 ⟨rfl, x7⟩
  have a_7 : Bk ((w7.alloc (.cells #[.int .u8 (2), .bool (true), .int .i64 (0), .string (⟨#[]⟩)] 24)).setCell ⟨w2.heap.size, 4, none⟩ (.bool true)) (w.heap.size) 24 #[.int .u8 (ka), .bool (ba), .int .i64 (na), .string (sa)] := Bk.far (p := ⟨w2.heap.size, 4, none⟩) ((a_6.ext x7).alloc _) (by show w.heap.size ≠ w2.heap.size; omega) _
  have b_7 : Bk ((w7.alloc (.cells #[.int .u8 (2), .bool (true), .int .i64 (0), .string (⟨#[]⟩)] 24)).setCell ⟨w2.heap.size, 4, none⟩ (.bool true)) (w.heap.size + 1) 24 #[.int .u8 (ka), .bool (bb), .int .i64 (nb), .string (sb)] := Bk.far (p := ⟨w2.heap.size, 4, none⟩) ((b_6.ext x7).alloc _) (by show w.heap.size + 1 ≠ w2.heap.size; omega) _
  have l_7 : Bk ((w7.alloc (.cells #[.int .u8 (2), .bool (true), .int .i64 (0), .string (⟨#[]⟩)] 24)).setCell ⟨w2.heap.size, 4, none⟩ (.bool true)) w2.heap.size 47 #[.bool false, .bool true, .bool false, .bool false, .bool true, .bool false] := ((l_6.ext x7).alloc _).set 4 (.bool true)
  have lf7 : (w7.alloc (.cells #[.int .u8 (2), .bool (true), .int .i64 (0), .string (⟨#[]⟩)] 24)).frozen? ⟨w2.heap.size, 4, none⟩ = false := ((l_6.ext x7).alloc _).free 4
  have lc7 : (w7.alloc (.cells #[.int .u8 (2), .bool (true), .int .i64 (0), .string (⟨#[]⟩)] 24)).cell? ⟨w2.heap.size, 4, none⟩ = some (.bool false) := ((l_6.ext x7).alloc _).cell 4
  have F7 : Ext w ((w7.alloc (.cells #[.int .u8 (2), .bool (true), .int .i64 (0), .string (⟨#[]⟩)] 24)).setCell ⟨w2.heap.size, 4, none⟩ (.bool true)) := Ext.set (p := ⟨w2.heap.size, 4, none⟩) ((F6.trans x7).alloc _) (by show w.heap.size ≤ w2.heap.size; exact gl) _
  clear x7
  have a_70 : ((w7.alloc (.cells #[.int .u8 (2), .bool (true), .int .i64 (0), .string (⟨#[]⟩)] 24)).setCell ⟨w2.heap.size, 4, none⟩ (.bool true)).cell? ⟨w.heap.size, 0, none⟩ = some (.int .u8 (ka)) := a_7.cell 0
  have a_71 : ((w7.alloc (.cells #[.int .u8 (2), .bool (true), .int .i64 (0), .string (⟨#[]⟩)] 24)).setCell ⟨w2.heap.size, 4, none⟩ (.bool true)).cell? ⟨w.heap.size, 1, none⟩ = some (.bool (ba)) := a_7.cell 1
  have a_72 : ((w7.alloc (.cells #[.int .u8 (2), .bool (true), .int .i64 (0), .string (⟨#[]⟩)] 24)).setCell ⟨w2.heap.size, 4, none⟩ (.bool true)).cell? ⟨w.heap.size, 2, none⟩ = some (.int .i64 (na)) := a_7.cell 2
  have a_73 : ((w7.alloc (.cells #[.int .u8 (2), .bool (true), .int .i64 (0), .string (⟨#[]⟩)] 24)).setCell ⟨w2.heap.size, 4, none⟩ (.bool true)).cell? ⟨w.heap.size, 3, none⟩ = some (.string (sa)) := a_7.cell 3
  have b_70 : ((w7.alloc (.cells #[.int .u8 (2), .bool (true), .int .i64 (0), .string (⟨#[]⟩)] 24)).setCell ⟨w2.heap.size, 4, none⟩ (.bool true)).cell? ⟨w.heap.size + 1, 0, none⟩ = some (.int .u8 (ka)) := b_7.cell 0
  have b_71 : ((w7.alloc (.cells #[.int .u8 (2), .bool (true), .int .i64 (0), .string (⟨#[]⟩)] 24)).setCell ⟨w2.heap.size, 4, none⟩ (.bool true)).cell? ⟨w.heap.size + 1, 1, none⟩ = some (.bool (bb)) := b_7.cell 1
  have b_72 : ((w7.alloc (.cells #[.int .u8 (2), .bool (true), .int .i64 (0), .string (⟨#[]⟩)] 24)).setCell ⟨w2.heap.size, 4, none⟩ (.bool true)).cell? ⟨w.heap.size + 1, 2, none⟩ = some (.int .i64 (nb)) := b_7.cell 2
  have b_73 : ((w7.alloc (.cells #[.int .u8 (2), .bool (true), .int .i64 (0), .string (⟨#[]⟩)] 24)).setCell ⟨w2.heap.size, 4, none⟩ (.bool true)).cell? ⟨w.heap.size + 1, 3, none⟩ = some (.string (sb)) := b_7.cell 3
  have m8 : True := trivial
  go_wp2_with fail
  rw [rounds_succ]
  go_wp2_with fail
  have z := m8; clear z m8; go_at_call 45
  refine (compare_at _ _ _ _ _ _ _ _ _ H5 ga gb (G.ext F7)).mono ?_
  rintro e w8 ⟨rfl, x8⟩
  have a_8 : Bk ((w8.alloc (.cells #[.int .u8 (2), .bool (true), .int .i64 (0), .string (⟨#[]⟩)] 24)).setCell ⟨w2.heap.size, 5, none⟩ (.bool true)) (w.heap.size) 24 #[.int .u8 (ka), .bool (ba), .int .i64 (na), .string (sa)] := Bk.far (p := ⟨w2.heap.size, 5, none⟩) ((a_7.ext x8).alloc _) (by show w.heap.size ≠ w2.heap.size; omega) _
  have b_8 : Bk ((w8.alloc (.cells #[.int .u8 (2), .bool (true), .int .i64 (0), .string (⟨#[]⟩)] 24)).setCell ⟨w2.heap.size, 5, none⟩ (.bool true)) (w.heap.size + 1) 24 #[.int .u8 (ka), .bool (bb), .int .i64 (nb), .string (sb)] := Bk.far (p := ⟨w2.heap.size, 5, none⟩) ((b_7.ext x8).alloc _) (by show w.heap.size + 1 ≠ w2.heap.size; omega) _
  have l_8 : Bk ((w8.alloc (.cells #[.int .u8 (2), .bool (true), .int .i64 (0), .string (⟨#[]⟩)] 24)).setCell ⟨w2.heap.size, 5, none⟩ (.bool true)) w2.heap.size 47 #[.bool false, .bool true, .bool false, .bool false, .bool true, .bool true] := ((l_7.ext x8).alloc _).set 5 (.bool true)
  have lf8 : (w8.alloc (.cells #[.int .u8 (2), .bool (true), .int .i64 (0), .string (⟨#[]⟩)] 24)).frozen? ⟨w2.heap.size, 5, none⟩ = false := ((l_7.ext x8).alloc _).free 5
  have lc8 : (w8.alloc (.cells #[.int .u8 (2), .bool (true), .int .i64 (0), .string (⟨#[]⟩)] 24)).cell? ⟨w2.heap.size, 5, none⟩ = some (.bool false) := ((l_7.ext x8).alloc _).cell 5
  have F8 : Ext w ((w8.alloc (.cells #[.int .u8 (2), .bool (true), .int .i64 (0), .string (⟨#[]⟩)] 24)).setCell ⟨w2.heap.size, 5, none⟩ (.bool true)) := Ext.set (p := ⟨w2.heap.size, 5, none⟩) ((F7.trans x8).alloc _) (by show w.heap.size ≤ w2.heap.size; exact gl) _
  clear x8
  have a_80 : ((w8.alloc (.cells #[.int .u8 (2), .bool (true), .int .i64 (0), .string (⟨#[]⟩)] 24)).setCell ⟨w2.heap.size, 5, none⟩ (.bool true)).cell? ⟨w.heap.size, 0, none⟩ = some (.int .u8 (ka)) := a_8.cell 0
  have a_81 : ((w8.alloc (.cells #[.int .u8 (2), .bool (true), .int .i64 (0), .string (⟨#[]⟩)] 24)).setCell ⟨w2.heap.size, 5, none⟩ (.bool true)).cell? ⟨w.heap.size, 1, none⟩ = some (.bool (ba)) := a_8.cell 1
  have a_82 : ((w8.alloc (.cells #[.int .u8 (2), .bool (true), .int .i64 (0), .string (⟨#[]⟩)] 24)).setCell ⟨w2.heap.size, 5, none⟩ (.bool true)).cell? ⟨w.heap.size, 2, none⟩ = some (.int .i64 (na)) := a_8.cell 2
  have a_83 : ((w8.alloc (.cells #[.int .u8 (2), .bool (true), .int .i64 (0), .string (⟨#[]⟩)] 24)).setCell ⟨w2.heap.size, 5, none⟩ (.bool true)).cell? ⟨w.heap.size, 3, none⟩ = some (.string (sa)) := a_8.cell 3
  have b_80 : ((w8.alloc (.cells #[.int .u8 (2), .bool (true), .int .i64 (0), .string (⟨#[]⟩)] 24)).setCell ⟨w2.heap.size, 5, none⟩ (.bool true)).cell? ⟨w.heap.size + 1, 0, none⟩ = some (.int .u8 (ka)) := b_8.cell 0
  have b_81 : ((w8.alloc (.cells #[.int .u8 (2), .bool (true), .int .i64 (0), .string (⟨#[]⟩)] 24)).setCell ⟨w2.heap.size, 5, none⟩ (.bool true)).cell? ⟨w.heap.size + 1, 1, none⟩ = some (.bool (bb)) := b_8.cell 1
  have b_82 : ((w8.alloc (.cells #[.int .u8 (2), .bool (true), .int .i64 (0), .string (⟨#[]⟩)] 24)).setCell ⟨w2.heap.size, 5, none⟩ (.bool true)).cell? ⟨w.heap.size + 1, 2, none⟩ = some (.int .i64 (nb)) := b_8.cell 2
  have b_83 : ((w8.alloc (.cells #[.int .u8 (2), .bool (true), .int .i64 (0), .string (⟨#[]⟩)] 24)).setCell ⟨w2.heap.size, 5, none⟩ (.bool true)).cell? ⟨w.heap.size + 1, 3, none⟩ = some (.string (sb)) := b_8.cell 3
  have lz0 : ((w8.alloc (.cells #[.int .u8 (2), .bool (true), .int .i64 (0), .string (⟨#[]⟩)] 24)).setCell ⟨w2.heap.size, 5, none⟩ (.bool true)).cell? ⟨w2.heap.size, 0, none⟩ = some (.bool false) := l_8.cell 0
  have lz1 : ((w8.alloc (.cells #[.int .u8 (2), .bool (true), .int .i64 (0), .string (⟨#[]⟩)] 24)).setCell ⟨w2.heap.size, 5, none⟩ (.bool true)).cell? ⟨w2.heap.size, 1, none⟩ = some (.bool true) := l_8.cell 1
  have lz2 : ((w8.alloc (.cells #[.int .u8 (2), .bool (true), .int .i64 (0), .string (⟨#[]⟩)] 24)).setCell ⟨w2.heap.size, 5, none⟩ (.bool true)).cell? ⟨w2.heap.size, 2, none⟩ = some (.bool false) := l_8.cell 2
  have lz3 : ((w8.alloc (.cells #[.int .u8 (2), .bool (true), .int .i64 (0), .string (⟨#[]⟩)] 24)).setCell ⟨w2.heap.size, 5, none⟩ (.bool true)).cell? ⟨w2.heap.size, 3, none⟩ = some (.bool false) := l_8.cell 3
  have lz4 : ((w8.alloc (.cells #[.int .u8 (2), .bool (true), .int .i64 (0), .string (⟨#[]⟩)] 24)).setCell ⟨w2.heap.size, 5, none⟩ (.bool true)).cell? ⟨w2.heap.size, 4, none⟩ = some (.bool true) := l_8.cell 4
  have lz5 : ((w8.alloc (.cells #[.int .u8 (2), .bool (true), .int .i64 (0), .string (⟨#[]⟩)] 24)).setCell ⟨w2.heap.size, 5, none⟩ (.bool true)).cell? ⟨w2.heap.size, 5, none⟩ = some (.bool true) := l_8.cell 5
  have m9 : True := trivial
  go_wp2_with fail
  rw [rounds_succ]
  go_wp2_with fail
  refine wp_loop_rounds 7 ?_
  rw [rounds_succ]
  go_wp2_with fail
  rw [rounds_succ]
  go_wp2_with fail
  rw [rounds_succ]
  go_wp2_with fail
  rw [rounds_succ]
  go_wp2_with fail
  rw [rounds_succ]
  go_wp2_with fail
  rw [rounds_succ]
  go_wp2_with fail
  rw [rounds_succ]
  go_wp2_with (first
    | (have z := m9; clear z m9; go_at_call 39; refine (cmp_at _ _ _ _ _ _ _ _ _ HC).mono ?_; rintro e w9 ⟨rfl, x9⟩; have a_9 := a_8.ext x9; have b_9 := b_8.ext x9; have l_9 := l_8.ext x9; have F9 : Ext w w9 := (F8.trans x9); clear x9; have l_90 : w9.cell? ⟨w2.heap.size, 0, none⟩ = some (.bool false) := l_9.cell 0; have l_91 : w9.cell? ⟨w2.heap.size, 1, none⟩ = some (.bool true) := l_9.cell 1; have l_92 : w9.cell? ⟨w2.heap.size, 2, none⟩ = some (.bool false) := l_9.cell 2; have l_93 : w9.cell? ⟨w2.heap.size, 3, none⟩ = some (.bool false) := l_9.cell 3; have l_94 : w9.cell? ⟨w2.heap.size, 4, none⟩ = some (.bool true) := l_9.cell 4; have l_95 : w9.cell? ⟨w2.heap.size, 5, none⟩ = some (.bool true) := l_9.cell 5; have m10 : True := trivial)
    | (have z := m10; clear z m10; go_at_call 16; refine (known_true _ (G.ext F9)).mono ?_; rintro e w10 ⟨rfl, x10⟩; have a_10 := a_9.ext x10; have b_10 := b_9.ext x10; have l_10 := l_9.ext x10; have F10 : Ext w w10 := (F9.trans x10); clear x10; have l_100 : w10.cell? ⟨w2.heap.size, 0, none⟩ = some (.bool false) := l_10.cell 0; have l_101 : w10.cell? ⟨w2.heap.size, 1, none⟩ = some (.bool true) := l_10.cell 1; have l_102 : w10.cell? ⟨w2.heap.size, 2, none⟩ = some (.bool false) := l_10.cell 2; have l_103 : w10.cell? ⟨w2.heap.size, 3, none⟩ = some (.bool false) := l_10.cell 3; have l_104 : w10.cell? ⟨w2.heap.size, 4, none⟩ = some (.bool true) := l_10.cell 4; have l_105 : w10.cell? ⟨w2.heap.size, 5, none⟩ = some (.bool true) := l_10.cell 5; have m11 : True := trivial)
    | fail)
  go_ret
  exact ⟨rfl, F10⟩
theorem sides_any (a b : Dat) (w : World) (ga : a.s.size ≤ 9223372036854775807) (gb : b.s.size ≤ 9223372036854775807) (G : Good w) :
    Calls Tryd.prog 11 #[.agg #[.int .u8 a.k, .bool a.b, .int .i64 a.n, .string a.s], .agg #[.int .u8 b.k, .bool b.b, .int .i64 b.n, .string b.s]] w fun e w' => e = .returned (.bool true) ∧ Ext w w' := by
  obtain ⟨ka, ba, na, sa⟩ := a
  obtain ⟨kb, bb, nb, sb⟩ := b
  by_cases hca : checkT ka ba na sa = 0
  · by_cases hcb : checkT kb bb nb sb = 0
    · by_cases k3 : ka = kb
      · subst k3
        by_cases k1 : ka = 1
        · subst k1; exact sides_n na nb ba bb sa sb w ga gb G hca hcb
        · have l1 : (ka == 1) = false := by simpa using k1
          rcases cmpD_tri ⟨ka, ba, na, sa⟩ ⟨ka, bb, nb, sb⟩ with hc | hc | hc
          · exact sides_lt ka na nb ba bb sa sb w ga gb G hca hcb l1 hc
          · exact sides_eq ka na nb ba bb sa sb w ga gb G hca hcb l1 hc
          · exact sides_gt ka na nb ba bb sa sb w ga gb G hca hcb l1 hc
      · exact sides_k ka na kb nb ba bb sa sb w ga gb G hca hcb (by simpa using k3)
    · exact sides_b ka na kb nb _ ba bb sa sb w ga gb G hca rfl (by simpa using hcb)
  · exact sides_a ka na kb nb _ ba bb sa sb w ga gb G rfl (by simpa using hca)
end Go.Proofs.YtobgfegdfcpgfaaDoor
