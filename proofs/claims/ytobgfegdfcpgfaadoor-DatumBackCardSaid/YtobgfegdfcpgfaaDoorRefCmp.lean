/- penstockref01.sign, Cmp, Compare: they answer what datum's answer. Conditions: texts that lie in memory. -/
import Derived.Test.YtobgfegdfcpgfaaDoorDComp
import Derived.Test.YtobgfegdfcpgfaaDoorRefOf
namespace Go.Proofs.YtobgfegdfcpgfaaDoor
open Go.RowKit

def signI (l s : Bool) : Int := if l then -1 else if s then 0 else 1
set_option maxRecDepth 100000 in
set_option maxHeartbeats 400000 in
theorem sign_any (l s : Bool) (w : World) : Calls Tryd.prog 79 #[.bool l, .bool s] w fun e w' => e = .returned (.int .i64 (signI l s)) ∧ w = w' := by
  cases l <;> cases s
  all_goals
    go_enter Tryd.func79, Tryd.ntmps79
    go_wp2
    go_ret
    exact ⟨rfl, rfl⟩
set_option maxRecDepth 100000 in
set_option maxHeartbeats 800000 in
theorem rcmp_klt (ka na kb nb : Int) (ba bb : Bool) (sa sb : ByteArray) (w : World) (h : ka < kb) : Calls Tryd.prog 40 #[.agg #[.int .u8 (ka), .bool (ba), .int .i64 (na), .string (sa)], .agg #[.int .u8 (kb), .bool (bb), .int .i64 (nb), .string (sb)]] w fun e w' => e = .returned (.int .i64 (-1)) ∧ Ext w w' := by
  have z : (ka != kb) = true := by simp; omega
  go_enter Tryd.func40, Tryd.ntmps40
  go_wp2_with (go_at_call 79; refine (sign_any _ _ _).mono ?_; rintro e w1 ⟨rfl, rfl⟩)
  go_ret
  exact ⟨rfl, ((Ext.refl w).alloc _).alloc _⟩
set_option maxRecDepth 100000 in
set_option maxHeartbeats 800000 in
theorem rcmp_kgt (ka na kb nb : Int) (ba bb : Bool) (sa sb : ByteArray) (w : World) (h : kb < ka) : Calls Tryd.prog 40 #[.agg #[.int .u8 (ka), .bool (ba), .int .i64 (na), .string (sa)], .agg #[.int .u8 (kb), .bool (bb), .int .i64 (nb), .string (sb)]] w fun e w' => e = .returned (.int .i64 (1)) ∧ Ext w w' := by
  have z : (ka != kb) = true := by simp; omega
  have z2 : decide (ka < kb) = false := by simp; omega
  go_enter Tryd.func40, Tryd.ntmps40
  go_wp2_with (go_at_call 79; refine (sign_any _ _ _).mono ?_; rintro e w1 ⟨rfl, rfl⟩)
  go_ret
  exact ⟨rfl, ((Ext.refl w).alloc _).alloc _⟩
set_option maxRecDepth 100000 in
set_option maxHeartbeats 800000 in
theorem rcmp_b_false_false (na nb : Int) (sa sb : ByteArray) (w : World)  : Calls Tryd.prog 40 #[.agg #[.int .u8 (2), .bool (false), .int .i64 (na), .string (sa)], .agg #[.int .u8 (2), .bool (false), .int .i64 (nb), .string (sb)]] w fun e w' => e = .returned (.int .i64 (0)) ∧ Ext w w' := by
  go_enter Tryd.func40, Tryd.ntmps40
  go_wp2_with (go_at_call 79; refine (sign_any _ _ _).mono ?_; rintro e w1 ⟨rfl, rfl⟩)
  go_ret
  exact ⟨rfl, ((Ext.refl w).alloc _).alloc _⟩
set_option maxRecDepth 100000 in
set_option maxHeartbeats 800000 in
theorem rcmp_b_false_true (na nb : Int) (sa sb : ByteArray) (w : World)  : Calls Tryd.prog 40 #[.agg #[.int .u8 (2), .bool (false), .int .i64 (na), .string (sa)], .agg #[.int .u8 (2), .bool (true), .int .i64 (nb), .string (sb)]] w fun e w' => e = .returned (.int .i64 (-1)) ∧ Ext w w' := by
  go_enter Tryd.func40, Tryd.ntmps40
  go_wp2_with (go_at_call 79; refine (sign_any _ _ _).mono ?_; rintro e w1 ⟨rfl, rfl⟩)
  go_ret
  exact ⟨rfl, ((Ext.refl w).alloc _).alloc _⟩
set_option maxRecDepth 100000 in
set_option maxHeartbeats 800000 in
theorem rcmp_b_true_false (na nb : Int) (sa sb : ByteArray) (w : World)  : Calls Tryd.prog 40 #[.agg #[.int .u8 (2), .bool (true), .int .i64 (na), .string (sa)], .agg #[.int .u8 (2), .bool (false), .int .i64 (nb), .string (sb)]] w fun e w' => e = .returned (.int .i64 (1)) ∧ Ext w w' := by
  go_enter Tryd.func40, Tryd.ntmps40
  go_wp2_with (go_at_call 79; refine (sign_any _ _ _).mono ?_; rintro e w1 ⟨rfl, rfl⟩)
  go_ret
  exact ⟨rfl, ((Ext.refl w).alloc _).alloc _⟩
set_option maxRecDepth 100000 in
set_option maxHeartbeats 800000 in
theorem rcmp_b_true_true (na nb : Int) (sa sb : ByteArray) (w : World)  : Calls Tryd.prog 40 #[.agg #[.int .u8 (2), .bool (true), .int .i64 (na), .string (sa)], .agg #[.int .u8 (2), .bool (true), .int .i64 (nb), .string (sb)]] w fun e w' => e = .returned (.int .i64 (0)) ∧ Ext w w' := by
  go_enter Tryd.func40, Tryd.ntmps40
  go_wp2_with (go_at_call 79; refine (sign_any _ _ _).mono ?_; rintro e w1 ⟨rfl, rfl⟩)
  go_ret
  exact ⟨rfl, ((Ext.refl w).alloc _).alloc _⟩
set_option maxRecDepth 100000 in
set_option maxHeartbeats 800000 in
theorem rcmp_nlt (na nb : Int) (ba bb : Bool) (sa sb : ByteArray) (w : World) (h : na < nb) : Calls Tryd.prog 40 #[.agg #[.int .u8 (3), .bool (ba), .int .i64 (na), .string (sa)], .agg #[.int .u8 (3), .bool (bb), .int .i64 (nb), .string (sb)]] w fun e w' => e = .returned (.int .i64 (-1)) ∧ Ext w w' := by
  have z : (na == nb) = false := by simp; omega
  go_enter Tryd.func40, Tryd.ntmps40
  go_wp2_with (go_at_call 79; refine (sign_any _ _ _).mono ?_; rintro e w1 ⟨rfl, rfl⟩)
  go_ret
  exact ⟨rfl, ((Ext.refl w).alloc _).alloc _⟩
set_option maxRecDepth 100000 in
set_option maxHeartbeats 800000 in
theorem rcmp_neq (na : Int) (ba bb : Bool) (sa sb : ByteArray) (w : World)  : Calls Tryd.prog 40 #[.agg #[.int .u8 (3), .bool (ba), .int .i64 (na), .string (sa)], .agg #[.int .u8 (3), .bool (bb), .int .i64 (na), .string (sb)]] w fun e w' => e = .returned (.int .i64 (0)) ∧ Ext w w' := by
  have z2 : decide (na < na) = false := by simp
  go_enter Tryd.func40, Tryd.ntmps40
  go_wp2_with (go_at_call 79; refine (sign_any _ _ _).mono ?_; rintro e w1 ⟨rfl, rfl⟩)
  go_ret
  exact ⟨rfl, ((Ext.refl w).alloc _).alloc _⟩
set_option maxRecDepth 100000 in
set_option maxHeartbeats 800000 in
theorem rcmp_ngt (na nb : Int) (ba bb : Bool) (sa sb : ByteArray) (w : World) (h : nb < na) : Calls Tryd.prog 40 #[.agg #[.int .u8 (3), .bool (ba), .int .i64 (na), .string (sa)], .agg #[.int .u8 (3), .bool (bb), .int .i64 (nb), .string (sb)]] w fun e w' => e = .returned (.int .i64 (1)) ∧ Ext w w' := by
  have z : (na == nb) = false := by simp; omega
  have z2 : decide (na < nb) = false := by simp; omega
  go_enter Tryd.func40, Tryd.ntmps40
  go_wp2_with (go_at_call 79; refine (sign_any _ _ _).mono ?_; rintro e w1 ⟨rfl, rfl⟩)
  go_ret
  exact ⟨rfl, ((Ext.refl w).alloc _).alloc _⟩
set_option maxRecDepth 100000 in
set_option maxHeartbeats 800000 in
theorem rcmp_slt (na nb : Int) (ba bb : Bool) (sa sb : ByteArray) (w : World) (h : Op.bytesLess sa.toList sb.toList = true) : Calls Tryd.prog 40 #[.agg #[.int .u8 (4), .bool (ba), .int .i64 (na), .string (sa)], .agg #[.int .u8 (4), .bool (bb), .int .i64 (nb), .string (sb)]] w fun e w' => e = .returned (.int .i64 (-1)) ∧ Ext w w' := by
  go_enter Tryd.func40, Tryd.ntmps40
  go_wp2_with (go_at_call 79; refine (sign_any _ _ _).mono ?_; rintro e w1 ⟨rfl, rfl⟩)
  go_ret
  exact ⟨rfl, ((Ext.refl w).alloc _).alloc _⟩
set_option maxRecDepth 100000 in
set_option maxHeartbeats 800000 in
theorem rcmp_seq (na nb : Int) (ba bb : Bool) (sa sb : ByteArray) (w : World) (h : Op.bytesLess sa.toList sb.toList = false) (h2 : (sa.toList == sb.toList) = true) : Calls Tryd.prog 40 #[.agg #[.int .u8 (4), .bool (ba), .int .i64 (na), .string (sa)], .agg #[.int .u8 (4), .bool (bb), .int .i64 (nb), .string (sb)]] w fun e w' => e = .returned (.int .i64 (0)) ∧ Ext w w' := by
  go_enter Tryd.func40, Tryd.ntmps40
  go_wp2_with (go_at_call 79; refine (sign_any _ _ _).mono ?_; rintro e w1 ⟨rfl, rfl⟩)
  go_ret
  exact ⟨rfl, ((Ext.refl w).alloc _).alloc _⟩
set_option maxRecDepth 100000 in
set_option maxHeartbeats 800000 in
theorem rcmp_sgt (na nb : Int) (ba bb : Bool) (sa sb : ByteArray) (w : World) (h : Op.bytesLess sa.toList sb.toList = false) (h2 : (sa.toList == sb.toList) = false) : Calls Tryd.prog 40 #[.agg #[.int .u8 (4), .bool (ba), .int .i64 (na), .string (sa)], .agg #[.int .u8 (4), .bool (bb), .int .i64 (nb), .string (sb)]] w fun e w' => e = .returned (.int .i64 (1)) ∧ Ext w w' := by
  go_enter Tryd.func40, Tryd.ntmps40
  go_wp2_with (go_at_call 79; refine (sign_any _ _ _).mono ?_; rintro e w1 ⟨rfl, rfl⟩)
  go_ret
  exact ⟨rfl, ((Ext.refl w).alloc _).alloc _⟩
set_option maxRecDepth 100000 in
set_option maxHeartbeats 800000 in
theorem rcmp_oth (k : Int) (na nb : Int) (ba bb : Bool) (sa sb : ByteArray) (w : World) (h2 : ¬ k = 2) (h3 : ¬ k = 3) (h4 : ¬ k = 4) : Calls Tryd.prog 40 #[.agg #[.int .u8 (k), .bool (ba), .int .i64 (na), .string (sa)], .agg #[.int .u8 (k), .bool (bb), .int .i64 (nb), .string (sb)]] w fun e w' => e = .returned (.int .i64 (0)) ∧ Ext w w' := by
  have z : (k != k) = false := by simp
  have z2 : (k == 2) = false := by simpa using h2
  have z3 : (k == 3) = false := by simpa using h3
  have z4 : (k == 4) = false := by simpa using h4
  go_enter Tryd.func40, Tryd.ntmps40
  go_wp2
  go_ret
  exact ⟨rfl, ((Ext.refl w).alloc _).alloc _⟩
theorem rcmp_any (ka na kb nb : Int) (ba bb : Bool) (sa sb : ByteArray) (w : World) : Calls Tryd.prog 40 #[.agg #[.int .u8 (ka), .bool (ba), .int .i64 (na), .string (sa)], .agg #[.int .u8 (kb), .bool (bb), .int .i64 (nb), .string (sb)]] w fun e w' => e = .returned (.int .i64 (cmpD ⟨ka, ba, na, sa⟩ ⟨kb, bb, nb, sb⟩)) ∧ Ext w w' := by
  unfold cmpD
  simp only
  by_cases h : ka = kb
  · subst h
    rw [if_pos rfl]
    by_cases h2 : ka = 2
    · subst h2
      rw [if_pos rfl]
      cases ba <;> cases bb
      · exact rcmp_b_false_false na nb sa sb w
      · exact rcmp_b_false_true na nb sa sb w
      · exact rcmp_b_true_false na nb sa sb w
      · exact rcmp_b_true_true na nb sa sb w
    rw [if_neg h2]
    by_cases h3 : ka = 3
    · subst h3
      rw [if_pos rfl]
      rcases Int.lt_trichotomy na nb with h | h | h
      · rw [cmpT_lt h]; exact rcmp_nlt na nb ba bb sa sb w h
      · subst h; rw [cmpT_self]; exact rcmp_neq na ba bb sa sb w
      · rw [cmpT_gt h]; exact rcmp_ngt na nb ba bb sa sb w h
    rw [if_neg h3]
    by_cases h4 : ka = 4
    · subst h4
      rw [if_pos rfl]
      unfold cmpS
      cases h1 : Op.bytesLess sa.toList sb.toList
      · cases h2 : (sa.toList == sb.toList)
        · exact rcmp_sgt na nb ba bb sa sb w h1 h2
        · exact rcmp_seq na nb ba bb sa sb w h1 h2
      · exact rcmp_slt na nb ba bb sa sb w h1
    rw [if_neg h4]
    exact rcmp_oth ka na nb ba bb sa sb w h2 h3 h4
  · rw [if_neg h]
    rcases Int.lt_or_gt_of_ne h with h | h
    · rw [cmpT_lt h]; exact rcmp_klt ka na kb nb ba bb sa sb w h
    · rw [cmpT_gt h]; exact rcmp_kgt ka na kb nb ba bb sa sb w h
theorem rcmp_at {c : Int} (ka na kb nb : Int) (ba bb : Bool) (sa sb : ByteArray) (w : World) (h : Hid (cmpD ⟨ka, ba, na, sa⟩ ⟨kb, bb, nb, sb⟩ = c)) : Calls Tryd.prog 40 #[.agg #[.int .u8 (ka), .bool (ba), .int .i64 (na), .string (sa)], .agg #[.int .u8 (kb), .bool (bb), .int .i64 (nb), .string (sb)]] w fun e w' => e = .returned (.int .i64 c) ∧ Ext w w' := h.out ▸ rcmp_any ka na kb nb ba bb sa sb w
set_option maxRecDepth 100000 in
set_option maxHeartbeats 1000000 in
theorem rcomp_lo (ka na kb nb ca cb op : Int) (ba bb : Bool) (sa sb : ByteArray) (w : World) (ga : sa.size ≤ 140737488355328) (gb : sb.size ≤ 140737488355328) (h : op < 11) :
    Calls Tryd.prog 48 #[.int .u8 op, .agg #[.int .u8 (ka), .bool (ba), .int .i64 (na), .string (sa)], .agg #[.int .u8 (kb), .bool (bb), .int .i64 (nb), .string (sb)]] w (RefOut w (⟨0, false, 0, ⟨#[]⟩⟩, 13)) := by
  have F0 : Ext w (((w.alloc (.cells #[.int .u8 (ka), .bool (ba), .int .i64 (na), .string (sa)] 24)).alloc (.cells #[.int .u8 (kb), .bool (bb), .int .i64 (nb), .string (sb)] 24)).alloc (.cells #[.int .u8 (0), .bool (false), .int .i64 (0), .string (⟨#[]⟩)] 24)) := (((Ext.refl w).alloc _).alloc _).alloc _
  go_enter Tryd.func48, Tryd.ntmps48
  go_wp2
  go_returns
  exact ⟨rfl, F0⟩
set_option maxRecDepth 100000 in
set_option maxHeartbeats 1000000 in
theorem rcomp_hi (ka na kb nb ca cb op : Int) (ba bb : Bool) (sa sb : ByteArray) (w : World) (ga : sa.size ≤ 140737488355328) (gb : sb.size ≤ 140737488355328) (h : 16 < op) :
    Calls Tryd.prog 48 #[.int .u8 op, .agg #[.int .u8 (ka), .bool (ba), .int .i64 (na), .string (sa)], .agg #[.int .u8 (kb), .bool (bb), .int .i64 (nb), .string (sb)]] w (RefOut w (⟨0, false, 0, ⟨#[]⟩⟩, 13)) := by
  have F0 : Ext w (((w.alloc (.cells #[.int .u8 (ka), .bool (ba), .int .i64 (na), .string (sa)] 24)).alloc (.cells #[.int .u8 (kb), .bool (bb), .int .i64 (nb), .string (sb)] 24)).alloc (.cells #[.int .u8 (0), .bool (false), .int .i64 (0), .string (⟨#[]⟩)] 24)) := (((Ext.refl w).alloc _).alloc _).alloc _
  go_enter Tryd.func48, Tryd.ntmps48
  go_wp2
  go_returns
  exact ⟨rfl, F0⟩
set_option maxRecDepth 100000 in
set_option maxHeartbeats 1000000 in
theorem rcomp_a (ka na kb nb ca cb op : Int) (ba bb : Bool) (sa sb : ByteArray) (w : World) (ga : sa.size ≤ 140737488355328) (gb : sb.size ≤ 140737488355328) (o1 : 11 ≤ op) (o2 : op ≤ 16) (hca : checkT ka ba na sa = ca) (la : (ca != 0) = true) :
    Calls Tryd.prog 48 #[.int .u8 op, .agg #[.int .u8 (ka), .bool (ba), .int .i64 (na), .string (sa)], .agg #[.int .u8 (kb), .bool (bb), .int .i64 (nb), .string (sb)]] w (RefOut w (⟨0, false, 0, ⟨#[]⟩⟩, 13)) := by
  have HCA := Lib.hid hca
  clear hca
  have a_0 : Bk (((w.alloc (.cells #[.int .u8 (ka), .bool (ba), .int .i64 (na), .string (sa)] 24)).alloc (.cells #[.int .u8 (kb), .bool (bb), .int .i64 (nb), .string (sb)] 24)).alloc (.cells #[.int .u8 (0), .bool (false), .int .i64 (0), .string (⟨#[]⟩)] 24)) w.heap.size 24 #[.int .u8 (ka), .bool (ba), .int .i64 (na), .string (sa)] := ((Bk.new _ _ _).alloc _).alloc _
  have b_0 : Bk (((w.alloc (.cells #[.int .u8 (ka), .bool (ba), .int .i64 (na), .string (sa)] 24)).alloc (.cells #[.int .u8 (kb), .bool (bb), .int .i64 (nb), .string (sb)] 24)).alloc (.cells #[.int .u8 (0), .bool (false), .int .i64 (0), .string (⟨#[]⟩)] 24)) (w.heap.size + 1) 24 #[.int .u8 (kb), .bool (bb), .int .i64 (nb), .string (sb)] := (Bk.at (by simp)).alloc _
  have z_0 : Bk (((w.alloc (.cells #[.int .u8 (ka), .bool (ba), .int .i64 (na), .string (sa)] 24)).alloc (.cells #[.int .u8 (kb), .bool (bb), .int .i64 (nb), .string (sb)] 24)).alloc (.cells #[.int .u8 (0), .bool (false), .int .i64 (0), .string (⟨#[]⟩)] 24)) (w.heap.size + 1 + 1) 24 #[.int .u8 (0), .bool (false), .int .i64 (0), .string (⟨#[]⟩)] := Bk.at (by simp)
  have F0 : Ext w (((w.alloc (.cells #[.int .u8 (ka), .bool (ba), .int .i64 (na), .string (sa)] 24)).alloc (.cells #[.int .u8 (kb), .bool (bb), .int .i64 (nb), .string (sb)] 24)).alloc (.cells #[.int .u8 (0), .bool (false), .int .i64 (0), .string (⟨#[]⟩)] 24)) := (((Ext.refl w).alloc _).alloc _).alloc _
  have m1 : True := trivial
  go_enter Tryd.func48, Tryd.ntmps48
  go_wp2_with (first
    | (have z := m1; clear z m1; go_at_call 38; refine (rcheck_at _ _ _ _ _ HCA ga).mono ?_; rintro e w1 ⟨rfl, x1⟩; have a_1 := a_0.ext x1; have b_1 := b_0.ext x1; have z_1 := z_0.ext x1; have F1 : Ext w w1 := (F0.trans x1); clear x1; have a_10 : w1.cell? ⟨w.heap.size, 0, none⟩ = some (.int .u8 (ka)) := a_1.cell 0; have a_11 : w1.cell? ⟨w.heap.size, 1, none⟩ = some (.bool (ba)) := a_1.cell 1; have a_12 : w1.cell? ⟨w.heap.size, 2, none⟩ = some (.int .i64 (na)) := a_1.cell 2; have a_13 : w1.cell? ⟨w.heap.size, 3, none⟩ = some (.string (sa)) := a_1.cell 3; have b_10 : w1.cell? ⟨w.heap.size + 1, 0, none⟩ = some (.int .u8 (kb)) := b_1.cell 0; have b_11 : w1.cell? ⟨w.heap.size + 1, 1, none⟩ = some (.bool (bb)) := b_1.cell 1; have b_12 : w1.cell? ⟨w.heap.size + 1, 2, none⟩ = some (.int .i64 (nb)) := b_1.cell 2; have b_13 : w1.cell? ⟨w.heap.size + 1, 3, none⟩ = some (.string (sb)) := b_1.cell 3; have z_1f0 : w1.frozen? ⟨w.heap.size + 1 + 1, 0, none⟩ = false := z_1.free 0; have z_1f1 : w1.frozen? ⟨w.heap.size + 1 + 1, 1, none⟩ = false := z_1.free 1; have z_1f2 : w1.frozen? ⟨w.heap.size + 1 + 1, 2, none⟩ = false := z_1.free 2; have z_1f3 : w1.frozen? ⟨w.heap.size + 1 + 1, 3, none⟩ = false := z_1.free 3; have z_10 : w1.cell? ⟨w.heap.size + 1 + 1, 0, none⟩ = some (.int .u8 (0)) := z_1.cell 0; have z_11 : w1.cell? ⟨w.heap.size + 1 + 1, 1, none⟩ = some (.bool (false)) := z_1.cell 1; have z_12 : w1.cell? ⟨w.heap.size + 1 + 1, 2, none⟩ = some (.int .i64 (0)) := z_1.cell 2; have z_13 : w1.cell? ⟨w.heap.size + 1 + 1, 3, none⟩ = some (.string (⟨#[]⟩)) := z_1.cell 3; have m2 : True := trivial)
    | fail)
  have q := z_1.set4 (.int .u8 (0)) (.bool (false)) (.int .i64 (0)) (.string (⟨#[]⟩))
  refine bodyPost_ret (v := .tuple #[.agg #[.int .u8 (0), .bool (false), .int .i64 (0), .string (⟨#[]⟩)], .int .i64 (13)]) (by simp [results, Tryd.results48, go_sem, q.1, q.2.1, q.2.2.1, q.2.2.2]) rfl ⟨rfl, Ext.set4 F1 (by first | omega | simp) _ _ _ _⟩
set_option maxRecDepth 100000 in
set_option maxHeartbeats 1000000 in
theorem rcomp_b (ka na kb nb ca cb op : Int) (ba bb : Bool) (sa sb : ByteArray) (w : World) (ga : sa.size ≤ 140737488355328) (gb : sb.size ≤ 140737488355328) (o1 : 11 ≤ op) (o2 : op ≤ 16) (hca : checkT ka ba na sa = 0) (hcb : checkT kb bb nb sb = cb) (lb : (cb != 0) = true) :
    Calls Tryd.prog 48 #[.int .u8 op, .agg #[.int .u8 (ka), .bool (ba), .int .i64 (na), .string (sa)], .agg #[.int .u8 (kb), .bool (bb), .int .i64 (nb), .string (sb)]] w (RefOut w (⟨0, false, 0, ⟨#[]⟩⟩, 13)) := by
  have HCA := Lib.hid hca
  clear hca
  have HCB := Lib.hid hcb
  clear hcb
  have a_0 : Bk (((w.alloc (.cells #[.int .u8 (ka), .bool (ba), .int .i64 (na), .string (sa)] 24)).alloc (.cells #[.int .u8 (kb), .bool (bb), .int .i64 (nb), .string (sb)] 24)).alloc (.cells #[.int .u8 (0), .bool (false), .int .i64 (0), .string (⟨#[]⟩)] 24)) w.heap.size 24 #[.int .u8 (ka), .bool (ba), .int .i64 (na), .string (sa)] := ((Bk.new _ _ _).alloc _).alloc _
  have b_0 : Bk (((w.alloc (.cells #[.int .u8 (ka), .bool (ba), .int .i64 (na), .string (sa)] 24)).alloc (.cells #[.int .u8 (kb), .bool (bb), .int .i64 (nb), .string (sb)] 24)).alloc (.cells #[.int .u8 (0), .bool (false), .int .i64 (0), .string (⟨#[]⟩)] 24)) (w.heap.size + 1) 24 #[.int .u8 (kb), .bool (bb), .int .i64 (nb), .string (sb)] := (Bk.at (by simp)).alloc _
  have z_0 : Bk (((w.alloc (.cells #[.int .u8 (ka), .bool (ba), .int .i64 (na), .string (sa)] 24)).alloc (.cells #[.int .u8 (kb), .bool (bb), .int .i64 (nb), .string (sb)] 24)).alloc (.cells #[.int .u8 (0), .bool (false), .int .i64 (0), .string (⟨#[]⟩)] 24)) (w.heap.size + 1 + 1) 24 #[.int .u8 (0), .bool (false), .int .i64 (0), .string (⟨#[]⟩)] := Bk.at (by simp)
  have F0 : Ext w (((w.alloc (.cells #[.int .u8 (ka), .bool (ba), .int .i64 (na), .string (sa)] 24)).alloc (.cells #[.int .u8 (kb), .bool (bb), .int .i64 (nb), .string (sb)] 24)).alloc (.cells #[.int .u8 (0), .bool (false), .int .i64 (0), .string (⟨#[]⟩)] 24)) := (((Ext.refl w).alloc _).alloc _).alloc _
  have m1 : True := trivial
  go_enter Tryd.func48, Tryd.ntmps48
  go_wp2_with (first
    | (have z := m1; clear z m1; go_at_call 38; refine (rcheck_at _ _ _ _ _ HCA ga).mono ?_; rintro e w1 ⟨rfl, x1⟩; have a_1 := a_0.ext x1; have b_1 := b_0.ext x1; have z_1 := z_0.ext x1; have F1 : Ext w w1 := (F0.trans x1); clear x1; have a_10 : w1.cell? ⟨w.heap.size, 0, none⟩ = some (.int .u8 (ka)) := a_1.cell 0; have a_11 : w1.cell? ⟨w.heap.size, 1, none⟩ = some (.bool (ba)) := a_1.cell 1; have a_12 : w1.cell? ⟨w.heap.size, 2, none⟩ = some (.int .i64 (na)) := a_1.cell 2; have a_13 : w1.cell? ⟨w.heap.size, 3, none⟩ = some (.string (sa)) := a_1.cell 3; have b_10 : w1.cell? ⟨w.heap.size + 1, 0, none⟩ = some (.int .u8 (kb)) := b_1.cell 0; have b_11 : w1.cell? ⟨w.heap.size + 1, 1, none⟩ = some (.bool (bb)) := b_1.cell 1; have b_12 : w1.cell? ⟨w.heap.size + 1, 2, none⟩ = some (.int .i64 (nb)) := b_1.cell 2; have b_13 : w1.cell? ⟨w.heap.size + 1, 3, none⟩ = some (.string (sb)) := b_1.cell 3; have m2 : True := trivial)
    | (have z := m2; clear z m2; go_at_call 38; refine (rcheck_at _ _ _ _ _ HCB gb).mono ?_; rintro e w2 ⟨rfl, x2⟩; have a_2 := a_1.ext x2; have b_2 := b_1.ext x2; have z_2 := z_1.ext x2; have F2 : Ext w w2 := (F1.trans x2); clear x2; have a_20 : w2.cell? ⟨w.heap.size, 0, none⟩ = some (.int .u8 (ka)) := a_2.cell 0; have a_21 : w2.cell? ⟨w.heap.size, 1, none⟩ = some (.bool (ba)) := a_2.cell 1; have a_22 : w2.cell? ⟨w.heap.size, 2, none⟩ = some (.int .i64 (na)) := a_2.cell 2; have a_23 : w2.cell? ⟨w.heap.size, 3, none⟩ = some (.string (sa)) := a_2.cell 3; have b_20 : w2.cell? ⟨w.heap.size + 1, 0, none⟩ = some (.int .u8 (kb)) := b_2.cell 0; have b_21 : w2.cell? ⟨w.heap.size + 1, 1, none⟩ = some (.bool (bb)) := b_2.cell 1; have b_22 : w2.cell? ⟨w.heap.size + 1, 2, none⟩ = some (.int .i64 (nb)) := b_2.cell 2; have b_23 : w2.cell? ⟨w.heap.size + 1, 3, none⟩ = some (.string (sb)) := b_2.cell 3; have z_2f0 : w2.frozen? ⟨w.heap.size + 1 + 1, 0, none⟩ = false := z_2.free 0; have z_2f1 : w2.frozen? ⟨w.heap.size + 1 + 1, 1, none⟩ = false := z_2.free 1; have z_2f2 : w2.frozen? ⟨w.heap.size + 1 + 1, 2, none⟩ = false := z_2.free 2; have z_2f3 : w2.frozen? ⟨w.heap.size + 1 + 1, 3, none⟩ = false := z_2.free 3; have z_20 : w2.cell? ⟨w.heap.size + 1 + 1, 0, none⟩ = some (.int .u8 (0)) := z_2.cell 0; have z_21 : w2.cell? ⟨w.heap.size + 1 + 1, 1, none⟩ = some (.bool (false)) := z_2.cell 1; have z_22 : w2.cell? ⟨w.heap.size + 1 + 1, 2, none⟩ = some (.int .i64 (0)) := z_2.cell 2; have z_23 : w2.cell? ⟨w.heap.size + 1 + 1, 3, none⟩ = some (.string (⟨#[]⟩)) := z_2.cell 3; have m3 : True := trivial)
    | fail)
  have q := z_2.set4 (.int .u8 (0)) (.bool (false)) (.int .i64 (0)) (.string (⟨#[]⟩))
  refine bodyPost_ret (v := .tuple #[.agg #[.int .u8 (0), .bool (false), .int .i64 (0), .string (⟨#[]⟩)], .int .i64 (13)]) (by simp [results, Tryd.results48, go_sem, q.1, q.2.1, q.2.2.1, q.2.2.2]) rfl ⟨rfl, Ext.set4 F2 (by first | omega | simp) _ _ _ _⟩
set_option maxRecDepth 100000 in
set_option maxHeartbeats 1000000 in
theorem rcomp_n1 (ka na kb nb ca cb op : Int) (ba bb : Bool) (sa sb : ByteArray) (w : World) (ga : sa.size ≤ 140737488355328) (gb : sb.size ≤ 140737488355328) (o1 : 11 ≤ op) (o2 : op ≤ 16) (hca : checkT 1 ba na sa = 0) (hcb : checkT kb bb nb sb = 0) :
    Calls Tryd.prog 48 #[.int .u8 op, .agg #[.int .u8 (1), .bool (ba), .int .i64 (na), .string (sa)], .agg #[.int .u8 (kb), .bool (bb), .int .i64 (nb), .string (sb)]] w (RefOut w (⟨1, false, 0, ⟨#[]⟩⟩, 0)) := by
  have HCA := Lib.hid hca
  clear hca
  have HCB := Lib.hid hcb
  clear hcb
  have a_0 : Bk (((w.alloc (.cells #[.int .u8 (1), .bool (ba), .int .i64 (na), .string (sa)] 24)).alloc (.cells #[.int .u8 (kb), .bool (bb), .int .i64 (nb), .string (sb)] 24)).alloc (.cells #[.int .u8 (0), .bool (false), .int .i64 (0), .string (⟨#[]⟩)] 24)) w.heap.size 24 #[.int .u8 (1), .bool (ba), .int .i64 (na), .string (sa)] := ((Bk.new _ _ _).alloc _).alloc _
  have b_0 : Bk (((w.alloc (.cells #[.int .u8 (1), .bool (ba), .int .i64 (na), .string (sa)] 24)).alloc (.cells #[.int .u8 (kb), .bool (bb), .int .i64 (nb), .string (sb)] 24)).alloc (.cells #[.int .u8 (0), .bool (false), .int .i64 (0), .string (⟨#[]⟩)] 24)) (w.heap.size + 1) 24 #[.int .u8 (kb), .bool (bb), .int .i64 (nb), .string (sb)] := (Bk.at (by simp)).alloc _
  have z_0 : Bk (((w.alloc (.cells #[.int .u8 (1), .bool (ba), .int .i64 (na), .string (sa)] 24)).alloc (.cells #[.int .u8 (kb), .bool (bb), .int .i64 (nb), .string (sb)] 24)).alloc (.cells #[.int .u8 (0), .bool (false), .int .i64 (0), .string (⟨#[]⟩)] 24)) (w.heap.size + 1 + 1) 24 #[.int .u8 (0), .bool (false), .int .i64 (0), .string (⟨#[]⟩)] := Bk.at (by simp)
  have F0 : Ext w (((w.alloc (.cells #[.int .u8 (1), .bool (ba), .int .i64 (na), .string (sa)] 24)).alloc (.cells #[.int .u8 (kb), .bool (bb), .int .i64 (nb), .string (sb)] 24)).alloc (.cells #[.int .u8 (0), .bool (false), .int .i64 (0), .string (⟨#[]⟩)] 24)) := (((Ext.refl w).alloc _).alloc _).alloc _
  have m1 : True := trivial
  go_enter Tryd.func48, Tryd.ntmps48
  go_wp2_with (first
    | (have z := m1; clear z m1; go_at_call 38; refine (rcheck_at _ _ _ _ _ HCA ga).mono ?_; rintro e w1 ⟨rfl, x1⟩; have a_1 := a_0.ext x1; have b_1 := b_0.ext x1; have z_1 := z_0.ext x1; have F1 : Ext w w1 := (F0.trans x1); clear x1; have a_10 : w1.cell? ⟨w.heap.size, 0, none⟩ = some (.int .u8 (1)) := a_1.cell 0; have a_11 : w1.cell? ⟨w.heap.size, 1, none⟩ = some (.bool (ba)) := a_1.cell 1; have a_12 : w1.cell? ⟨w.heap.size, 2, none⟩ = some (.int .i64 (na)) := a_1.cell 2; have a_13 : w1.cell? ⟨w.heap.size, 3, none⟩ = some (.string (sa)) := a_1.cell 3; have b_10 : w1.cell? ⟨w.heap.size + 1, 0, none⟩ = some (.int .u8 (kb)) := b_1.cell 0; have b_11 : w1.cell? ⟨w.heap.size + 1, 1, none⟩ = some (.bool (bb)) := b_1.cell 1; have b_12 : w1.cell? ⟨w.heap.size + 1, 2, none⟩ = some (.int .i64 (nb)) := b_1.cell 2; have b_13 : w1.cell? ⟨w.heap.size + 1, 3, none⟩ = some (.string (sb)) := b_1.cell 3; have m2 : True := trivial)
    | (have z := m2; clear z m2; go_at_call 38; refine (rcheck_at _ _ _ _ _ HCB gb).mono ?_; rintro e w2 ⟨rfl, x2⟩; have a_2 := a_1.ext x2; have b_2 := b_1.ext x2; have z_2 := z_1.ext x2; have F2 : Ext w w2 := (F1.trans x2); clear x2; have a_20 : w2.cell? ⟨w.heap.size, 0, none⟩ = some (.int .u8 (1)) := a_2.cell 0; have a_21 : w2.cell? ⟨w.heap.size, 1, none⟩ = some (.bool (ba)) := a_2.cell 1; have a_22 : w2.cell? ⟨w.heap.size, 2, none⟩ = some (.int .i64 (na)) := a_2.cell 2; have a_23 : w2.cell? ⟨w.heap.size, 3, none⟩ = some (.string (sa)) := a_2.cell 3; have b_20 : w2.cell? ⟨w.heap.size + 1, 0, none⟩ = some (.int .u8 (kb)) := b_2.cell 0; have b_21 : w2.cell? ⟨w.heap.size + 1, 1, none⟩ = some (.bool (bb)) := b_2.cell 1; have b_22 : w2.cell? ⟨w.heap.size + 1, 2, none⟩ = some (.int .i64 (nb)) := b_2.cell 2; have b_23 : w2.cell? ⟨w.heap.size + 1, 3, none⟩ = some (.string (sb)) := b_2.cell 3; have m3 : True := trivial)
    | (have z := m3; clear z m3; go_at_call 62; refine (rnull_any _).mono ?_; rintro e w3 ⟨rfl, x3⟩; have a_3 := a_2.ext x3; have b_3 := b_2.ext x3; have z_3 := z_2.ext x3; have F3 : Ext w w3 := (F2.trans x3); clear x3; have z_3f0 : w3.frozen? ⟨w.heap.size + 1 + 1, 0, none⟩ = false := z_3.free 0; have z_3f1 : w3.frozen? ⟨w.heap.size + 1 + 1, 1, none⟩ = false := z_3.free 1; have z_3f2 : w3.frozen? ⟨w.heap.size + 1 + 1, 2, none⟩ = false := z_3.free 2; have z_3f3 : w3.frozen? ⟨w.heap.size + 1 + 1, 3, none⟩ = false := z_3.free 3; have z_30 : w3.cell? ⟨w.heap.size + 1 + 1, 0, none⟩ = some (.int .u8 (0)) := z_3.cell 0; have z_31 : w3.cell? ⟨w.heap.size + 1 + 1, 1, none⟩ = some (.bool (false)) := z_3.cell 1; have z_32 : w3.cell? ⟨w.heap.size + 1 + 1, 2, none⟩ = some (.int .i64 (0)) := z_3.cell 2; have z_33 : w3.cell? ⟨w.heap.size + 1 + 1, 3, none⟩ = some (.string (⟨#[]⟩)) := z_3.cell 3; have m4 : True := trivial)
    | fail)
  have q := z_3.set4 (.int .u8 (1)) (.bool (false)) (.int .i64 (0)) (.string (⟨#[]⟩))
  refine bodyPost_ret (v := .tuple #[.agg #[.int .u8 (1), .bool (false), .int .i64 (0), .string (⟨#[]⟩)], .int .i64 (0)]) (by simp [results, Tryd.results48, go_sem, q.1, q.2.1, q.2.2.1, q.2.2.2]) rfl ⟨rfl, Ext.set4 F3 (by first | omega | simp) _ _ _ _⟩
set_option maxRecDepth 100000 in
set_option maxHeartbeats 1000000 in
theorem rcomp_n2 (ka na kb nb ca cb op : Int) (ba bb : Bool) (sa sb : ByteArray) (w : World) (ga : sa.size ≤ 140737488355328) (gb : sb.size ≤ 140737488355328) (o1 : 11 ≤ op) (o2 : op ≤ 16) (hca : checkT ka ba na sa = 0) (hcb : checkT 1 bb nb sb = 0) (l1 : (ka == 1) = false) :
    Calls Tryd.prog 48 #[.int .u8 op, .agg #[.int .u8 (ka), .bool (ba), .int .i64 (na), .string (sa)], .agg #[.int .u8 (1), .bool (bb), .int .i64 (nb), .string (sb)]] w (RefOut w (⟨1, false, 0, ⟨#[]⟩⟩, 0)) := by
  have HCA := Lib.hid hca
  clear hca
  have HCB := Lib.hid hcb
  clear hcb
  have a_0 : Bk (((w.alloc (.cells #[.int .u8 (ka), .bool (ba), .int .i64 (na), .string (sa)] 24)).alloc (.cells #[.int .u8 (1), .bool (bb), .int .i64 (nb), .string (sb)] 24)).alloc (.cells #[.int .u8 (0), .bool (false), .int .i64 (0), .string (⟨#[]⟩)] 24)) w.heap.size 24 #[.int .u8 (ka), .bool (ba), .int .i64 (na), .string (sa)] := ((Bk.new _ _ _).alloc _).alloc _
  have b_0 : Bk (((w.alloc (.cells #[.int .u8 (ka), .bool (ba), .int .i64 (na), .string (sa)] 24)).alloc (.cells #[.int .u8 (1), .bool (bb), .int .i64 (nb), .string (sb)] 24)).alloc (.cells #[.int .u8 (0), .bool (false), .int .i64 (0), .string (⟨#[]⟩)] 24)) (w.heap.size + 1) 24 #[.int .u8 (1), .bool (bb), .int .i64 (nb), .string (sb)] := (Bk.at (by simp)).alloc _
  have z_0 : Bk (((w.alloc (.cells #[.int .u8 (ka), .bool (ba), .int .i64 (na), .string (sa)] 24)).alloc (.cells #[.int .u8 (1), .bool (bb), .int .i64 (nb), .string (sb)] 24)).alloc (.cells #[.int .u8 (0), .bool (false), .int .i64 (0), .string (⟨#[]⟩)] 24)) (w.heap.size + 1 + 1) 24 #[.int .u8 (0), .bool (false), .int .i64 (0), .string (⟨#[]⟩)] := Bk.at (by simp)
  have F0 : Ext w (((w.alloc (.cells #[.int .u8 (ka), .bool (ba), .int .i64 (na), .string (sa)] 24)).alloc (.cells #[.int .u8 (1), .bool (bb), .int .i64 (nb), .string (sb)] 24)).alloc (.cells #[.int .u8 (0), .bool (false), .int .i64 (0), .string (⟨#[]⟩)] 24)) := (((Ext.refl w).alloc _).alloc _).alloc _
  have m1 : True := trivial
  go_enter Tryd.func48, Tryd.ntmps48
  go_wp2_with (first
    | (have z := m1; clear z m1; go_at_call 38; refine (rcheck_at _ _ _ _ _ HCA ga).mono ?_; rintro e w1 ⟨rfl, x1⟩; have a_1 := a_0.ext x1; have b_1 := b_0.ext x1; have z_1 := z_0.ext x1; have F1 : Ext w w1 := (F0.trans x1); clear x1; have a_10 : w1.cell? ⟨w.heap.size, 0, none⟩ = some (.int .u8 (ka)) := a_1.cell 0; have a_11 : w1.cell? ⟨w.heap.size, 1, none⟩ = some (.bool (ba)) := a_1.cell 1; have a_12 : w1.cell? ⟨w.heap.size, 2, none⟩ = some (.int .i64 (na)) := a_1.cell 2; have a_13 : w1.cell? ⟨w.heap.size, 3, none⟩ = some (.string (sa)) := a_1.cell 3; have b_10 : w1.cell? ⟨w.heap.size + 1, 0, none⟩ = some (.int .u8 (1)) := b_1.cell 0; have b_11 : w1.cell? ⟨w.heap.size + 1, 1, none⟩ = some (.bool (bb)) := b_1.cell 1; have b_12 : w1.cell? ⟨w.heap.size + 1, 2, none⟩ = some (.int .i64 (nb)) := b_1.cell 2; have b_13 : w1.cell? ⟨w.heap.size + 1, 3, none⟩ = some (.string (sb)) := b_1.cell 3; have m2 : True := trivial)
    | (have z := m2; clear z m2; go_at_call 38; refine (rcheck_at _ _ _ _ _ HCB gb).mono ?_; rintro e w2 ⟨rfl, x2⟩; have a_2 := a_1.ext x2; have b_2 := b_1.ext x2; have z_2 := z_1.ext x2; have F2 : Ext w w2 := (F1.trans x2); clear x2; have a_20 : w2.cell? ⟨w.heap.size, 0, none⟩ = some (.int .u8 (ka)) := a_2.cell 0; have a_21 : w2.cell? ⟨w.heap.size, 1, none⟩ = some (.bool (ba)) := a_2.cell 1; have a_22 : w2.cell? ⟨w.heap.size, 2, none⟩ = some (.int .i64 (na)) := a_2.cell 2; have a_23 : w2.cell? ⟨w.heap.size, 3, none⟩ = some (.string (sa)) := a_2.cell 3; have b_20 : w2.cell? ⟨w.heap.size + 1, 0, none⟩ = some (.int .u8 (1)) := b_2.cell 0; have b_21 : w2.cell? ⟨w.heap.size + 1, 1, none⟩ = some (.bool (bb)) := b_2.cell 1; have b_22 : w2.cell? ⟨w.heap.size + 1, 2, none⟩ = some (.int .i64 (nb)) := b_2.cell 2; have b_23 : w2.cell? ⟨w.heap.size + 1, 3, none⟩ = some (.string (sb)) := b_2.cell 3; have m3 : True := trivial)
    | (have z := m3; clear z m3; go_at_call 62; refine (rnull_any _).mono ?_; rintro e w3 ⟨rfl, x3⟩; have a_3 := a_2.ext x3; have b_3 := b_2.ext x3; have z_3 := z_2.ext x3; have F3 : Ext w w3 := (F2.trans x3); clear x3; have z_3f0 : w3.frozen? ⟨w.heap.size + 1 + 1, 0, none⟩ = false := z_3.free 0; have z_3f1 : w3.frozen? ⟨w.heap.size + 1 + 1, 1, none⟩ = false := z_3.free 1; have z_3f2 : w3.frozen? ⟨w.heap.size + 1 + 1, 2, none⟩ = false := z_3.free 2; have z_3f3 : w3.frozen? ⟨w.heap.size + 1 + 1, 3, none⟩ = false := z_3.free 3; have z_30 : w3.cell? ⟨w.heap.size + 1 + 1, 0, none⟩ = some (.int .u8 (0)) := z_3.cell 0; have z_31 : w3.cell? ⟨w.heap.size + 1 + 1, 1, none⟩ = some (.bool (false)) := z_3.cell 1; have z_32 : w3.cell? ⟨w.heap.size + 1 + 1, 2, none⟩ = some (.int .i64 (0)) := z_3.cell 2; have z_33 : w3.cell? ⟨w.heap.size + 1 + 1, 3, none⟩ = some (.string (⟨#[]⟩)) := z_3.cell 3; have m4 : True := trivial)
    | fail)
  have q := z_3.set4 (.int .u8 (1)) (.bool (false)) (.int .i64 (0)) (.string (⟨#[]⟩))
  refine bodyPost_ret (v := .tuple #[.agg #[.int .u8 (1), .bool (false), .int .i64 (0), .string (⟨#[]⟩)], .int .i64 (0)]) (by simp [results, Tryd.results48, go_sem, q.1, q.2.1, q.2.2.1, q.2.2.2]) rfl ⟨rfl, Ext.set4 F3 (by first | omega | simp) _ _ _ _⟩
set_option maxRecDepth 100000 in
set_option maxHeartbeats 1000000 in
theorem rcomp_ne (ka na kb nb ca cb op : Int) (ba bb : Bool) (sa sb : ByteArray) (w : World) (ga : sa.size ≤ 140737488355328) (gb : sb.size ≤ 140737488355328) (o1 : 11 ≤ op) (o2 : op ≤ 16) (hca : checkT ka ba na sa = 0) (hcb : checkT kb bb nb sb = 0) (l1 : (ka == 1) = false) (l2 : (kb == 1) = false) (l3 : (ka != kb) = true) :
    Calls Tryd.prog 48 #[.int .u8 op, .agg #[.int .u8 (ka), .bool (ba), .int .i64 (na), .string (sa)], .agg #[.int .u8 (kb), .bool (bb), .int .i64 (nb), .string (sb)]] w (RefOut w (⟨0, false, 0, ⟨#[]⟩⟩, 13)) := by
  have HCA := Lib.hid hca
  clear hca
  have HCB := Lib.hid hcb
  clear hcb
  have a_0 : Bk (((w.alloc (.cells #[.int .u8 (ka), .bool (ba), .int .i64 (na), .string (sa)] 24)).alloc (.cells #[.int .u8 (kb), .bool (bb), .int .i64 (nb), .string (sb)] 24)).alloc (.cells #[.int .u8 (0), .bool (false), .int .i64 (0), .string (⟨#[]⟩)] 24)) w.heap.size 24 #[.int .u8 (ka), .bool (ba), .int .i64 (na), .string (sa)] := ((Bk.new _ _ _).alloc _).alloc _
  have b_0 : Bk (((w.alloc (.cells #[.int .u8 (ka), .bool (ba), .int .i64 (na), .string (sa)] 24)).alloc (.cells #[.int .u8 (kb), .bool (bb), .int .i64 (nb), .string (sb)] 24)).alloc (.cells #[.int .u8 (0), .bool (false), .int .i64 (0), .string (⟨#[]⟩)] 24)) (w.heap.size + 1) 24 #[.int .u8 (kb), .bool (bb), .int .i64 (nb), .string (sb)] := (Bk.at (by simp)).alloc _
  have z_0 : Bk (((w.alloc (.cells #[.int .u8 (ka), .bool (ba), .int .i64 (na), .string (sa)] 24)).alloc (.cells #[.int .u8 (kb), .bool (bb), .int .i64 (nb), .string (sb)] 24)).alloc (.cells #[.int .u8 (0), .bool (false), .int .i64 (0), .string (⟨#[]⟩)] 24)) (w.heap.size + 1 + 1) 24 #[.int .u8 (0), .bool (false), .int .i64 (0), .string (⟨#[]⟩)] := Bk.at (by simp)
  have F0 : Ext w (((w.alloc (.cells #[.int .u8 (ka), .bool (ba), .int .i64 (na), .string (sa)] 24)).alloc (.cells #[.int .u8 (kb), .bool (bb), .int .i64 (nb), .string (sb)] 24)).alloc (.cells #[.int .u8 (0), .bool (false), .int .i64 (0), .string (⟨#[]⟩)] 24)) := (((Ext.refl w).alloc _).alloc _).alloc _
  have m1 : True := trivial
  go_enter Tryd.func48, Tryd.ntmps48
  go_wp2_with (first
    | (have z := m1; clear z m1; go_at_call 38; refine (rcheck_at _ _ _ _ _ HCA ga).mono ?_; rintro e w1 ⟨rfl, x1⟩; have a_1 := a_0.ext x1; have b_1 := b_0.ext x1; have z_1 := z_0.ext x1; have F1 : Ext w w1 := (F0.trans x1); clear x1; have a_10 : w1.cell? ⟨w.heap.size, 0, none⟩ = some (.int .u8 (ka)) := a_1.cell 0; have a_11 : w1.cell? ⟨w.heap.size, 1, none⟩ = some (.bool (ba)) := a_1.cell 1; have a_12 : w1.cell? ⟨w.heap.size, 2, none⟩ = some (.int .i64 (na)) := a_1.cell 2; have a_13 : w1.cell? ⟨w.heap.size, 3, none⟩ = some (.string (sa)) := a_1.cell 3; have b_10 : w1.cell? ⟨w.heap.size + 1, 0, none⟩ = some (.int .u8 (kb)) := b_1.cell 0; have b_11 : w1.cell? ⟨w.heap.size + 1, 1, none⟩ = some (.bool (bb)) := b_1.cell 1; have b_12 : w1.cell? ⟨w.heap.size + 1, 2, none⟩ = some (.int .i64 (nb)) := b_1.cell 2; have b_13 : w1.cell? ⟨w.heap.size + 1, 3, none⟩ = some (.string (sb)) := b_1.cell 3; have m2 : True := trivial)
    | (have z := m2; clear z m2; go_at_call 38; refine (rcheck_at _ _ _ _ _ HCB gb).mono ?_; rintro e w2 ⟨rfl, x2⟩; have a_2 := a_1.ext x2; have b_2 := b_1.ext x2; have z_2 := z_1.ext x2; have F2 : Ext w w2 := (F1.trans x2); clear x2; have a_20 : w2.cell? ⟨w.heap.size, 0, none⟩ = some (.int .u8 (ka)) := a_2.cell 0; have a_21 : w2.cell? ⟨w.heap.size, 1, none⟩ = some (.bool (ba)) := a_2.cell 1; have a_22 : w2.cell? ⟨w.heap.size, 2, none⟩ = some (.int .i64 (na)) := a_2.cell 2; have a_23 : w2.cell? ⟨w.heap.size, 3, none⟩ = some (.string (sa)) := a_2.cell 3; have b_20 : w2.cell? ⟨w.heap.size + 1, 0, none⟩ = some (.int .u8 (kb)) := b_2.cell 0; have b_21 : w2.cell? ⟨w.heap.size + 1, 1, none⟩ = some (.bool (bb)) := b_2.cell 1; have b_22 : w2.cell? ⟨w.heap.size + 1, 2, none⟩ = some (.int .i64 (nb)) := b_2.cell 2; have b_23 : w2.cell? ⟨w.heap.size + 1, 3, none⟩ = some (.string (sb)) := b_2.cell 3; have z_2f0 : w2.frozen? ⟨w.heap.size + 1 + 1, 0, none⟩ = false := z_2.free 0; have z_2f1 : w2.frozen? ⟨w.heap.size + 1 + 1, 1, none⟩ = false := z_2.free 1; have z_2f2 : w2.frozen? ⟨w.heap.size + 1 + 1, 2, none⟩ = false := z_2.free 2; have z_2f3 : w2.frozen? ⟨w.heap.size + 1 + 1, 3, none⟩ = false := z_2.free 3; have z_20 : w2.cell? ⟨w.heap.size + 1 + 1, 0, none⟩ = some (.int .u8 (0)) := z_2.cell 0; have z_21 : w2.cell? ⟨w.heap.size + 1 + 1, 1, none⟩ = some (.bool (false)) := z_2.cell 1; have z_22 : w2.cell? ⟨w.heap.size + 1 + 1, 2, none⟩ = some (.int .i64 (0)) := z_2.cell 2; have z_23 : w2.cell? ⟨w.heap.size + 1 + 1, 3, none⟩ = some (.string (⟨#[]⟩)) := z_2.cell 3; have m3 : True := trivial)
    | fail)
  have q := z_2.set4 (.int .u8 (0)) (.bool (false)) (.int .i64 (0)) (.string (⟨#[]⟩))
  refine bodyPost_ret (v := .tuple #[.agg #[.int .u8 (0), .bool (false), .int .i64 (0), .string (⟨#[]⟩)], .int .i64 (13)]) (by simp [results, Tryd.results48, go_sem, q.1, q.2.1, q.2.2.1, q.2.2.2]) rfl ⟨rfl, Ext.set4 F2 (by first | omega | simp) _ _ _ _⟩
set_option maxRecDepth 100000 in
set_option maxHeartbeats 1000000 in
theorem rcomp_11_lt (ka na kb nb ca cb op : Int) (ba bb : Bool) (sa sb : ByteArray) (w : World) (ga : sa.size ≤ 140737488355328) (gb : sb.size ≤ 140737488355328) (hca : checkT ka ba na sa = 0) (hcb : checkT ka bb nb sb = 0) (l1 : (ka == 1) = false) (hc : cmpD ⟨ka, ba, na, sa⟩ ⟨ka, bb, nb, sb⟩ = -1) :
    Calls Tryd.prog 48 #[.int .u8 11, .agg #[.int .u8 (ka), .bool (ba), .int .i64 (na), .string (sa)], .agg #[.int .u8 (ka), .bool (bb), .int .i64 (nb), .string (sb)]] w (RefOut w (⟨2, false, 0, ⟨#[]⟩⟩, 0)) := by
  have HCA := Lib.hid hca
  clear hca
  have HCB := Lib.hid hcb
  clear hcb
  have HC := Lib.hid hc
  clear hc
  have l3 : (ka != ka) = false := by simp
  have a_0 : Bk (((w.alloc (.cells #[.int .u8 (ka), .bool (ba), .int .i64 (na), .string (sa)] 24)).alloc (.cells #[.int .u8 (ka), .bool (bb), .int .i64 (nb), .string (sb)] 24)).alloc (.cells #[.int .u8 (0), .bool (false), .int .i64 (0), .string (⟨#[]⟩)] 24)) w.heap.size 24 #[.int .u8 (ka), .bool (ba), .int .i64 (na), .string (sa)] := ((Bk.new _ _ _).alloc _).alloc _
  have b_0 : Bk (((w.alloc (.cells #[.int .u8 (ka), .bool (ba), .int .i64 (na), .string (sa)] 24)).alloc (.cells #[.int .u8 (ka), .bool (bb), .int .i64 (nb), .string (sb)] 24)).alloc (.cells #[.int .u8 (0), .bool (false), .int .i64 (0), .string (⟨#[]⟩)] 24)) (w.heap.size + 1) 24 #[.int .u8 (ka), .bool (bb), .int .i64 (nb), .string (sb)] := (Bk.at (by simp)).alloc _
  have z_0 : Bk (((w.alloc (.cells #[.int .u8 (ka), .bool (ba), .int .i64 (na), .string (sa)] 24)).alloc (.cells #[.int .u8 (ka), .bool (bb), .int .i64 (nb), .string (sb)] 24)).alloc (.cells #[.int .u8 (0), .bool (false), .int .i64 (0), .string (⟨#[]⟩)] 24)) (w.heap.size + 1 + 1) 24 #[.int .u8 (0), .bool (false), .int .i64 (0), .string (⟨#[]⟩)] := Bk.at (by simp)
  have F0 : Ext w (((w.alloc (.cells #[.int .u8 (ka), .bool (ba), .int .i64 (na), .string (sa)] 24)).alloc (.cells #[.int .u8 (ka), .bool (bb), .int .i64 (nb), .string (sb)] 24)).alloc (.cells #[.int .u8 (0), .bool (false), .int .i64 (0), .string (⟨#[]⟩)] 24)) := (((Ext.refl w).alloc _).alloc _).alloc _
  have m1 : True := trivial
  go_enter Tryd.func48, Tryd.ntmps48
  go_wp2_with (first
    | (have z := m1; clear z m1; go_at_call 38; refine (rcheck_at _ _ _ _ _ HCA ga).mono ?_; rintro e w1 ⟨rfl, x1⟩; have a_1 := a_0.ext x1; have b_1 := b_0.ext x1; have z_1 := z_0.ext x1; have F1 : Ext w w1 := (F0.trans x1); clear x1; have a_10 : w1.cell? ⟨w.heap.size, 0, none⟩ = some (.int .u8 (ka)) := a_1.cell 0; have a_11 : w1.cell? ⟨w.heap.size, 1, none⟩ = some (.bool (ba)) := a_1.cell 1; have a_12 : w1.cell? ⟨w.heap.size, 2, none⟩ = some (.int .i64 (na)) := a_1.cell 2; have a_13 : w1.cell? ⟨w.heap.size, 3, none⟩ = some (.string (sa)) := a_1.cell 3; have b_10 : w1.cell? ⟨w.heap.size + 1, 0, none⟩ = some (.int .u8 (ka)) := b_1.cell 0; have b_11 : w1.cell? ⟨w.heap.size + 1, 1, none⟩ = some (.bool (bb)) := b_1.cell 1; have b_12 : w1.cell? ⟨w.heap.size + 1, 2, none⟩ = some (.int .i64 (nb)) := b_1.cell 2; have b_13 : w1.cell? ⟨w.heap.size + 1, 3, none⟩ = some (.string (sb)) := b_1.cell 3; have m2 : True := trivial)
    | (have z := m2; clear z m2; go_at_call 38; refine (rcheck_at _ _ _ _ _ HCB gb).mono ?_; rintro e w2 ⟨rfl, x2⟩; have a_2 := a_1.ext x2; have b_2 := b_1.ext x2; have z_2 := z_1.ext x2; have F2 : Ext w w2 := (F1.trans x2); clear x2; have a_20 : w2.cell? ⟨w.heap.size, 0, none⟩ = some (.int .u8 (ka)) := a_2.cell 0; have a_21 : w2.cell? ⟨w.heap.size, 1, none⟩ = some (.bool (ba)) := a_2.cell 1; have a_22 : w2.cell? ⟨w.heap.size, 2, none⟩ = some (.int .i64 (na)) := a_2.cell 2; have a_23 : w2.cell? ⟨w.heap.size, 3, none⟩ = some (.string (sa)) := a_2.cell 3; have b_20 : w2.cell? ⟨w.heap.size + 1, 0, none⟩ = some (.int .u8 (ka)) := b_2.cell 0; have b_21 : w2.cell? ⟨w.heap.size + 1, 1, none⟩ = some (.bool (bb)) := b_2.cell 1; have b_22 : w2.cell? ⟨w.heap.size + 1, 2, none⟩ = some (.int .i64 (nb)) := b_2.cell 2; have b_23 : w2.cell? ⟨w.heap.size + 1, 3, none⟩ = some (.string (sb)) := b_2.cell 3; have m3 : True := trivial)
    | (have z := m3; clear z m3; go_at_call 40; refine (rcmp_at _ _ _ _ _ _ _ _ _ HC).mono ?_; rintro e w3 ⟨rfl, x3⟩; have a_3 := (a_2.ext x3).alloc (.cells #[.bool false, .bool true, .bool true, .bool true, .bool false, .bool false] 4); have b_3 := (b_2.ext x3).alloc (.cells #[.bool false, .bool true, .bool true, .bool true, .bool false, .bool false] 4); have z_3 := (z_2.ext x3).alloc (.cells #[.bool false, .bool true, .bool true, .bool true, .bool false, .bool false] 4); have F3 : Ext w (w3.alloc (.cells #[.bool false, .bool true, .bool true, .bool true, .bool false, .bool false] 4)) := (F2.trans x3).alloc _; have l_3 := Bk.new w3 4 #[.bool false, .bool true, .bool true, .bool true, .bool false, .bool false]; clear x3; have m4 : True := trivial)
    | (have z := m4; clear z m4; go_at_call 63; refine (rbool_any _ _).mono ?_; rintro e w4 ⟨rfl, x4⟩; have a_4 := a_3.ext x4; have b_4 := b_3.ext x4; have z_4 := z_3.ext x4; have l_4 := l_3.ext x4; have F4 : Ext w w4 := (F3.trans x4); clear x4; have z_4f0 : w4.frozen? ⟨w.heap.size + 1 + 1, 0, none⟩ = false := z_4.free 0; have z_4f1 : w4.frozen? ⟨w.heap.size + 1 + 1, 1, none⟩ = false := z_4.free 1; have z_4f2 : w4.frozen? ⟨w.heap.size + 1 + 1, 2, none⟩ = false := z_4.free 2; have z_4f3 : w4.frozen? ⟨w.heap.size + 1 + 1, 3, none⟩ = false := z_4.free 3; have z_40 : w4.cell? ⟨w.heap.size + 1 + 1, 0, none⟩ = some (.int .u8 (0)) := z_4.cell 0; have z_41 : w4.cell? ⟨w.heap.size + 1 + 1, 1, none⟩ = some (.bool (false)) := z_4.cell 1; have z_42 : w4.cell? ⟨w.heap.size + 1 + 1, 2, none⟩ = some (.int .i64 (0)) := z_4.cell 2; have z_43 : w4.cell? ⟨w.heap.size + 1 + 1, 3, none⟩ = some (.string (⟨#[]⟩)) := z_4.cell 3; have m5 : True := trivial)
    | fail)
  have q := z_4.set4 (.int .u8 (2)) (.bool (false)) (.int .i64 (0)) (.string (⟨#[]⟩))
  refine bodyPost_ret (v := .tuple #[.agg #[.int .u8 (2), .bool (false), .int .i64 (0), .string (⟨#[]⟩)], .int .i64 (0)]) (by simp [results, Tryd.results48, go_sem, q.1, q.2.1, q.2.2.1, q.2.2.2]) rfl ⟨rfl, Ext.set4 F4 (by first | omega | simp) _ _ _ _⟩
set_option maxRecDepth 100000 in
set_option maxHeartbeats 1000000 in
theorem rcomp_11_eq (ka na kb nb ca cb op : Int) (ba bb : Bool) (sa sb : ByteArray) (w : World) (ga : sa.size ≤ 140737488355328) (gb : sb.size ≤ 140737488355328) (hca : checkT ka ba na sa = 0) (hcb : checkT ka bb nb sb = 0) (l1 : (ka == 1) = false) (hc : cmpD ⟨ka, ba, na, sa⟩ ⟨ka, bb, nb, sb⟩ = 0) :
    Calls Tryd.prog 48 #[.int .u8 11, .agg #[.int .u8 (ka), .bool (ba), .int .i64 (na), .string (sa)], .agg #[.int .u8 (ka), .bool (bb), .int .i64 (nb), .string (sb)]] w (RefOut w (⟨2, true, 0, ⟨#[]⟩⟩, 0)) := by
  have HCA := Lib.hid hca
  clear hca
  have HCB := Lib.hid hcb
  clear hcb
  have HC := Lib.hid hc
  clear hc
  have l3 : (ka != ka) = false := by simp
  have a_0 : Bk (((w.alloc (.cells #[.int .u8 (ka), .bool (ba), .int .i64 (na), .string (sa)] 24)).alloc (.cells #[.int .u8 (ka), .bool (bb), .int .i64 (nb), .string (sb)] 24)).alloc (.cells #[.int .u8 (0), .bool (false), .int .i64 (0), .string (⟨#[]⟩)] 24)) w.heap.size 24 #[.int .u8 (ka), .bool (ba), .int .i64 (na), .string (sa)] := ((Bk.new _ _ _).alloc _).alloc _
  have b_0 : Bk (((w.alloc (.cells #[.int .u8 (ka), .bool (ba), .int .i64 (na), .string (sa)] 24)).alloc (.cells #[.int .u8 (ka), .bool (bb), .int .i64 (nb), .string (sb)] 24)).alloc (.cells #[.int .u8 (0), .bool (false), .int .i64 (0), .string (⟨#[]⟩)] 24)) (w.heap.size + 1) 24 #[.int .u8 (ka), .bool (bb), .int .i64 (nb), .string (sb)] := (Bk.at (by simp)).alloc _
  have z_0 : Bk (((w.alloc (.cells #[.int .u8 (ka), .bool (ba), .int .i64 (na), .string (sa)] 24)).alloc (.cells #[.int .u8 (ka), .bool (bb), .int .i64 (nb), .string (sb)] 24)).alloc (.cells #[.int .u8 (0), .bool (false), .int .i64 (0), .string (⟨#[]⟩)] 24)) (w.heap.size + 1 + 1) 24 #[.int .u8 (0), .bool (false), .int .i64 (0), .string (⟨#[]⟩)] := Bk.at (by simp)
  have F0 : Ext w (((w.alloc (.cells #[.int .u8 (ka), .bool (ba), .int .i64 (na), .string (sa)] 24)).alloc (.cells #[.int .u8 (ka), .bool (bb), .int .i64 (nb), .string (sb)] 24)).alloc (.cells #[.int .u8 (0), .bool (false), .int .i64 (0), .string (⟨#[]⟩)] 24)) := (((Ext.refl w).alloc _).alloc _).alloc _
  have m1 : True := trivial
  go_enter Tryd.func48, Tryd.ntmps48
  go_wp2_with (first
    | (have z := m1; clear z m1; go_at_call 38; refine (rcheck_at _ _ _ _ _ HCA ga).mono ?_; rintro e w1 ⟨rfl, x1⟩; have a_1 := a_0.ext x1; have b_1 := b_0.ext x1; have z_1 := z_0.ext x1; have F1 : Ext w w1 := (F0.trans x1); clear x1; have a_10 : w1.cell? ⟨w.heap.size, 0, none⟩ = some (.int .u8 (ka)) := a_1.cell 0; have a_11 : w1.cell? ⟨w.heap.size, 1, none⟩ = some (.bool (ba)) := a_1.cell 1; have a_12 : w1.cell? ⟨w.heap.size, 2, none⟩ = some (.int .i64 (na)) := a_1.cell 2; have a_13 : w1.cell? ⟨w.heap.size, 3, none⟩ = some (.string (sa)) := a_1.cell 3; have b_10 : w1.cell? ⟨w.heap.size + 1, 0, none⟩ = some (.int .u8 (ka)) := b_1.cell 0; have b_11 : w1.cell? ⟨w.heap.size + 1, 1, none⟩ = some (.bool (bb)) := b_1.cell 1; have b_12 : w1.cell? ⟨w.heap.size + 1, 2, none⟩ = some (.int .i64 (nb)) := b_1.cell 2; have b_13 : w1.cell? ⟨w.heap.size + 1, 3, none⟩ = some (.string (sb)) := b_1.cell 3; have m2 : True := trivial)
    | (have z := m2; clear z m2; go_at_call 38; refine (rcheck_at _ _ _ _ _ HCB gb).mono ?_; rintro e w2 ⟨rfl, x2⟩; have a_2 := a_1.ext x2; have b_2 := b_1.ext x2; have z_2 := z_1.ext x2; have F2 : Ext w w2 := (F1.trans x2); clear x2; have a_20 : w2.cell? ⟨w.heap.size, 0, none⟩ = some (.int .u8 (ka)) := a_2.cell 0; have a_21 : w2.cell? ⟨w.heap.size, 1, none⟩ = some (.bool (ba)) := a_2.cell 1; have a_22 : w2.cell? ⟨w.heap.size, 2, none⟩ = some (.int .i64 (na)) := a_2.cell 2; have a_23 : w2.cell? ⟨w.heap.size, 3, none⟩ = some (.string (sa)) := a_2.cell 3; have b_20 : w2.cell? ⟨w.heap.size + 1, 0, none⟩ = some (.int .u8 (ka)) := b_2.cell 0; have b_21 : w2.cell? ⟨w.heap.size + 1, 1, none⟩ = some (.bool (bb)) := b_2.cell 1; have b_22 : w2.cell? ⟨w.heap.size + 1, 2, none⟩ = some (.int .i64 (nb)) := b_2.cell 2; have b_23 : w2.cell? ⟨w.heap.size + 1, 3, none⟩ = some (.string (sb)) := b_2.cell 3; have m3 : True := trivial)
    | (have z := m3; clear z m3; go_at_call 40; refine (rcmp_at _ _ _ _ _ _ _ _ _ HC).mono ?_; rintro e w3 ⟨rfl, x3⟩; have a_3 := (a_2.ext x3).alloc (.cells #[.bool true, .bool false, .bool false, .bool true, .bool false, .bool true] 4); have b_3 := (b_2.ext x3).alloc (.cells #[.bool true, .bool false, .bool false, .bool true, .bool false, .bool true] 4); have z_3 := (z_2.ext x3).alloc (.cells #[.bool true, .bool false, .bool false, .bool true, .bool false, .bool true] 4); have F3 : Ext w (w3.alloc (.cells #[.bool true, .bool false, .bool false, .bool true, .bool false, .bool true] 4)) := (F2.trans x3).alloc _; have l_3 := Bk.new w3 4 #[.bool true, .bool false, .bool false, .bool true, .bool false, .bool true]; clear x3; have m4 : True := trivial)
    | (have z := m4; clear z m4; go_at_call 63; refine (rbool_any _ _).mono ?_; rintro e w4 ⟨rfl, x4⟩; have a_4 := a_3.ext x4; have b_4 := b_3.ext x4; have z_4 := z_3.ext x4; have l_4 := l_3.ext x4; have F4 : Ext w w4 := (F3.trans x4); clear x4; have z_4f0 : w4.frozen? ⟨w.heap.size + 1 + 1, 0, none⟩ = false := z_4.free 0; have z_4f1 : w4.frozen? ⟨w.heap.size + 1 + 1, 1, none⟩ = false := z_4.free 1; have z_4f2 : w4.frozen? ⟨w.heap.size + 1 + 1, 2, none⟩ = false := z_4.free 2; have z_4f3 : w4.frozen? ⟨w.heap.size + 1 + 1, 3, none⟩ = false := z_4.free 3; have z_40 : w4.cell? ⟨w.heap.size + 1 + 1, 0, none⟩ = some (.int .u8 (0)) := z_4.cell 0; have z_41 : w4.cell? ⟨w.heap.size + 1 + 1, 1, none⟩ = some (.bool (false)) := z_4.cell 1; have z_42 : w4.cell? ⟨w.heap.size + 1 + 1, 2, none⟩ = some (.int .i64 (0)) := z_4.cell 2; have z_43 : w4.cell? ⟨w.heap.size + 1 + 1, 3, none⟩ = some (.string (⟨#[]⟩)) := z_4.cell 3; have m5 : True := trivial)
    | fail)
  have q := z_4.set4 (.int .u8 (2)) (.bool (true)) (.int .i64 (0)) (.string (⟨#[]⟩))
  refine bodyPost_ret (v := .tuple #[.agg #[.int .u8 (2), .bool (true), .int .i64 (0), .string (⟨#[]⟩)], .int .i64 (0)]) (by simp [results, Tryd.results48, go_sem, q.1, q.2.1, q.2.2.1, q.2.2.2]) rfl ⟨rfl, Ext.set4 F4 (by first | omega | simp) _ _ _ _⟩
set_option maxRecDepth 100000 in
set_option maxHeartbeats 1000000 in
theorem rcomp_11_gt (ka na kb nb ca cb op : Int) (ba bb : Bool) (sa sb : ByteArray) (w : World) (ga : sa.size ≤ 140737488355328) (gb : sb.size ≤ 140737488355328) (hca : checkT ka ba na sa = 0) (hcb : checkT ka bb nb sb = 0) (l1 : (ka == 1) = false) (hc : cmpD ⟨ka, ba, na, sa⟩ ⟨ka, bb, nb, sb⟩ = 1) :
    Calls Tryd.prog 48 #[.int .u8 11, .agg #[.int .u8 (ka), .bool (ba), .int .i64 (na), .string (sa)], .agg #[.int .u8 (ka), .bool (bb), .int .i64 (nb), .string (sb)]] w (RefOut w (⟨2, false, 0, ⟨#[]⟩⟩, 0)) := by
  have HCA := Lib.hid hca
  clear hca
  have HCB := Lib.hid hcb
  clear hcb
  have HC := Lib.hid hc
  clear hc
  have l3 : (ka != ka) = false := by simp
  have a_0 : Bk (((w.alloc (.cells #[.int .u8 (ka), .bool (ba), .int .i64 (na), .string (sa)] 24)).alloc (.cells #[.int .u8 (ka), .bool (bb), .int .i64 (nb), .string (sb)] 24)).alloc (.cells #[.int .u8 (0), .bool (false), .int .i64 (0), .string (⟨#[]⟩)] 24)) w.heap.size 24 #[.int .u8 (ka), .bool (ba), .int .i64 (na), .string (sa)] := ((Bk.new _ _ _).alloc _).alloc _
  have b_0 : Bk (((w.alloc (.cells #[.int .u8 (ka), .bool (ba), .int .i64 (na), .string (sa)] 24)).alloc (.cells #[.int .u8 (ka), .bool (bb), .int .i64 (nb), .string (sb)] 24)).alloc (.cells #[.int .u8 (0), .bool (false), .int .i64 (0), .string (⟨#[]⟩)] 24)) (w.heap.size + 1) 24 #[.int .u8 (ka), .bool (bb), .int .i64 (nb), .string (sb)] := (Bk.at (by simp)).alloc _
  have z_0 : Bk (((w.alloc (.cells #[.int .u8 (ka), .bool (ba), .int .i64 (na), .string (sa)] 24)).alloc (.cells #[.int .u8 (ka), .bool (bb), .int .i64 (nb), .string (sb)] 24)).alloc (.cells #[.int .u8 (0), .bool (false), .int .i64 (0), .string (⟨#[]⟩)] 24)) (w.heap.size + 1 + 1) 24 #[.int .u8 (0), .bool (false), .int .i64 (0), .string (⟨#[]⟩)] := Bk.at (by simp)
  have F0 : Ext w (((w.alloc (.cells #[.int .u8 (ka), .bool (ba), .int .i64 (na), .string (sa)] 24)).alloc (.cells #[.int .u8 (ka), .bool (bb), .int .i64 (nb), .string (sb)] 24)).alloc (.cells #[.int .u8 (0), .bool (false), .int .i64 (0), .string (⟨#[]⟩)] 24)) := (((Ext.refl w).alloc _).alloc _).alloc _
  have m1 : True := trivial
  go_enter Tryd.func48, Tryd.ntmps48
  go_wp2_with (first
    | (have z := m1; clear z m1; go_at_call 38; refine (rcheck_at _ _ _ _ _ HCA ga).mono ?_; rintro e w1 ⟨rfl, x1⟩; have a_1 := a_0.ext x1; have b_1 := b_0.ext x1; have z_1 := z_0.ext x1; have F1 : Ext w w1 := (F0.trans x1); clear x1; have a_10 : w1.cell? ⟨w.heap.size, 0, none⟩ = some (.int .u8 (ka)) := a_1.cell 0; have a_11 : w1.cell? ⟨w.heap.size, 1, none⟩ = some (.bool (ba)) := a_1.cell 1; have a_12 : w1.cell? ⟨w.heap.size, 2, none⟩ = some (.int .i64 (na)) := a_1.cell 2; have a_13 : w1.cell? ⟨w.heap.size, 3, none⟩ = some (.string (sa)) := a_1.cell 3; have b_10 : w1.cell? ⟨w.heap.size + 1, 0, none⟩ = some (.int .u8 (ka)) := b_1.cell 0; have b_11 : w1.cell? ⟨w.heap.size + 1, 1, none⟩ = some (.bool (bb)) := b_1.cell 1; have b_12 : w1.cell? ⟨w.heap.size + 1, 2, none⟩ = some (.int .i64 (nb)) := b_1.cell 2; have b_13 : w1.cell? ⟨w.heap.size + 1, 3, none⟩ = some (.string (sb)) := b_1.cell 3; have m2 : True := trivial)
    | (have z := m2; clear z m2; go_at_call 38; refine (rcheck_at _ _ _ _ _ HCB gb).mono ?_; rintro e w2 ⟨rfl, x2⟩; have a_2 := a_1.ext x2; have b_2 := b_1.ext x2; have z_2 := z_1.ext x2; have F2 : Ext w w2 := (F1.trans x2); clear x2; have a_20 : w2.cell? ⟨w.heap.size, 0, none⟩ = some (.int .u8 (ka)) := a_2.cell 0; have a_21 : w2.cell? ⟨w.heap.size, 1, none⟩ = some (.bool (ba)) := a_2.cell 1; have a_22 : w2.cell? ⟨w.heap.size, 2, none⟩ = some (.int .i64 (na)) := a_2.cell 2; have a_23 : w2.cell? ⟨w.heap.size, 3, none⟩ = some (.string (sa)) := a_2.cell 3; have b_20 : w2.cell? ⟨w.heap.size + 1, 0, none⟩ = some (.int .u8 (ka)) := b_2.cell 0; have b_21 : w2.cell? ⟨w.heap.size + 1, 1, none⟩ = some (.bool (bb)) := b_2.cell 1; have b_22 : w2.cell? ⟨w.heap.size + 1, 2, none⟩ = some (.int .i64 (nb)) := b_2.cell 2; have b_23 : w2.cell? ⟨w.heap.size + 1, 3, none⟩ = some (.string (sb)) := b_2.cell 3; have m3 : True := trivial)
    | (have z := m3; clear z m3; go_at_call 40; refine (rcmp_at _ _ _ _ _ _ _ _ _ HC).mono ?_; rintro e w3 ⟨rfl, x3⟩; have a_3 := (a_2.ext x3).alloc (.cells #[.bool false, .bool true, .bool false, .bool false, .bool true, .bool true] 4); have b_3 := (b_2.ext x3).alloc (.cells #[.bool false, .bool true, .bool false, .bool false, .bool true, .bool true] 4); have z_3 := (z_2.ext x3).alloc (.cells #[.bool false, .bool true, .bool false, .bool false, .bool true, .bool true] 4); have F3 : Ext w (w3.alloc (.cells #[.bool false, .bool true, .bool false, .bool false, .bool true, .bool true] 4)) := (F2.trans x3).alloc _; have l_3 := Bk.new w3 4 #[.bool false, .bool true, .bool false, .bool false, .bool true, .bool true]; clear x3; have m4 : True := trivial)
    | (have z := m4; clear z m4; go_at_call 63; refine (rbool_any _ _).mono ?_; rintro e w4 ⟨rfl, x4⟩; have a_4 := a_3.ext x4; have b_4 := b_3.ext x4; have z_4 := z_3.ext x4; have l_4 := l_3.ext x4; have F4 : Ext w w4 := (F3.trans x4); clear x4; have z_4f0 : w4.frozen? ⟨w.heap.size + 1 + 1, 0, none⟩ = false := z_4.free 0; have z_4f1 : w4.frozen? ⟨w.heap.size + 1 + 1, 1, none⟩ = false := z_4.free 1; have z_4f2 : w4.frozen? ⟨w.heap.size + 1 + 1, 2, none⟩ = false := z_4.free 2; have z_4f3 : w4.frozen? ⟨w.heap.size + 1 + 1, 3, none⟩ = false := z_4.free 3; have z_40 : w4.cell? ⟨w.heap.size + 1 + 1, 0, none⟩ = some (.int .u8 (0)) := z_4.cell 0; have z_41 : w4.cell? ⟨w.heap.size + 1 + 1, 1, none⟩ = some (.bool (false)) := z_4.cell 1; have z_42 : w4.cell? ⟨w.heap.size + 1 + 1, 2, none⟩ = some (.int .i64 (0)) := z_4.cell 2; have z_43 : w4.cell? ⟨w.heap.size + 1 + 1, 3, none⟩ = some (.string (⟨#[]⟩)) := z_4.cell 3; have m5 : True := trivial)
    | fail)
  have q := z_4.set4 (.int .u8 (2)) (.bool (false)) (.int .i64 (0)) (.string (⟨#[]⟩))
  refine bodyPost_ret (v := .tuple #[.agg #[.int .u8 (2), .bool (false), .int .i64 (0), .string (⟨#[]⟩)], .int .i64 (0)]) (by simp [results, Tryd.results48, go_sem, q.1, q.2.1, q.2.2.1, q.2.2.2]) rfl ⟨rfl, Ext.set4 F4 (by first | omega | simp) _ _ _ _⟩
set_option maxRecDepth 100000 in
set_option maxHeartbeats 1000000 in
theorem rcomp_12_lt (ka na kb nb ca cb op : Int) (ba bb : Bool) (sa sb : ByteArray) (w : World) (ga : sa.size ≤ 140737488355328) (gb : sb.size ≤ 140737488355328) (hca : checkT ka ba na sa = 0) (hcb : checkT ka bb nb sb = 0) (l1 : (ka == 1) = false) (hc : cmpD ⟨ka, ba, na, sa⟩ ⟨ka, bb, nb, sb⟩ = -1) :
    Calls Tryd.prog 48 #[.int .u8 12, .agg #[.int .u8 (ka), .bool (ba), .int .i64 (na), .string (sa)], .agg #[.int .u8 (ka), .bool (bb), .int .i64 (nb), .string (sb)]] w (RefOut w (⟨2, true, 0, ⟨#[]⟩⟩, 0)) := by
  have HCA := Lib.hid hca
  clear hca
  have HCB := Lib.hid hcb
  clear hcb
  have HC := Lib.hid hc
  clear hc
  have l3 : (ka != ka) = false := by simp
  have a_0 : Bk (((w.alloc (.cells #[.int .u8 (ka), .bool (ba), .int .i64 (na), .string (sa)] 24)).alloc (.cells #[.int .u8 (ka), .bool (bb), .int .i64 (nb), .string (sb)] 24)).alloc (.cells #[.int .u8 (0), .bool (false), .int .i64 (0), .string (⟨#[]⟩)] 24)) w.heap.size 24 #[.int .u8 (ka), .bool (ba), .int .i64 (na), .string (sa)] := ((Bk.new _ _ _).alloc _).alloc _
  have b_0 : Bk (((w.alloc (.cells #[.int .u8 (ka), .bool (ba), .int .i64 (na), .string (sa)] 24)).alloc (.cells #[.int .u8 (ka), .bool (bb), .int .i64 (nb), .string (sb)] 24)).alloc (.cells #[.int .u8 (0), .bool (false), .int .i64 (0), .string (⟨#[]⟩)] 24)) (w.heap.size + 1) 24 #[.int .u8 (ka), .bool (bb), .int .i64 (nb), .string (sb)] := (Bk.at (by simp)).alloc _
  have z_0 : Bk (((w.alloc (.cells #[.int .u8 (ka), .bool (ba), .int .i64 (na), .string (sa)] 24)).alloc (.cells #[.int .u8 (ka), .bool (bb), .int .i64 (nb), .string (sb)] 24)).alloc (.cells #[.int .u8 (0), .bool (false), .int .i64 (0), .string (⟨#[]⟩)] 24)) (w.heap.size + 1 + 1) 24 #[.int .u8 (0), .bool (false), .int .i64 (0), .string (⟨#[]⟩)] := Bk.at (by simp)
  have F0 : Ext w (((w.alloc (.cells #[.int .u8 (ka), .bool (ba), .int .i64 (na), .string (sa)] 24)).alloc (.cells #[.int .u8 (ka), .bool (bb), .int .i64 (nb), .string (sb)] 24)).alloc (.cells #[.int .u8 (0), .bool (false), .int .i64 (0), .string (⟨#[]⟩)] 24)) := (((Ext.refl w).alloc _).alloc _).alloc _
  have m1 : True := trivial
  go_enter Tryd.func48, Tryd.ntmps48
  go_wp2_with (first
    | (have z := m1; clear z m1; go_at_call 38; refine (rcheck_at _ _ _ _ _ HCA ga).mono ?_; rintro e w1 ⟨rfl, x1⟩; have a_1 := a_0.ext x1; have b_1 := b_0.ext x1; have z_1 := z_0.ext x1; have F1 : Ext w w1 := (F0.trans x1); clear x1; have a_10 : w1.cell? ⟨w.heap.size, 0, none⟩ = some (.int .u8 (ka)) := a_1.cell 0; have a_11 : w1.cell? ⟨w.heap.size, 1, none⟩ = some (.bool (ba)) := a_1.cell 1; have a_12 : w1.cell? ⟨w.heap.size, 2, none⟩ = some (.int .i64 (na)) := a_1.cell 2; have a_13 : w1.cell? ⟨w.heap.size, 3, none⟩ = some (.string (sa)) := a_1.cell 3; have b_10 : w1.cell? ⟨w.heap.size + 1, 0, none⟩ = some (.int .u8 (ka)) := b_1.cell 0; have b_11 : w1.cell? ⟨w.heap.size + 1, 1, none⟩ = some (.bool (bb)) := b_1.cell 1; have b_12 : w1.cell? ⟨w.heap.size + 1, 2, none⟩ = some (.int .i64 (nb)) := b_1.cell 2; have b_13 : w1.cell? ⟨w.heap.size + 1, 3, none⟩ = some (.string (sb)) := b_1.cell 3; have m2 : True := trivial)
    | (have z := m2; clear z m2; go_at_call 38; refine (rcheck_at _ _ _ _ _ HCB gb).mono ?_; rintro e w2 ⟨rfl, x2⟩; have a_2 := a_1.ext x2; have b_2 := b_1.ext x2; have z_2 := z_1.ext x2; have F2 : Ext w w2 := (F1.trans x2); clear x2; have a_20 : w2.cell? ⟨w.heap.size, 0, none⟩ = some (.int .u8 (ka)) := a_2.cell 0; have a_21 : w2.cell? ⟨w.heap.size, 1, none⟩ = some (.bool (ba)) := a_2.cell 1; have a_22 : w2.cell? ⟨w.heap.size, 2, none⟩ = some (.int .i64 (na)) := a_2.cell 2; have a_23 : w2.cell? ⟨w.heap.size, 3, none⟩ = some (.string (sa)) := a_2.cell 3; have b_20 : w2.cell? ⟨w.heap.size + 1, 0, none⟩ = some (.int .u8 (ka)) := b_2.cell 0; have b_21 : w2.cell? ⟨w.heap.size + 1, 1, none⟩ = some (.bool (bb)) := b_2.cell 1; have b_22 : w2.cell? ⟨w.heap.size + 1, 2, none⟩ = some (.int .i64 (nb)) := b_2.cell 2; have b_23 : w2.cell? ⟨w.heap.size + 1, 3, none⟩ = some (.string (sb)) := b_2.cell 3; have m3 : True := trivial)
    | (have z := m3; clear z m3; go_at_call 40; refine (rcmp_at _ _ _ _ _ _ _ _ _ HC).mono ?_; rintro e w3 ⟨rfl, x3⟩; have a_3 := (a_2.ext x3).alloc (.cells #[.bool false, .bool true, .bool true, .bool true, .bool false, .bool false] 4); have b_3 := (b_2.ext x3).alloc (.cells #[.bool false, .bool true, .bool true, .bool true, .bool false, .bool false] 4); have z_3 := (z_2.ext x3).alloc (.cells #[.bool false, .bool true, .bool true, .bool true, .bool false, .bool false] 4); have F3 : Ext w (w3.alloc (.cells #[.bool false, .bool true, .bool true, .bool true, .bool false, .bool false] 4)) := (F2.trans x3).alloc _; have l_3 := Bk.new w3 4 #[.bool false, .bool true, .bool true, .bool true, .bool false, .bool false]; clear x3; have m4 : True := trivial)
    | (have z := m4; clear z m4; go_at_call 63; refine (rbool_any _ _).mono ?_; rintro e w4 ⟨rfl, x4⟩; have a_4 := a_3.ext x4; have b_4 := b_3.ext x4; have z_4 := z_3.ext x4; have l_4 := l_3.ext x4; have F4 : Ext w w4 := (F3.trans x4); clear x4; have z_4f0 : w4.frozen? ⟨w.heap.size + 1 + 1, 0, none⟩ = false := z_4.free 0; have z_4f1 : w4.frozen? ⟨w.heap.size + 1 + 1, 1, none⟩ = false := z_4.free 1; have z_4f2 : w4.frozen? ⟨w.heap.size + 1 + 1, 2, none⟩ = false := z_4.free 2; have z_4f3 : w4.frozen? ⟨w.heap.size + 1 + 1, 3, none⟩ = false := z_4.free 3; have z_40 : w4.cell? ⟨w.heap.size + 1 + 1, 0, none⟩ = some (.int .u8 (0)) := z_4.cell 0; have z_41 : w4.cell? ⟨w.heap.size + 1 + 1, 1, none⟩ = some (.bool (false)) := z_4.cell 1; have z_42 : w4.cell? ⟨w.heap.size + 1 + 1, 2, none⟩ = some (.int .i64 (0)) := z_4.cell 2; have z_43 : w4.cell? ⟨w.heap.size + 1 + 1, 3, none⟩ = some (.string (⟨#[]⟩)) := z_4.cell 3; have m5 : True := trivial)
    | fail)
  have q := z_4.set4 (.int .u8 (2)) (.bool (true)) (.int .i64 (0)) (.string (⟨#[]⟩))
  refine bodyPost_ret (v := .tuple #[.agg #[.int .u8 (2), .bool (true), .int .i64 (0), .string (⟨#[]⟩)], .int .i64 (0)]) (by simp [results, Tryd.results48, go_sem, q.1, q.2.1, q.2.2.1, q.2.2.2]) rfl ⟨rfl, Ext.set4 F4 (by first | omega | simp) _ _ _ _⟩
set_option maxRecDepth 100000 in
set_option maxHeartbeats 1000000 in
theorem rcomp_12_eq (ka na kb nb ca cb op : Int) (ba bb : Bool) (sa sb : ByteArray) (w : World) (ga : sa.size ≤ 140737488355328) (gb : sb.size ≤ 140737488355328) (hca : checkT ka ba na sa = 0) (hcb : checkT ka bb nb sb = 0) (l1 : (ka == 1) = false) (hc : cmpD ⟨ka, ba, na, sa⟩ ⟨ka, bb, nb, sb⟩ = 0) :
    Calls Tryd.prog 48 #[.int .u8 12, .agg #[.int .u8 (ka), .bool (ba), .int .i64 (na), .string (sa)], .agg #[.int .u8 (ka), .bool (bb), .int .i64 (nb), .string (sb)]] w (RefOut w (⟨2, false, 0, ⟨#[]⟩⟩, 0)) := by
  have HCA := Lib.hid hca
  clear hca
  have HCB := Lib.hid hcb
  clear hcb
  have HC := Lib.hid hc
  clear hc
  have l3 : (ka != ka) = false := by simp
  have a_0 : Bk (((w.alloc (.cells #[.int .u8 (ka), .bool (ba), .int .i64 (na), .string (sa)] 24)).alloc (.cells #[.int .u8 (ka), .bool (bb), .int .i64 (nb), .string (sb)] 24)).alloc (.cells #[.int .u8 (0), .bool (false), .int .i64 (0), .string (⟨#[]⟩)] 24)) w.heap.size 24 #[.int .u8 (ka), .bool (ba), .int .i64 (na), .string (sa)] := ((Bk.new _ _ _).alloc _).alloc _
  have b_0 : Bk (((w.alloc (.cells #[.int .u8 (ka), .bool (ba), .int .i64 (na), .string (sa)] 24)).alloc (.cells #[.int .u8 (ka), .bool (bb), .int .i64 (nb), .string (sb)] 24)).alloc (.cells #[.int .u8 (0), .bool (false), .int .i64 (0), .string (⟨#[]⟩)] 24)) (w.heap.size + 1) 24 #[.int .u8 (ka), .bool (bb), .int .i64 (nb), .string (sb)] := (Bk.at (by simp)).alloc _
  have z_0 : Bk (((w.alloc (.cells #[.int .u8 (ka), .bool (ba), .int .i64 (na), .string (sa)] 24)).alloc (.cells #[.int .u8 (ka), .bool (bb), .int .i64 (nb), .string (sb)] 24)).alloc (.cells #[.int .u8 (0), .bool (false), .int .i64 (0), .string (⟨#[]⟩)] 24)) (w.heap.size + 1 + 1) 24 #[.int .u8 (0), .bool (false), .int .i64 (0), .string (⟨#[]⟩)] := Bk.at (by simp)
  have F0 : Ext w (((w.alloc (.cells #[.int .u8 (ka), .bool (ba), .int .i64 (na), .string (sa)] 24)).alloc (.cells #[.int .u8 (ka), .bool (bb), .int .i64 (nb), .string (sb)] 24)).alloc (.cells #[.int .u8 (0), .bool (false), .int .i64 (0), .string (⟨#[]⟩)] 24)) := (((Ext.refl w).alloc _).alloc _).alloc _
  have m1 : True := trivial
  go_enter Tryd.func48, Tryd.ntmps48
  go_wp2_with (first
    | (have z := m1; clear z m1; go_at_call 38; refine (rcheck_at _ _ _ _ _ HCA ga).mono ?_; rintro e w1 ⟨rfl, x1⟩; have a_1 := a_0.ext x1; have b_1 := b_0.ext x1; have z_1 := z_0.ext x1; have F1 : Ext w w1 := (F0.trans x1); clear x1; have a_10 : w1.cell? ⟨w.heap.size, 0, none⟩ = some (.int .u8 (ka)) := a_1.cell 0; have a_11 : w1.cell? ⟨w.heap.size, 1, none⟩ = some (.bool (ba)) := a_1.cell 1; have a_12 : w1.cell? ⟨w.heap.size, 2, none⟩ = some (.int .i64 (na)) := a_1.cell 2; have a_13 : w1.cell? ⟨w.heap.size, 3, none⟩ = some (.string (sa)) := a_1.cell 3; have b_10 : w1.cell? ⟨w.heap.size + 1, 0, none⟩ = some (.int .u8 (ka)) := b_1.cell 0; have b_11 : w1.cell? ⟨w.heap.size + 1, 1, none⟩ = some (.bool (bb)) := b_1.cell 1; have b_12 : w1.cell? ⟨w.heap.size + 1, 2, none⟩ = some (.int .i64 (nb)) := b_1.cell 2; have b_13 : w1.cell? ⟨w.heap.size + 1, 3, none⟩ = some (.string (sb)) := b_1.cell 3; have m2 : True := trivial)
    | (have z := m2; clear z m2; go_at_call 38; refine (rcheck_at _ _ _ _ _ HCB gb).mono ?_; rintro e w2 ⟨rfl, x2⟩; have a_2 := a_1.ext x2; have b_2 := b_1.ext x2; have z_2 := z_1.ext x2; have F2 : Ext w w2 := (F1.trans x2); clear x2; have a_20 : w2.cell? ⟨w.heap.size, 0, none⟩ = some (.int .u8 (ka)) := a_2.cell 0; have a_21 : w2.cell? ⟨w.heap.size, 1, none⟩ = some (.bool (ba)) := a_2.cell 1; have a_22 : w2.cell? ⟨w.heap.size, 2, none⟩ = some (.int .i64 (na)) := a_2.cell 2; have a_23 : w2.cell? ⟨w.heap.size, 3, none⟩ = some (.string (sa)) := a_2.cell 3; have b_20 : w2.cell? ⟨w.heap.size + 1, 0, none⟩ = some (.int .u8 (ka)) := b_2.cell 0; have b_21 : w2.cell? ⟨w.heap.size + 1, 1, none⟩ = some (.bool (bb)) := b_2.cell 1; have b_22 : w2.cell? ⟨w.heap.size + 1, 2, none⟩ = some (.int .i64 (nb)) := b_2.cell 2; have b_23 : w2.cell? ⟨w.heap.size + 1, 3, none⟩ = some (.string (sb)) := b_2.cell 3; have m3 : True := trivial)
    | (have z := m3; clear z m3; go_at_call 40; refine (rcmp_at _ _ _ _ _ _ _ _ _ HC).mono ?_; rintro e w3 ⟨rfl, x3⟩; have a_3 := (a_2.ext x3).alloc (.cells #[.bool true, .bool false, .bool false, .bool true, .bool false, .bool true] 4); have b_3 := (b_2.ext x3).alloc (.cells #[.bool true, .bool false, .bool false, .bool true, .bool false, .bool true] 4); have z_3 := (z_2.ext x3).alloc (.cells #[.bool true, .bool false, .bool false, .bool true, .bool false, .bool true] 4); have F3 : Ext w (w3.alloc (.cells #[.bool true, .bool false, .bool false, .bool true, .bool false, .bool true] 4)) := (F2.trans x3).alloc _; have l_3 := Bk.new w3 4 #[.bool true, .bool false, .bool false, .bool true, .bool false, .bool true]; clear x3; have m4 : True := trivial)
    | (have z := m4; clear z m4; go_at_call 63; refine (rbool_any _ _).mono ?_; rintro e w4 ⟨rfl, x4⟩; have a_4 := a_3.ext x4; have b_4 := b_3.ext x4; have z_4 := z_3.ext x4; have l_4 := l_3.ext x4; have F4 : Ext w w4 := (F3.trans x4); clear x4; have z_4f0 : w4.frozen? ⟨w.heap.size + 1 + 1, 0, none⟩ = false := z_4.free 0; have z_4f1 : w4.frozen? ⟨w.heap.size + 1 + 1, 1, none⟩ = false := z_4.free 1; have z_4f2 : w4.frozen? ⟨w.heap.size + 1 + 1, 2, none⟩ = false := z_4.free 2; have z_4f3 : w4.frozen? ⟨w.heap.size + 1 + 1, 3, none⟩ = false := z_4.free 3; have z_40 : w4.cell? ⟨w.heap.size + 1 + 1, 0, none⟩ = some (.int .u8 (0)) := z_4.cell 0; have z_41 : w4.cell? ⟨w.heap.size + 1 + 1, 1, none⟩ = some (.bool (false)) := z_4.cell 1; have z_42 : w4.cell? ⟨w.heap.size + 1 + 1, 2, none⟩ = some (.int .i64 (0)) := z_4.cell 2; have z_43 : w4.cell? ⟨w.heap.size + 1 + 1, 3, none⟩ = some (.string (⟨#[]⟩)) := z_4.cell 3; have m5 : True := trivial)
    | fail)
  have q := z_4.set4 (.int .u8 (2)) (.bool (false)) (.int .i64 (0)) (.string (⟨#[]⟩))
  refine bodyPost_ret (v := .tuple #[.agg #[.int .u8 (2), .bool (false), .int .i64 (0), .string (⟨#[]⟩)], .int .i64 (0)]) (by simp [results, Tryd.results48, go_sem, q.1, q.2.1, q.2.2.1, q.2.2.2]) rfl ⟨rfl, Ext.set4 F4 (by first | omega | simp) _ _ _ _⟩
set_option maxRecDepth 100000 in
set_option maxHeartbeats 1000000 in
theorem rcomp_12_gt (ka na kb nb ca cb op : Int) (ba bb : Bool) (sa sb : ByteArray) (w : World) (ga : sa.size ≤ 140737488355328) (gb : sb.size ≤ 140737488355328) (hca : checkT ka ba na sa = 0) (hcb : checkT ka bb nb sb = 0) (l1 : (ka == 1) = false) (hc : cmpD ⟨ka, ba, na, sa⟩ ⟨ka, bb, nb, sb⟩ = 1) :
    Calls Tryd.prog 48 #[.int .u8 12, .agg #[.int .u8 (ka), .bool (ba), .int .i64 (na), .string (sa)], .agg #[.int .u8 (ka), .bool (bb), .int .i64 (nb), .string (sb)]] w (RefOut w (⟨2, true, 0, ⟨#[]⟩⟩, 0)) := by
  have HCA := Lib.hid hca
  clear hca
  have HCB := Lib.hid hcb
  clear hcb
  have HC := Lib.hid hc
  clear hc
  have l3 : (ka != ka) = false := by simp
  have a_0 : Bk (((w.alloc (.cells #[.int .u8 (ka), .bool (ba), .int .i64 (na), .string (sa)] 24)).alloc (.cells #[.int .u8 (ka), .bool (bb), .int .i64 (nb), .string (sb)] 24)).alloc (.cells #[.int .u8 (0), .bool (false), .int .i64 (0), .string (⟨#[]⟩)] 24)) w.heap.size 24 #[.int .u8 (ka), .bool (ba), .int .i64 (na), .string (sa)] := ((Bk.new _ _ _).alloc _).alloc _
  have b_0 : Bk (((w.alloc (.cells #[.int .u8 (ka), .bool (ba), .int .i64 (na), .string (sa)] 24)).alloc (.cells #[.int .u8 (ka), .bool (bb), .int .i64 (nb), .string (sb)] 24)).alloc (.cells #[.int .u8 (0), .bool (false), .int .i64 (0), .string (⟨#[]⟩)] 24)) (w.heap.size + 1) 24 #[.int .u8 (ka), .bool (bb), .int .i64 (nb), .string (sb)] := (Bk.at (by simp)).alloc _
  have z_0 : Bk (((w.alloc (.cells #[.int .u8 (ka), .bool (ba), .int .i64 (na), .string (sa)] 24)).alloc (.cells #[.int .u8 (ka), .bool (bb), .int .i64 (nb), .string (sb)] 24)).alloc (.cells #[.int .u8 (0), .bool (false), .int .i64 (0), .string (⟨#[]⟩)] 24)) (w.heap.size + 1 + 1) 24 #[.int .u8 (0), .bool (false), .int .i64 (0), .string (⟨#[]⟩)] := Bk.at (by simp)
  have F0 : Ext w (((w.alloc (.cells #[.int .u8 (ka), .bool (ba), .int .i64 (na), .string (sa)] 24)).alloc (.cells #[.int .u8 (ka), .bool (bb), .int .i64 (nb), .string (sb)] 24)).alloc (.cells #[.int .u8 (0), .bool (false), .int .i64 (0), .string (⟨#[]⟩)] 24)) := (((Ext.refl w).alloc _).alloc _).alloc _
  have m1 : True := trivial
  go_enter Tryd.func48, Tryd.ntmps48
  go_wp2_with (first
    | (have z := m1; clear z m1; go_at_call 38; refine (rcheck_at _ _ _ _ _ HCA ga).mono ?_; rintro e w1 ⟨rfl, x1⟩; have a_1 := a_0.ext x1; have b_1 := b_0.ext x1; have z_1 := z_0.ext x1; have F1 : Ext w w1 := (F0.trans x1); clear x1; have a_10 : w1.cell? ⟨w.heap.size, 0, none⟩ = some (.int .u8 (ka)) := a_1.cell 0; have a_11 : w1.cell? ⟨w.heap.size, 1, none⟩ = some (.bool (ba)) := a_1.cell 1; have a_12 : w1.cell? ⟨w.heap.size, 2, none⟩ = some (.int .i64 (na)) := a_1.cell 2; have a_13 : w1.cell? ⟨w.heap.size, 3, none⟩ = some (.string (sa)) := a_1.cell 3; have b_10 : w1.cell? ⟨w.heap.size + 1, 0, none⟩ = some (.int .u8 (ka)) := b_1.cell 0; have b_11 : w1.cell? ⟨w.heap.size + 1, 1, none⟩ = some (.bool (bb)) := b_1.cell 1; have b_12 : w1.cell? ⟨w.heap.size + 1, 2, none⟩ = some (.int .i64 (nb)) := b_1.cell 2; have b_13 : w1.cell? ⟨w.heap.size + 1, 3, none⟩ = some (.string (sb)) := b_1.cell 3; have m2 : True := trivial)
    | (have z := m2; clear z m2; go_at_call 38; refine (rcheck_at _ _ _ _ _ HCB gb).mono ?_; rintro e w2 ⟨rfl, x2⟩; have a_2 := a_1.ext x2; have b_2 := b_1.ext x2; have z_2 := z_1.ext x2; have F2 : Ext w w2 := (F1.trans x2); clear x2; have a_20 : w2.cell? ⟨w.heap.size, 0, none⟩ = some (.int .u8 (ka)) := a_2.cell 0; have a_21 : w2.cell? ⟨w.heap.size, 1, none⟩ = some (.bool (ba)) := a_2.cell 1; have a_22 : w2.cell? ⟨w.heap.size, 2, none⟩ = some (.int .i64 (na)) := a_2.cell 2; have a_23 : w2.cell? ⟨w.heap.size, 3, none⟩ = some (.string (sa)) := a_2.cell 3; have b_20 : w2.cell? ⟨w.heap.size + 1, 0, none⟩ = some (.int .u8 (ka)) := b_2.cell 0; have b_21 : w2.cell? ⟨w.heap.size + 1, 1, none⟩ = some (.bool (bb)) := b_2.cell 1; have b_22 : w2.cell? ⟨w.heap.size + 1, 2, none⟩ = some (.int .i64 (nb)) := b_2.cell 2; have b_23 : w2.cell? ⟨w.heap.size + 1, 3, none⟩ = some (.string (sb)) := b_2.cell 3; have m3 : True := trivial)
    | (have z := m3; clear z m3; go_at_call 40; refine (rcmp_at _ _ _ _ _ _ _ _ _ HC).mono ?_; rintro e w3 ⟨rfl, x3⟩; have a_3 := (a_2.ext x3).alloc (.cells #[.bool false, .bool true, .bool false, .bool false, .bool true, .bool true] 4); have b_3 := (b_2.ext x3).alloc (.cells #[.bool false, .bool true, .bool false, .bool false, .bool true, .bool true] 4); have z_3 := (z_2.ext x3).alloc (.cells #[.bool false, .bool true, .bool false, .bool false, .bool true, .bool true] 4); have F3 : Ext w (w3.alloc (.cells #[.bool false, .bool true, .bool false, .bool false, .bool true, .bool true] 4)) := (F2.trans x3).alloc _; have l_3 := Bk.new w3 4 #[.bool false, .bool true, .bool false, .bool false, .bool true, .bool true]; clear x3; have m4 : True := trivial)
    | (have z := m4; clear z m4; go_at_call 63; refine (rbool_any _ _).mono ?_; rintro e w4 ⟨rfl, x4⟩; have a_4 := a_3.ext x4; have b_4 := b_3.ext x4; have z_4 := z_3.ext x4; have l_4 := l_3.ext x4; have F4 : Ext w w4 := (F3.trans x4); clear x4; have z_4f0 : w4.frozen? ⟨w.heap.size + 1 + 1, 0, none⟩ = false := z_4.free 0; have z_4f1 : w4.frozen? ⟨w.heap.size + 1 + 1, 1, none⟩ = false := z_4.free 1; have z_4f2 : w4.frozen? ⟨w.heap.size + 1 + 1, 2, none⟩ = false := z_4.free 2; have z_4f3 : w4.frozen? ⟨w.heap.size + 1 + 1, 3, none⟩ = false := z_4.free 3; have z_40 : w4.cell? ⟨w.heap.size + 1 + 1, 0, none⟩ = some (.int .u8 (0)) := z_4.cell 0; have z_41 : w4.cell? ⟨w.heap.size + 1 + 1, 1, none⟩ = some (.bool (false)) := z_4.cell 1; have z_42 : w4.cell? ⟨w.heap.size + 1 + 1, 2, none⟩ = some (.int .i64 (0)) := z_4.cell 2; have z_43 : w4.cell? ⟨w.heap.size + 1 + 1, 3, none⟩ = some (.string (⟨#[]⟩)) := z_4.cell 3; have m5 : True := trivial)
    | fail)
  have q := z_4.set4 (.int .u8 (2)) (.bool (true)) (.int .i64 (0)) (.string (⟨#[]⟩))
  refine bodyPost_ret (v := .tuple #[.agg #[.int .u8 (2), .bool (true), .int .i64 (0), .string (⟨#[]⟩)], .int .i64 (0)]) (by simp [results, Tryd.results48, go_sem, q.1, q.2.1, q.2.2.1, q.2.2.2]) rfl ⟨rfl, Ext.set4 F4 (by first | omega | simp) _ _ _ _⟩
set_option maxRecDepth 100000 in
set_option maxHeartbeats 1000000 in
theorem rcomp_13_lt (ka na kb nb ca cb op : Int) (ba bb : Bool) (sa sb : ByteArray) (w : World) (ga : sa.size ≤ 140737488355328) (gb : sb.size ≤ 140737488355328) (hca : checkT ka ba na sa = 0) (hcb : checkT ka bb nb sb = 0) (l1 : (ka == 1) = false) (hc : cmpD ⟨ka, ba, na, sa⟩ ⟨ka, bb, nb, sb⟩ = -1) :
    Calls Tryd.prog 48 #[.int .u8 13, .agg #[.int .u8 (ka), .bool (ba), .int .i64 (na), .string (sa)], .agg #[.int .u8 (ka), .bool (bb), .int .i64 (nb), .string (sb)]] w (RefOut w (⟨2, true, 0, ⟨#[]⟩⟩, 0)) := by
  have HCA := Lib.hid hca
  clear hca
  have HCB := Lib.hid hcb
  clear hcb
  have HC := Lib.hid hc
  clear hc
  have l3 : (ka != ka) = false := by simp
  have a_0 : Bk (((w.alloc (.cells #[.int .u8 (ka), .bool (ba), .int .i64 (na), .string (sa)] 24)).alloc (.cells #[.int .u8 (ka), .bool (bb), .int .i64 (nb), .string (sb)] 24)).alloc (.cells #[.int .u8 (0), .bool (false), .int .i64 (0), .string (⟨#[]⟩)] 24)) w.heap.size 24 #[.int .u8 (ka), .bool (ba), .int .i64 (na), .string (sa)] := ((Bk.new _ _ _).alloc _).alloc _
  have b_0 : Bk (((w.alloc (.cells #[.int .u8 (ka), .bool (ba), .int .i64 (na), .string (sa)] 24)).alloc (.cells #[.int .u8 (ka), .bool (bb), .int .i64 (nb), .string (sb)] 24)).alloc (.cells #[.int .u8 (0), .bool (false), .int .i64 (0), .string (⟨#[]⟩)] 24)) (w.heap.size + 1) 24 #[.int .u8 (ka), .bool (bb), .int .i64 (nb), .string (sb)] := (Bk.at (by simp)).alloc _
  have z_0 : Bk (((w.alloc (.cells #[.int .u8 (ka), .bool (ba), .int .i64 (na), .string (sa)] 24)).alloc (.cells #[.int .u8 (ka), .bool (bb), .int .i64 (nb), .string (sb)] 24)).alloc (.cells #[.int .u8 (0), .bool (false), .int .i64 (0), .string (⟨#[]⟩)] 24)) (w.heap.size + 1 + 1) 24 #[.int .u8 (0), .bool (false), .int .i64 (0), .string (⟨#[]⟩)] := Bk.at (by simp)
  have F0 : Ext w (((w.alloc (.cells #[.int .u8 (ka), .bool (ba), .int .i64 (na), .string (sa)] 24)).alloc (.cells #[.int .u8 (ka), .bool (bb), .int .i64 (nb), .string (sb)] 24)).alloc (.cells #[.int .u8 (0), .bool (false), .int .i64 (0), .string (⟨#[]⟩)] 24)) := (((Ext.refl w).alloc _).alloc _).alloc _
  have m1 : True := trivial
  go_enter Tryd.func48, Tryd.ntmps48
  go_wp2_with (first
    | (have z := m1; clear z m1; go_at_call 38; refine (rcheck_at _ _ _ _ _ HCA ga).mono ?_; rintro e w1 ⟨rfl, x1⟩; have a_1 := a_0.ext x1; have b_1 := b_0.ext x1; have z_1 := z_0.ext x1; have F1 : Ext w w1 := (F0.trans x1); clear x1; have a_10 : w1.cell? ⟨w.heap.size, 0, none⟩ = some (.int .u8 (ka)) := a_1.cell 0; have a_11 : w1.cell? ⟨w.heap.size, 1, none⟩ = some (.bool (ba)) := a_1.cell 1; have a_12 : w1.cell? ⟨w.heap.size, 2, none⟩ = some (.int .i64 (na)) := a_1.cell 2; have a_13 : w1.cell? ⟨w.heap.size, 3, none⟩ = some (.string (sa)) := a_1.cell 3; have b_10 : w1.cell? ⟨w.heap.size + 1, 0, none⟩ = some (.int .u8 (ka)) := b_1.cell 0; have b_11 : w1.cell? ⟨w.heap.size + 1, 1, none⟩ = some (.bool (bb)) := b_1.cell 1; have b_12 : w1.cell? ⟨w.heap.size + 1, 2, none⟩ = some (.int .i64 (nb)) := b_1.cell 2; have b_13 : w1.cell? ⟨w.heap.size + 1, 3, none⟩ = some (.string (sb)) := b_1.cell 3; have m2 : True := trivial)
    | (have z := m2; clear z m2; go_at_call 38; refine (rcheck_at _ _ _ _ _ HCB gb).mono ?_; rintro e w2 ⟨rfl, x2⟩; have a_2 := a_1.ext x2; have b_2 := b_1.ext x2; have z_2 := z_1.ext x2; have F2 : Ext w w2 := (F1.trans x2); clear x2; have a_20 : w2.cell? ⟨w.heap.size, 0, none⟩ = some (.int .u8 (ka)) := a_2.cell 0; have a_21 : w2.cell? ⟨w.heap.size, 1, none⟩ = some (.bool (ba)) := a_2.cell 1; have a_22 : w2.cell? ⟨w.heap.size, 2, none⟩ = some (.int .i64 (na)) := a_2.cell 2; have a_23 : w2.cell? ⟨w.heap.size, 3, none⟩ = some (.string (sa)) := a_2.cell 3; have b_20 : w2.cell? ⟨w.heap.size + 1, 0, none⟩ = some (.int .u8 (ka)) := b_2.cell 0; have b_21 : w2.cell? ⟨w.heap.size + 1, 1, none⟩ = some (.bool (bb)) := b_2.cell 1; have b_22 : w2.cell? ⟨w.heap.size + 1, 2, none⟩ = some (.int .i64 (nb)) := b_2.cell 2; have b_23 : w2.cell? ⟨w.heap.size + 1, 3, none⟩ = some (.string (sb)) := b_2.cell 3; have m3 : True := trivial)
    | (have z := m3; clear z m3; go_at_call 40; refine (rcmp_at _ _ _ _ _ _ _ _ _ HC).mono ?_; rintro e w3 ⟨rfl, x3⟩; have a_3 := (a_2.ext x3).alloc (.cells #[.bool false, .bool true, .bool true, .bool true, .bool false, .bool false] 4); have b_3 := (b_2.ext x3).alloc (.cells #[.bool false, .bool true, .bool true, .bool true, .bool false, .bool false] 4); have z_3 := (z_2.ext x3).alloc (.cells #[.bool false, .bool true, .bool true, .bool true, .bool false, .bool false] 4); have F3 : Ext w (w3.alloc (.cells #[.bool false, .bool true, .bool true, .bool true, .bool false, .bool false] 4)) := (F2.trans x3).alloc _; have l_3 := Bk.new w3 4 #[.bool false, .bool true, .bool true, .bool true, .bool false, .bool false]; clear x3; have m4 : True := trivial)
    | (have z := m4; clear z m4; go_at_call 63; refine (rbool_any _ _).mono ?_; rintro e w4 ⟨rfl, x4⟩; have a_4 := a_3.ext x4; have b_4 := b_3.ext x4; have z_4 := z_3.ext x4; have l_4 := l_3.ext x4; have F4 : Ext w w4 := (F3.trans x4); clear x4; have z_4f0 : w4.frozen? ⟨w.heap.size + 1 + 1, 0, none⟩ = false := z_4.free 0; have z_4f1 : w4.frozen? ⟨w.heap.size + 1 + 1, 1, none⟩ = false := z_4.free 1; have z_4f2 : w4.frozen? ⟨w.heap.size + 1 + 1, 2, none⟩ = false := z_4.free 2; have z_4f3 : w4.frozen? ⟨w.heap.size + 1 + 1, 3, none⟩ = false := z_4.free 3; have z_40 : w4.cell? ⟨w.heap.size + 1 + 1, 0, none⟩ = some (.int .u8 (0)) := z_4.cell 0; have z_41 : w4.cell? ⟨w.heap.size + 1 + 1, 1, none⟩ = some (.bool (false)) := z_4.cell 1; have z_42 : w4.cell? ⟨w.heap.size + 1 + 1, 2, none⟩ = some (.int .i64 (0)) := z_4.cell 2; have z_43 : w4.cell? ⟨w.heap.size + 1 + 1, 3, none⟩ = some (.string (⟨#[]⟩)) := z_4.cell 3; have m5 : True := trivial)
    | fail)
  have q := z_4.set4 (.int .u8 (2)) (.bool (true)) (.int .i64 (0)) (.string (⟨#[]⟩))
  refine bodyPost_ret (v := .tuple #[.agg #[.int .u8 (2), .bool (true), .int .i64 (0), .string (⟨#[]⟩)], .int .i64 (0)]) (by simp [results, Tryd.results48, go_sem, q.1, q.2.1, q.2.2.1, q.2.2.2]) rfl ⟨rfl, Ext.set4 F4 (by first | omega | simp) _ _ _ _⟩
set_option maxRecDepth 100000 in
set_option maxHeartbeats 1000000 in
theorem rcomp_13_eq (ka na kb nb ca cb op : Int) (ba bb : Bool) (sa sb : ByteArray) (w : World) (ga : sa.size ≤ 140737488355328) (gb : sb.size ≤ 140737488355328) (hca : checkT ka ba na sa = 0) (hcb : checkT ka bb nb sb = 0) (l1 : (ka == 1) = false) (hc : cmpD ⟨ka, ba, na, sa⟩ ⟨ka, bb, nb, sb⟩ = 0) :
    Calls Tryd.prog 48 #[.int .u8 13, .agg #[.int .u8 (ka), .bool (ba), .int .i64 (na), .string (sa)], .agg #[.int .u8 (ka), .bool (bb), .int .i64 (nb), .string (sb)]] w (RefOut w (⟨2, false, 0, ⟨#[]⟩⟩, 0)) := by
  have HCA := Lib.hid hca
  clear hca
  have HCB := Lib.hid hcb
  clear hcb
  have HC := Lib.hid hc
  clear hc
  have l3 : (ka != ka) = false := by simp
  have a_0 : Bk (((w.alloc (.cells #[.int .u8 (ka), .bool (ba), .int .i64 (na), .string (sa)] 24)).alloc (.cells #[.int .u8 (ka), .bool (bb), .int .i64 (nb), .string (sb)] 24)).alloc (.cells #[.int .u8 (0), .bool (false), .int .i64 (0), .string (⟨#[]⟩)] 24)) w.heap.size 24 #[.int .u8 (ka), .bool (ba), .int .i64 (na), .string (sa)] := ((Bk.new _ _ _).alloc _).alloc _
  have b_0 : Bk (((w.alloc (.cells #[.int .u8 (ka), .bool (ba), .int .i64 (na), .string (sa)] 24)).alloc (.cells #[.int .u8 (ka), .bool (bb), .int .i64 (nb), .string (sb)] 24)).alloc (.cells #[.int .u8 (0), .bool (false), .int .i64 (0), .string (⟨#[]⟩)] 24)) (w.heap.size + 1) 24 #[.int .u8 (ka), .bool (bb), .int .i64 (nb), .string (sb)] := (Bk.at (by simp)).alloc _
  have z_0 : Bk (((w.alloc (.cells #[.int .u8 (ka), .bool (ba), .int .i64 (na), .string (sa)] 24)).alloc (.cells #[.int .u8 (ka), .bool (bb), .int .i64 (nb), .string (sb)] 24)).alloc (.cells #[.int .u8 (0), .bool (false), .int .i64 (0), .string (⟨#[]⟩)] 24)) (w.heap.size + 1 + 1) 24 #[.int .u8 (0), .bool (false), .int .i64 (0), .string (⟨#[]⟩)] := Bk.at (by simp)
  have F0 : Ext w (((w.alloc (.cells #[.int .u8 (ka), .bool (ba), .int .i64 (na), .string (sa)] 24)).alloc (.cells #[.int .u8 (ka), .bool (bb), .int .i64 (nb), .string (sb)] 24)).alloc (.cells #[.int .u8 (0), .bool (false), .int .i64 (0), .string (⟨#[]⟩)] 24)) := (((Ext.refl w).alloc _).alloc _).alloc _
  have m1 : True := trivial
  go_enter Tryd.func48, Tryd.ntmps48
  go_wp2_with (first
    | (have z := m1; clear z m1; go_at_call 38; refine (rcheck_at _ _ _ _ _ HCA ga).mono ?_; rintro e w1 ⟨rfl, x1⟩; have a_1 := a_0.ext x1; have b_1 := b_0.ext x1; have z_1 := z_0.ext x1; have F1 : Ext w w1 := (F0.trans x1); clear x1; have a_10 : w1.cell? ⟨w.heap.size, 0, none⟩ = some (.int .u8 (ka)) := a_1.cell 0; have a_11 : w1.cell? ⟨w.heap.size, 1, none⟩ = some (.bool (ba)) := a_1.cell 1; have a_12 : w1.cell? ⟨w.heap.size, 2, none⟩ = some (.int .i64 (na)) := a_1.cell 2; have a_13 : w1.cell? ⟨w.heap.size, 3, none⟩ = some (.string (sa)) := a_1.cell 3; have b_10 : w1.cell? ⟨w.heap.size + 1, 0, none⟩ = some (.int .u8 (ka)) := b_1.cell 0; have b_11 : w1.cell? ⟨w.heap.size + 1, 1, none⟩ = some (.bool (bb)) := b_1.cell 1; have b_12 : w1.cell? ⟨w.heap.size + 1, 2, none⟩ = some (.int .i64 (nb)) := b_1.cell 2; have b_13 : w1.cell? ⟨w.heap.size + 1, 3, none⟩ = some (.string (sb)) := b_1.cell 3; have m2 : True := trivial)
    | (have z := m2; clear z m2; go_at_call 38; refine (rcheck_at _ _ _ _ _ HCB gb).mono ?_; rintro e w2 ⟨rfl, x2⟩; have a_2 := a_1.ext x2; have b_2 := b_1.ext x2; have z_2 := z_1.ext x2; have F2 : Ext w w2 := (F1.trans x2); clear x2; have a_20 : w2.cell? ⟨w.heap.size, 0, none⟩ = some (.int .u8 (ka)) := a_2.cell 0; have a_21 : w2.cell? ⟨w.heap.size, 1, none⟩ = some (.bool (ba)) := a_2.cell 1; have a_22 : w2.cell? ⟨w.heap.size, 2, none⟩ = some (.int .i64 (na)) := a_2.cell 2; have a_23 : w2.cell? ⟨w.heap.size, 3, none⟩ = some (.string (sa)) := a_2.cell 3; have b_20 : w2.cell? ⟨w.heap.size + 1, 0, none⟩ = some (.int .u8 (ka)) := b_2.cell 0; have b_21 : w2.cell? ⟨w.heap.size + 1, 1, none⟩ = some (.bool (bb)) := b_2.cell 1; have b_22 : w2.cell? ⟨w.heap.size + 1, 2, none⟩ = some (.int .i64 (nb)) := b_2.cell 2; have b_23 : w2.cell? ⟨w.heap.size + 1, 3, none⟩ = some (.string (sb)) := b_2.cell 3; have m3 : True := trivial)
    | (have z := m3; clear z m3; go_at_call 40; refine (rcmp_at _ _ _ _ _ _ _ _ _ HC).mono ?_; rintro e w3 ⟨rfl, x3⟩; have a_3 := (a_2.ext x3).alloc (.cells #[.bool true, .bool false, .bool false, .bool true, .bool false, .bool true] 4); have b_3 := (b_2.ext x3).alloc (.cells #[.bool true, .bool false, .bool false, .bool true, .bool false, .bool true] 4); have z_3 := (z_2.ext x3).alloc (.cells #[.bool true, .bool false, .bool false, .bool true, .bool false, .bool true] 4); have F3 : Ext w (w3.alloc (.cells #[.bool true, .bool false, .bool false, .bool true, .bool false, .bool true] 4)) := (F2.trans x3).alloc _; have l_3 := Bk.new w3 4 #[.bool true, .bool false, .bool false, .bool true, .bool false, .bool true]; clear x3; have m4 : True := trivial)
    | (have z := m4; clear z m4; go_at_call 63; refine (rbool_any _ _).mono ?_; rintro e w4 ⟨rfl, x4⟩; have a_4 := a_3.ext x4; have b_4 := b_3.ext x4; have z_4 := z_3.ext x4; have l_4 := l_3.ext x4; have F4 : Ext w w4 := (F3.trans x4); clear x4; have z_4f0 : w4.frozen? ⟨w.heap.size + 1 + 1, 0, none⟩ = false := z_4.free 0; have z_4f1 : w4.frozen? ⟨w.heap.size + 1 + 1, 1, none⟩ = false := z_4.free 1; have z_4f2 : w4.frozen? ⟨w.heap.size + 1 + 1, 2, none⟩ = false := z_4.free 2; have z_4f3 : w4.frozen? ⟨w.heap.size + 1 + 1, 3, none⟩ = false := z_4.free 3; have z_40 : w4.cell? ⟨w.heap.size + 1 + 1, 0, none⟩ = some (.int .u8 (0)) := z_4.cell 0; have z_41 : w4.cell? ⟨w.heap.size + 1 + 1, 1, none⟩ = some (.bool (false)) := z_4.cell 1; have z_42 : w4.cell? ⟨w.heap.size + 1 + 1, 2, none⟩ = some (.int .i64 (0)) := z_4.cell 2; have z_43 : w4.cell? ⟨w.heap.size + 1 + 1, 3, none⟩ = some (.string (⟨#[]⟩)) := z_4.cell 3; have m5 : True := trivial)
    | fail)
  have q := z_4.set4 (.int .u8 (2)) (.bool (false)) (.int .i64 (0)) (.string (⟨#[]⟩))
  refine bodyPost_ret (v := .tuple #[.agg #[.int .u8 (2), .bool (false), .int .i64 (0), .string (⟨#[]⟩)], .int .i64 (0)]) (by simp [results, Tryd.results48, go_sem, q.1, q.2.1, q.2.2.1, q.2.2.2]) rfl ⟨rfl, Ext.set4 F4 (by first | omega | simp) _ _ _ _⟩
set_option maxRecDepth 100000 in
set_option maxHeartbeats 1000000 in
theorem rcomp_13_gt (ka na kb nb ca cb op : Int) (ba bb : Bool) (sa sb : ByteArray) (w : World) (ga : sa.size ≤ 140737488355328) (gb : sb.size ≤ 140737488355328) (hca : checkT ka ba na sa = 0) (hcb : checkT ka bb nb sb = 0) (l1 : (ka == 1) = false) (hc : cmpD ⟨ka, ba, na, sa⟩ ⟨ka, bb, nb, sb⟩ = 1) :
    Calls Tryd.prog 48 #[.int .u8 13, .agg #[.int .u8 (ka), .bool (ba), .int .i64 (na), .string (sa)], .agg #[.int .u8 (ka), .bool (bb), .int .i64 (nb), .string (sb)]] w (RefOut w (⟨2, false, 0, ⟨#[]⟩⟩, 0)) := by
  have HCA := Lib.hid hca
  clear hca
  have HCB := Lib.hid hcb
  clear hcb
  have HC := Lib.hid hc
  clear hc
  have l3 : (ka != ka) = false := by simp
  have a_0 : Bk (((w.alloc (.cells #[.int .u8 (ka), .bool (ba), .int .i64 (na), .string (sa)] 24)).alloc (.cells #[.int .u8 (ka), .bool (bb), .int .i64 (nb), .string (sb)] 24)).alloc (.cells #[.int .u8 (0), .bool (false), .int .i64 (0), .string (⟨#[]⟩)] 24)) w.heap.size 24 #[.int .u8 (ka), .bool (ba), .int .i64 (na), .string (sa)] := ((Bk.new _ _ _).alloc _).alloc _
  have b_0 : Bk (((w.alloc (.cells #[.int .u8 (ka), .bool (ba), .int .i64 (na), .string (sa)] 24)).alloc (.cells #[.int .u8 (ka), .bool (bb), .int .i64 (nb), .string (sb)] 24)).alloc (.cells #[.int .u8 (0), .bool (false), .int .i64 (0), .string (⟨#[]⟩)] 24)) (w.heap.size + 1) 24 #[.int .u8 (ka), .bool (bb), .int .i64 (nb), .string (sb)] := (Bk.at (by simp)).alloc _
  have z_0 : Bk (((w.alloc (.cells #[.int .u8 (ka), .bool (ba), .int .i64 (na), .string (sa)] 24)).alloc (.cells #[.int .u8 (ka), .bool (bb), .int .i64 (nb), .string (sb)] 24)).alloc (.cells #[.int .u8 (0), .bool (false), .int .i64 (0), .string (⟨#[]⟩)] 24)) (w.heap.size + 1 + 1) 24 #[.int .u8 (0), .bool (false), .int .i64 (0), .string (⟨#[]⟩)] := Bk.at (by simp)
  have F0 : Ext w (((w.alloc (.cells #[.int .u8 (ka), .bool (ba), .int .i64 (na), .string (sa)] 24)).alloc (.cells #[.int .u8 (ka), .bool (bb), .int .i64 (nb), .string (sb)] 24)).alloc (.cells #[.int .u8 (0), .bool (false), .int .i64 (0), .string (⟨#[]⟩)] 24)) := (((Ext.refl w).alloc _).alloc _).alloc _
  have m1 : True := trivial
  go_enter Tryd.func48, Tryd.ntmps48
  go_wp2_with (first
    | (have z := m1; clear z m1; go_at_call 38; refine (rcheck_at _ _ _ _ _ HCA ga).mono ?_; rintro e w1 ⟨rfl, x1⟩; have a_1 := a_0.ext x1; have b_1 := b_0.ext x1; have z_1 := z_0.ext x1; have F1 : Ext w w1 := (F0.trans x1); clear x1; have a_10 : w1.cell? ⟨w.heap.size, 0, none⟩ = some (.int .u8 (ka)) := a_1.cell 0; have a_11 : w1.cell? ⟨w.heap.size, 1, none⟩ = some (.bool (ba)) := a_1.cell 1; have a_12 : w1.cell? ⟨w.heap.size, 2, none⟩ = some (.int .i64 (na)) := a_1.cell 2; have a_13 : w1.cell? ⟨w.heap.size, 3, none⟩ = some (.string (sa)) := a_1.cell 3; have b_10 : w1.cell? ⟨w.heap.size + 1, 0, none⟩ = some (.int .u8 (ka)) := b_1.cell 0; have b_11 : w1.cell? ⟨w.heap.size + 1, 1, none⟩ = some (.bool (bb)) := b_1.cell 1; have b_12 : w1.cell? ⟨w.heap.size + 1, 2, none⟩ = some (.int .i64 (nb)) := b_1.cell 2; have b_13 : w1.cell? ⟨w.heap.size + 1, 3, none⟩ = some (.string (sb)) := b_1.cell 3; have m2 : True := trivial)
    | (have z := m2; clear z m2; go_at_call 38; refine (rcheck_at _ _ _ _ _ HCB gb).mono ?_; rintro e w2 ⟨rfl, x2⟩; have a_2 := a_1.ext x2; have b_2 := b_1.ext x2; have z_2 := z_1.ext x2; have F2 : Ext w w2 := (F1.trans x2); clear x2; have a_20 : w2.cell? ⟨w.heap.size, 0, none⟩ = some (.int .u8 (ka)) := a_2.cell 0; have a_21 : w2.cell? ⟨w.heap.size, 1, none⟩ = some (.bool (ba)) := a_2.cell 1; have a_22 : w2.cell? ⟨w.heap.size, 2, none⟩ = some (.int .i64 (na)) := a_2.cell 2; have a_23 : w2.cell? ⟨w.heap.size, 3, none⟩ = some (.string (sa)) := a_2.cell 3; have b_20 : w2.cell? ⟨w.heap.size + 1, 0, none⟩ = some (.int .u8 (ka)) := b_2.cell 0; have b_21 : w2.cell? ⟨w.heap.size + 1, 1, none⟩ = some (.bool (bb)) := b_2.cell 1; have b_22 : w2.cell? ⟨w.heap.size + 1, 2, none⟩ = some (.int .i64 (nb)) := b_2.cell 2; have b_23 : w2.cell? ⟨w.heap.size + 1, 3, none⟩ = some (.string (sb)) := b_2.cell 3; have m3 : True := trivial)
    | (have z := m3; clear z m3; go_at_call 40; refine (rcmp_at _ _ _ _ _ _ _ _ _ HC).mono ?_; rintro e w3 ⟨rfl, x3⟩; have a_3 := (a_2.ext x3).alloc (.cells #[.bool false, .bool true, .bool false, .bool false, .bool true, .bool true] 4); have b_3 := (b_2.ext x3).alloc (.cells #[.bool false, .bool true, .bool false, .bool false, .bool true, .bool true] 4); have z_3 := (z_2.ext x3).alloc (.cells #[.bool false, .bool true, .bool false, .bool false, .bool true, .bool true] 4); have F3 : Ext w (w3.alloc (.cells #[.bool false, .bool true, .bool false, .bool false, .bool true, .bool true] 4)) := (F2.trans x3).alloc _; have l_3 := Bk.new w3 4 #[.bool false, .bool true, .bool false, .bool false, .bool true, .bool true]; clear x3; have m4 : True := trivial)
    | (have z := m4; clear z m4; go_at_call 63; refine (rbool_any _ _).mono ?_; rintro e w4 ⟨rfl, x4⟩; have a_4 := a_3.ext x4; have b_4 := b_3.ext x4; have z_4 := z_3.ext x4; have l_4 := l_3.ext x4; have F4 : Ext w w4 := (F3.trans x4); clear x4; have z_4f0 : w4.frozen? ⟨w.heap.size + 1 + 1, 0, none⟩ = false := z_4.free 0; have z_4f1 : w4.frozen? ⟨w.heap.size + 1 + 1, 1, none⟩ = false := z_4.free 1; have z_4f2 : w4.frozen? ⟨w.heap.size + 1 + 1, 2, none⟩ = false := z_4.free 2; have z_4f3 : w4.frozen? ⟨w.heap.size + 1 + 1, 3, none⟩ = false := z_4.free 3; have z_40 : w4.cell? ⟨w.heap.size + 1 + 1, 0, none⟩ = some (.int .u8 (0)) := z_4.cell 0; have z_41 : w4.cell? ⟨w.heap.size + 1 + 1, 1, none⟩ = some (.bool (false)) := z_4.cell 1; have z_42 : w4.cell? ⟨w.heap.size + 1 + 1, 2, none⟩ = some (.int .i64 (0)) := z_4.cell 2; have z_43 : w4.cell? ⟨w.heap.size + 1 + 1, 3, none⟩ = some (.string (⟨#[]⟩)) := z_4.cell 3; have m5 : True := trivial)
    | fail)
  have q := z_4.set4 (.int .u8 (2)) (.bool (false)) (.int .i64 (0)) (.string (⟨#[]⟩))
  refine bodyPost_ret (v := .tuple #[.agg #[.int .u8 (2), .bool (false), .int .i64 (0), .string (⟨#[]⟩)], .int .i64 (0)]) (by simp [results, Tryd.results48, go_sem, q.1, q.2.1, q.2.2.1, q.2.2.2]) rfl ⟨rfl, Ext.set4 F4 (by first | omega | simp) _ _ _ _⟩
set_option maxRecDepth 100000 in
set_option maxHeartbeats 1000000 in
theorem rcomp_14_lt (ka na kb nb ca cb op : Int) (ba bb : Bool) (sa sb : ByteArray) (w : World) (ga : sa.size ≤ 140737488355328) (gb : sb.size ≤ 140737488355328) (hca : checkT ka ba na sa = 0) (hcb : checkT ka bb nb sb = 0) (l1 : (ka == 1) = false) (hc : cmpD ⟨ka, ba, na, sa⟩ ⟨ka, bb, nb, sb⟩ = -1) :
    Calls Tryd.prog 48 #[.int .u8 14, .agg #[.int .u8 (ka), .bool (ba), .int .i64 (na), .string (sa)], .agg #[.int .u8 (ka), .bool (bb), .int .i64 (nb), .string (sb)]] w (RefOut w (⟨2, true, 0, ⟨#[]⟩⟩, 0)) := by
  have HCA := Lib.hid hca
  clear hca
  have HCB := Lib.hid hcb
  clear hcb
  have HC := Lib.hid hc
  clear hc
  have l3 : (ka != ka) = false := by simp
  have a_0 : Bk (((w.alloc (.cells #[.int .u8 (ka), .bool (ba), .int .i64 (na), .string (sa)] 24)).alloc (.cells #[.int .u8 (ka), .bool (bb), .int .i64 (nb), .string (sb)] 24)).alloc (.cells #[.int .u8 (0), .bool (false), .int .i64 (0), .string (⟨#[]⟩)] 24)) w.heap.size 24 #[.int .u8 (ka), .bool (ba), .int .i64 (na), .string (sa)] := ((Bk.new _ _ _).alloc _).alloc _
  have b_0 : Bk (((w.alloc (.cells #[.int .u8 (ka), .bool (ba), .int .i64 (na), .string (sa)] 24)).alloc (.cells #[.int .u8 (ka), .bool (bb), .int .i64 (nb), .string (sb)] 24)).alloc (.cells #[.int .u8 (0), .bool (false), .int .i64 (0), .string (⟨#[]⟩)] 24)) (w.heap.size + 1) 24 #[.int .u8 (ka), .bool (bb), .int .i64 (nb), .string (sb)] := (Bk.at (by simp)).alloc _
  have z_0 : Bk (((w.alloc (.cells #[.int .u8 (ka), .bool (ba), .int .i64 (na), .string (sa)] 24)).alloc (.cells #[.int .u8 (ka), .bool (bb), .int .i64 (nb), .string (sb)] 24)).alloc (.cells #[.int .u8 (0), .bool (false), .int .i64 (0), .string (⟨#[]⟩)] 24)) (w.heap.size + 1 + 1) 24 #[.int .u8 (0), .bool (false), .int .i64 (0), .string (⟨#[]⟩)] := Bk.at (by simp)
  have F0 : Ext w (((w.alloc (.cells #[.int .u8 (ka), .bool (ba), .int .i64 (na), .string (sa)] 24)).alloc (.cells #[.int .u8 (ka), .bool (bb), .int .i64 (nb), .string (sb)] 24)).alloc (.cells #[.int .u8 (0), .bool (false), .int .i64 (0), .string (⟨#[]⟩)] 24)) := (((Ext.refl w).alloc _).alloc _).alloc _
  have m1 : True := trivial
  go_enter Tryd.func48, Tryd.ntmps48
  go_wp2_with (first
    | (have z := m1; clear z m1; go_at_call 38; refine (rcheck_at _ _ _ _ _ HCA ga).mono ?_; rintro e w1 ⟨rfl, x1⟩; have a_1 := a_0.ext x1; have b_1 := b_0.ext x1; have z_1 := z_0.ext x1; have F1 : Ext w w1 := (F0.trans x1); clear x1; have a_10 : w1.cell? ⟨w.heap.size, 0, none⟩ = some (.int .u8 (ka)) := a_1.cell 0; have a_11 : w1.cell? ⟨w.heap.size, 1, none⟩ = some (.bool (ba)) := a_1.cell 1; have a_12 : w1.cell? ⟨w.heap.size, 2, none⟩ = some (.int .i64 (na)) := a_1.cell 2; have a_13 : w1.cell? ⟨w.heap.size, 3, none⟩ = some (.string (sa)) := a_1.cell 3; have b_10 : w1.cell? ⟨w.heap.size + 1, 0, none⟩ = some (.int .u8 (ka)) := b_1.cell 0; have b_11 : w1.cell? ⟨w.heap.size + 1, 1, none⟩ = some (.bool (bb)) := b_1.cell 1; have b_12 : w1.cell? ⟨w.heap.size + 1, 2, none⟩ = some (.int .i64 (nb)) := b_1.cell 2; have b_13 : w1.cell? ⟨w.heap.size + 1, 3, none⟩ = some (.string (sb)) := b_1.cell 3; have m2 : True := trivial)
    | (have z := m2; clear z m2; go_at_call 38; refine (rcheck_at _ _ _ _ _ HCB gb).mono ?_; rintro e w2 ⟨rfl, x2⟩; have a_2 := a_1.ext x2; have b_2 := b_1.ext x2; have z_2 := z_1.ext x2; have F2 : Ext w w2 := (F1.trans x2); clear x2; have a_20 : w2.cell? ⟨w.heap.size, 0, none⟩ = some (.int .u8 (ka)) := a_2.cell 0; have a_21 : w2.cell? ⟨w.heap.size, 1, none⟩ = some (.bool (ba)) := a_2.cell 1; have a_22 : w2.cell? ⟨w.heap.size, 2, none⟩ = some (.int .i64 (na)) := a_2.cell 2; have a_23 : w2.cell? ⟨w.heap.size, 3, none⟩ = some (.string (sa)) := a_2.cell 3; have b_20 : w2.cell? ⟨w.heap.size + 1, 0, none⟩ = some (.int .u8 (ka)) := b_2.cell 0; have b_21 : w2.cell? ⟨w.heap.size + 1, 1, none⟩ = some (.bool (bb)) := b_2.cell 1; have b_22 : w2.cell? ⟨w.heap.size + 1, 2, none⟩ = some (.int .i64 (nb)) := b_2.cell 2; have b_23 : w2.cell? ⟨w.heap.size + 1, 3, none⟩ = some (.string (sb)) := b_2.cell 3; have m3 : True := trivial)
    | (have z := m3; clear z m3; go_at_call 40; refine (rcmp_at _ _ _ _ _ _ _ _ _ HC).mono ?_; rintro e w3 ⟨rfl, x3⟩; have a_3 := (a_2.ext x3).alloc (.cells #[.bool false, .bool true, .bool true, .bool true, .bool false, .bool false] 4); have b_3 := (b_2.ext x3).alloc (.cells #[.bool false, .bool true, .bool true, .bool true, .bool false, .bool false] 4); have z_3 := (z_2.ext x3).alloc (.cells #[.bool false, .bool true, .bool true, .bool true, .bool false, .bool false] 4); have F3 : Ext w (w3.alloc (.cells #[.bool false, .bool true, .bool true, .bool true, .bool false, .bool false] 4)) := (F2.trans x3).alloc _; have l_3 := Bk.new w3 4 #[.bool false, .bool true, .bool true, .bool true, .bool false, .bool false]; clear x3; have m4 : True := trivial)
    | (have z := m4; clear z m4; go_at_call 63; refine (rbool_any _ _).mono ?_; rintro e w4 ⟨rfl, x4⟩; have a_4 := a_3.ext x4; have b_4 := b_3.ext x4; have z_4 := z_3.ext x4; have l_4 := l_3.ext x4; have F4 : Ext w w4 := (F3.trans x4); clear x4; have z_4f0 : w4.frozen? ⟨w.heap.size + 1 + 1, 0, none⟩ = false := z_4.free 0; have z_4f1 : w4.frozen? ⟨w.heap.size + 1 + 1, 1, none⟩ = false := z_4.free 1; have z_4f2 : w4.frozen? ⟨w.heap.size + 1 + 1, 2, none⟩ = false := z_4.free 2; have z_4f3 : w4.frozen? ⟨w.heap.size + 1 + 1, 3, none⟩ = false := z_4.free 3; have z_40 : w4.cell? ⟨w.heap.size + 1 + 1, 0, none⟩ = some (.int .u8 (0)) := z_4.cell 0; have z_41 : w4.cell? ⟨w.heap.size + 1 + 1, 1, none⟩ = some (.bool (false)) := z_4.cell 1; have z_42 : w4.cell? ⟨w.heap.size + 1 + 1, 2, none⟩ = some (.int .i64 (0)) := z_4.cell 2; have z_43 : w4.cell? ⟨w.heap.size + 1 + 1, 3, none⟩ = some (.string (⟨#[]⟩)) := z_4.cell 3; have m5 : True := trivial)
    | fail)
  have q := z_4.set4 (.int .u8 (2)) (.bool (true)) (.int .i64 (0)) (.string (⟨#[]⟩))
  refine bodyPost_ret (v := .tuple #[.agg #[.int .u8 (2), .bool (true), .int .i64 (0), .string (⟨#[]⟩)], .int .i64 (0)]) (by simp [results, Tryd.results48, go_sem, q.1, q.2.1, q.2.2.1, q.2.2.2]) rfl ⟨rfl, Ext.set4 F4 (by first | omega | simp) _ _ _ _⟩
set_option maxRecDepth 100000 in
set_option maxHeartbeats 1000000 in
theorem rcomp_14_eq (ka na kb nb ca cb op : Int) (ba bb : Bool) (sa sb : ByteArray) (w : World) (ga : sa.size ≤ 140737488355328) (gb : sb.size ≤ 140737488355328) (hca : checkT ka ba na sa = 0) (hcb : checkT ka bb nb sb = 0) (l1 : (ka == 1) = false) (hc : cmpD ⟨ka, ba, na, sa⟩ ⟨ka, bb, nb, sb⟩ = 0) :
    Calls Tryd.prog 48 #[.int .u8 14, .agg #[.int .u8 (ka), .bool (ba), .int .i64 (na), .string (sa)], .agg #[.int .u8 (ka), .bool (bb), .int .i64 (nb), .string (sb)]] w (RefOut w (⟨2, true, 0, ⟨#[]⟩⟩, 0)) := by
  have HCA := Lib.hid hca
  clear hca
  have HCB := Lib.hid hcb
  clear hcb
  have HC := Lib.hid hc
  clear hc
  have l3 : (ka != ka) = false := by simp
  have a_0 : Bk (((w.alloc (.cells #[.int .u8 (ka), .bool (ba), .int .i64 (na), .string (sa)] 24)).alloc (.cells #[.int .u8 (ka), .bool (bb), .int .i64 (nb), .string (sb)] 24)).alloc (.cells #[.int .u8 (0), .bool (false), .int .i64 (0), .string (⟨#[]⟩)] 24)) w.heap.size 24 #[.int .u8 (ka), .bool (ba), .int .i64 (na), .string (sa)] := ((Bk.new _ _ _).alloc _).alloc _
  have b_0 : Bk (((w.alloc (.cells #[.int .u8 (ka), .bool (ba), .int .i64 (na), .string (sa)] 24)).alloc (.cells #[.int .u8 (ka), .bool (bb), .int .i64 (nb), .string (sb)] 24)).alloc (.cells #[.int .u8 (0), .bool (false), .int .i64 (0), .string (⟨#[]⟩)] 24)) (w.heap.size + 1) 24 #[.int .u8 (ka), .bool (bb), .int .i64 (nb), .string (sb)] := (Bk.at (by simp)).alloc _
  have z_0 : Bk (((w.alloc (.cells #[.int .u8 (ka), .bool (ba), .int .i64 (na), .string (sa)] 24)).alloc (.cells #[.int .u8 (ka), .bool (bb), .int .i64 (nb), .string (sb)] 24)).alloc (.cells #[.int .u8 (0), .bool (false), .int .i64 (0), .string (⟨#[]⟩)] 24)) (w.heap.size + 1 + 1) 24 #[.int .u8 (0), .bool (false), .int .i64 (0), .string (⟨#[]⟩)] := Bk.at (by simp)
  have F0 : Ext w (((w.alloc (.cells #[.int .u8 (ka), .bool (ba), .int .i64 (na), .string (sa)] 24)).alloc (.cells #[.int .u8 (ka), .bool (bb), .int .i64 (nb), .string (sb)] 24)).alloc (.cells #[.int .u8 (0), .bool (false), .int .i64 (0), .string (⟨#[]⟩)] 24)) := (((Ext.refl w).alloc _).alloc _).alloc _
  have m1 : True := trivial
  go_enter Tryd.func48, Tryd.ntmps48
  go_wp2_with (first
    | (have z := m1; clear z m1; go_at_call 38; refine (rcheck_at _ _ _ _ _ HCA ga).mono ?_; rintro e w1 ⟨rfl, x1⟩; have a_1 := a_0.ext x1; have b_1 := b_0.ext x1; have z_1 := z_0.ext x1; have F1 : Ext w w1 := (F0.trans x1); clear x1; have a_10 : w1.cell? ⟨w.heap.size, 0, none⟩ = some (.int .u8 (ka)) := a_1.cell 0; have a_11 : w1.cell? ⟨w.heap.size, 1, none⟩ = some (.bool (ba)) := a_1.cell 1; have a_12 : w1.cell? ⟨w.heap.size, 2, none⟩ = some (.int .i64 (na)) := a_1.cell 2; have a_13 : w1.cell? ⟨w.heap.size, 3, none⟩ = some (.string (sa)) := a_1.cell 3; have b_10 : w1.cell? ⟨w.heap.size + 1, 0, none⟩ = some (.int .u8 (ka)) := b_1.cell 0; have b_11 : w1.cell? ⟨w.heap.size + 1, 1, none⟩ = some (.bool (bb)) := b_1.cell 1; have b_12 : w1.cell? ⟨w.heap.size + 1, 2, none⟩ = some (.int .i64 (nb)) := b_1.cell 2; have b_13 : w1.cell? ⟨w.heap.size + 1, 3, none⟩ = some (.string (sb)) := b_1.cell 3; have m2 : True := trivial)
    | (have z := m2; clear z m2; go_at_call 38; refine (rcheck_at _ _ _ _ _ HCB gb).mono ?_; rintro e w2 ⟨rfl, x2⟩; have a_2 := a_1.ext x2; have b_2 := b_1.ext x2; have z_2 := z_1.ext x2; have F2 : Ext w w2 := (F1.trans x2); clear x2; have a_20 : w2.cell? ⟨w.heap.size, 0, none⟩ = some (.int .u8 (ka)) := a_2.cell 0; have a_21 : w2.cell? ⟨w.heap.size, 1, none⟩ = some (.bool (ba)) := a_2.cell 1; have a_22 : w2.cell? ⟨w.heap.size, 2, none⟩ = some (.int .i64 (na)) := a_2.cell 2; have a_23 : w2.cell? ⟨w.heap.size, 3, none⟩ = some (.string (sa)) := a_2.cell 3; have b_20 : w2.cell? ⟨w.heap.size + 1, 0, none⟩ = some (.int .u8 (ka)) := b_2.cell 0; have b_21 : w2.cell? ⟨w.heap.size + 1, 1, none⟩ = some (.bool (bb)) := b_2.cell 1; have b_22 : w2.cell? ⟨w.heap.size + 1, 2, none⟩ = some (.int .i64 (nb)) := b_2.cell 2; have b_23 : w2.cell? ⟨w.heap.size + 1, 3, none⟩ = some (.string (sb)) := b_2.cell 3; have m3 : True := trivial)
    | (have z := m3; clear z m3; go_at_call 40; refine (rcmp_at _ _ _ _ _ _ _ _ _ HC).mono ?_; rintro e w3 ⟨rfl, x3⟩; have a_3 := (a_2.ext x3).alloc (.cells #[.bool true, .bool false, .bool false, .bool true, .bool false, .bool true] 4); have b_3 := (b_2.ext x3).alloc (.cells #[.bool true, .bool false, .bool false, .bool true, .bool false, .bool true] 4); have z_3 := (z_2.ext x3).alloc (.cells #[.bool true, .bool false, .bool false, .bool true, .bool false, .bool true] 4); have F3 : Ext w (w3.alloc (.cells #[.bool true, .bool false, .bool false, .bool true, .bool false, .bool true] 4)) := (F2.trans x3).alloc _; have l_3 := Bk.new w3 4 #[.bool true, .bool false, .bool false, .bool true, .bool false, .bool true]; clear x3; have m4 : True := trivial)
    | (have z := m4; clear z m4; go_at_call 63; refine (rbool_any _ _).mono ?_; rintro e w4 ⟨rfl, x4⟩; have a_4 := a_3.ext x4; have b_4 := b_3.ext x4; have z_4 := z_3.ext x4; have l_4 := l_3.ext x4; have F4 : Ext w w4 := (F3.trans x4); clear x4; have z_4f0 : w4.frozen? ⟨w.heap.size + 1 + 1, 0, none⟩ = false := z_4.free 0; have z_4f1 : w4.frozen? ⟨w.heap.size + 1 + 1, 1, none⟩ = false := z_4.free 1; have z_4f2 : w4.frozen? ⟨w.heap.size + 1 + 1, 2, none⟩ = false := z_4.free 2; have z_4f3 : w4.frozen? ⟨w.heap.size + 1 + 1, 3, none⟩ = false := z_4.free 3; have z_40 : w4.cell? ⟨w.heap.size + 1 + 1, 0, none⟩ = some (.int .u8 (0)) := z_4.cell 0; have z_41 : w4.cell? ⟨w.heap.size + 1 + 1, 1, none⟩ = some (.bool (false)) := z_4.cell 1; have z_42 : w4.cell? ⟨w.heap.size + 1 + 1, 2, none⟩ = some (.int .i64 (0)) := z_4.cell 2; have z_43 : w4.cell? ⟨w.heap.size + 1 + 1, 3, none⟩ = some (.string (⟨#[]⟩)) := z_4.cell 3; have m5 : True := trivial)
    | fail)
  have q := z_4.set4 (.int .u8 (2)) (.bool (true)) (.int .i64 (0)) (.string (⟨#[]⟩))
  refine bodyPost_ret (v := .tuple #[.agg #[.int .u8 (2), .bool (true), .int .i64 (0), .string (⟨#[]⟩)], .int .i64 (0)]) (by simp [results, Tryd.results48, go_sem, q.1, q.2.1, q.2.2.1, q.2.2.2]) rfl ⟨rfl, Ext.set4 F4 (by first | omega | simp) _ _ _ _⟩
set_option maxRecDepth 100000 in
set_option maxHeartbeats 1000000 in
theorem rcomp_14_gt (ka na kb nb ca cb op : Int) (ba bb : Bool) (sa sb : ByteArray) (w : World) (ga : sa.size ≤ 140737488355328) (gb : sb.size ≤ 140737488355328) (hca : checkT ka ba na sa = 0) (hcb : checkT ka bb nb sb = 0) (l1 : (ka == 1) = false) (hc : cmpD ⟨ka, ba, na, sa⟩ ⟨ka, bb, nb, sb⟩ = 1) :
    Calls Tryd.prog 48 #[.int .u8 14, .agg #[.int .u8 (ka), .bool (ba), .int .i64 (na), .string (sa)], .agg #[.int .u8 (ka), .bool (bb), .int .i64 (nb), .string (sb)]] w (RefOut w (⟨2, false, 0, ⟨#[]⟩⟩, 0)) := by
  have HCA := Lib.hid hca
  clear hca
  have HCB := Lib.hid hcb
  clear hcb
  have HC := Lib.hid hc
  clear hc
  have l3 : (ka != ka) = false := by simp
  have a_0 : Bk (((w.alloc (.cells #[.int .u8 (ka), .bool (ba), .int .i64 (na), .string (sa)] 24)).alloc (.cells #[.int .u8 (ka), .bool (bb), .int .i64 (nb), .string (sb)] 24)).alloc (.cells #[.int .u8 (0), .bool (false), .int .i64 (0), .string (⟨#[]⟩)] 24)) w.heap.size 24 #[.int .u8 (ka), .bool (ba), .int .i64 (na), .string (sa)] := ((Bk.new _ _ _).alloc _).alloc _
  have b_0 : Bk (((w.alloc (.cells #[.int .u8 (ka), .bool (ba), .int .i64 (na), .string (sa)] 24)).alloc (.cells #[.int .u8 (ka), .bool (bb), .int .i64 (nb), .string (sb)] 24)).alloc (.cells #[.int .u8 (0), .bool (false), .int .i64 (0), .string (⟨#[]⟩)] 24)) (w.heap.size + 1) 24 #[.int .u8 (ka), .bool (bb), .int .i64 (nb), .string (sb)] := (Bk.at (by simp)).alloc _
  have z_0 : Bk (((w.alloc (.cells #[.int .u8 (ka), .bool (ba), .int .i64 (na), .string (sa)] 24)).alloc (.cells #[.int .u8 (ka), .bool (bb), .int .i64 (nb), .string (sb)] 24)).alloc (.cells #[.int .u8 (0), .bool (false), .int .i64 (0), .string (⟨#[]⟩)] 24)) (w.heap.size + 1 + 1) 24 #[.int .u8 (0), .bool (false), .int .i64 (0), .string (⟨#[]⟩)] := Bk.at (by simp)
  have F0 : Ext w (((w.alloc (.cells #[.int .u8 (ka), .bool (ba), .int .i64 (na), .string (sa)] 24)).alloc (.cells #[.int .u8 (ka), .bool (bb), .int .i64 (nb), .string (sb)] 24)).alloc (.cells #[.int .u8 (0), .bool (false), .int .i64 (0), .string (⟨#[]⟩)] 24)) := (((Ext.refl w).alloc _).alloc _).alloc _
  have m1 : True := trivial
  go_enter Tryd.func48, Tryd.ntmps48
  go_wp2_with (first
    | (have z := m1; clear z m1; go_at_call 38; refine (rcheck_at _ _ _ _ _ HCA ga).mono ?_; rintro e w1 ⟨rfl, x1⟩; have a_1 := a_0.ext x1; have b_1 := b_0.ext x1; have z_1 := z_0.ext x1; have F1 : Ext w w1 := (F0.trans x1); clear x1; have a_10 : w1.cell? ⟨w.heap.size, 0, none⟩ = some (.int .u8 (ka)) := a_1.cell 0; have a_11 : w1.cell? ⟨w.heap.size, 1, none⟩ = some (.bool (ba)) := a_1.cell 1; have a_12 : w1.cell? ⟨w.heap.size, 2, none⟩ = some (.int .i64 (na)) := a_1.cell 2; have a_13 : w1.cell? ⟨w.heap.size, 3, none⟩ = some (.string (sa)) := a_1.cell 3; have b_10 : w1.cell? ⟨w.heap.size + 1, 0, none⟩ = some (.int .u8 (ka)) := b_1.cell 0; have b_11 : w1.cell? ⟨w.heap.size + 1, 1, none⟩ = some (.bool (bb)) := b_1.cell 1; have b_12 : w1.cell? ⟨w.heap.size + 1, 2, none⟩ = some (.int .i64 (nb)) := b_1.cell 2; have b_13 : w1.cell? ⟨w.heap.size + 1, 3, none⟩ = some (.string (sb)) := b_1.cell 3; have m2 : True := trivial)
    | (have z := m2; clear z m2; go_at_call 38; refine (rcheck_at _ _ _ _ _ HCB gb).mono ?_; rintro e w2 ⟨rfl, x2⟩; have a_2 := a_1.ext x2; have b_2 := b_1.ext x2; have z_2 := z_1.ext x2; have F2 : Ext w w2 := (F1.trans x2); clear x2; have a_20 : w2.cell? ⟨w.heap.size, 0, none⟩ = some (.int .u8 (ka)) := a_2.cell 0; have a_21 : w2.cell? ⟨w.heap.size, 1, none⟩ = some (.bool (ba)) := a_2.cell 1; have a_22 : w2.cell? ⟨w.heap.size, 2, none⟩ = some (.int .i64 (na)) := a_2.cell 2; have a_23 : w2.cell? ⟨w.heap.size, 3, none⟩ = some (.string (sa)) := a_2.cell 3; have b_20 : w2.cell? ⟨w.heap.size + 1, 0, none⟩ = some (.int .u8 (ka)) := b_2.cell 0; have b_21 : w2.cell? ⟨w.heap.size + 1, 1, none⟩ = some (.bool (bb)) := b_2.cell 1; have b_22 : w2.cell? ⟨w.heap.size + 1, 2, none⟩ = some (.int .i64 (nb)) := b_2.cell 2; have b_23 : w2.cell? ⟨w.heap.size + 1, 3, none⟩ = some (.string (sb)) := b_2.cell 3; have m3 : True := trivial)
    | (have z := m3; clear z m3; go_at_call 40; refine (rcmp_at _ _ _ _ _ _ _ _ _ HC).mono ?_; rintro e w3 ⟨rfl, x3⟩; have a_3 := (a_2.ext x3).alloc (.cells #[.bool false, .bool true, .bool false, .bool false, .bool true, .bool true] 4); have b_3 := (b_2.ext x3).alloc (.cells #[.bool false, .bool true, .bool false, .bool false, .bool true, .bool true] 4); have z_3 := (z_2.ext x3).alloc (.cells #[.bool false, .bool true, .bool false, .bool false, .bool true, .bool true] 4); have F3 : Ext w (w3.alloc (.cells #[.bool false, .bool true, .bool false, .bool false, .bool true, .bool true] 4)) := (F2.trans x3).alloc _; have l_3 := Bk.new w3 4 #[.bool false, .bool true, .bool false, .bool false, .bool true, .bool true]; clear x3; have m4 : True := trivial)
    | (have z := m4; clear z m4; go_at_call 63; refine (rbool_any _ _).mono ?_; rintro e w4 ⟨rfl, x4⟩; have a_4 := a_3.ext x4; have b_4 := b_3.ext x4; have z_4 := z_3.ext x4; have l_4 := l_3.ext x4; have F4 : Ext w w4 := (F3.trans x4); clear x4; have z_4f0 : w4.frozen? ⟨w.heap.size + 1 + 1, 0, none⟩ = false := z_4.free 0; have z_4f1 : w4.frozen? ⟨w.heap.size + 1 + 1, 1, none⟩ = false := z_4.free 1; have z_4f2 : w4.frozen? ⟨w.heap.size + 1 + 1, 2, none⟩ = false := z_4.free 2; have z_4f3 : w4.frozen? ⟨w.heap.size + 1 + 1, 3, none⟩ = false := z_4.free 3; have z_40 : w4.cell? ⟨w.heap.size + 1 + 1, 0, none⟩ = some (.int .u8 (0)) := z_4.cell 0; have z_41 : w4.cell? ⟨w.heap.size + 1 + 1, 1, none⟩ = some (.bool (false)) := z_4.cell 1; have z_42 : w4.cell? ⟨w.heap.size + 1 + 1, 2, none⟩ = some (.int .i64 (0)) := z_4.cell 2; have z_43 : w4.cell? ⟨w.heap.size + 1 + 1, 3, none⟩ = some (.string (⟨#[]⟩)) := z_4.cell 3; have m5 : True := trivial)
    | fail)
  have q := z_4.set4 (.int .u8 (2)) (.bool (false)) (.int .i64 (0)) (.string (⟨#[]⟩))
  refine bodyPost_ret (v := .tuple #[.agg #[.int .u8 (2), .bool (false), .int .i64 (0), .string (⟨#[]⟩)], .int .i64 (0)]) (by simp [results, Tryd.results48, go_sem, q.1, q.2.1, q.2.2.1, q.2.2.2]) rfl ⟨rfl, Ext.set4 F4 (by first | omega | simp) _ _ _ _⟩
set_option maxRecDepth 100000 in
set_option maxHeartbeats 1000000 in
theorem rcomp_15_lt (ka na kb nb ca cb op : Int) (ba bb : Bool) (sa sb : ByteArray) (w : World) (ga : sa.size ≤ 140737488355328) (gb : sb.size ≤ 140737488355328) (hca : checkT ka ba na sa = 0) (hcb : checkT ka bb nb sb = 0) (l1 : (ka == 1) = false) (hc : cmpD ⟨ka, ba, na, sa⟩ ⟨ka, bb, nb, sb⟩ = -1) :
    Calls Tryd.prog 48 #[.int .u8 15, .agg #[.int .u8 (ka), .bool (ba), .int .i64 (na), .string (sa)], .agg #[.int .u8 (ka), .bool (bb), .int .i64 (nb), .string (sb)]] w (RefOut w (⟨2, false, 0, ⟨#[]⟩⟩, 0)) := by
  have HCA := Lib.hid hca
  clear hca
  have HCB := Lib.hid hcb
  clear hcb
  have HC := Lib.hid hc
  clear hc
  have l3 : (ka != ka) = false := by simp
  have a_0 : Bk (((w.alloc (.cells #[.int .u8 (ka), .bool (ba), .int .i64 (na), .string (sa)] 24)).alloc (.cells #[.int .u8 (ka), .bool (bb), .int .i64 (nb), .string (sb)] 24)).alloc (.cells #[.int .u8 (0), .bool (false), .int .i64 (0), .string (⟨#[]⟩)] 24)) w.heap.size 24 #[.int .u8 (ka), .bool (ba), .int .i64 (na), .string (sa)] := ((Bk.new _ _ _).alloc _).alloc _
  have b_0 : Bk (((w.alloc (.cells #[.int .u8 (ka), .bool (ba), .int .i64 (na), .string (sa)] 24)).alloc (.cells #[.int .u8 (ka), .bool (bb), .int .i64 (nb), .string (sb)] 24)).alloc (.cells #[.int .u8 (0), .bool (false), .int .i64 (0), .string (⟨#[]⟩)] 24)) (w.heap.size + 1) 24 #[.int .u8 (ka), .bool (bb), .int .i64 (nb), .string (sb)] := (Bk.at (by simp)).alloc _
  have z_0 : Bk (((w.alloc (.cells #[.int .u8 (ka), .bool (ba), .int .i64 (na), .string (sa)] 24)).alloc (.cells #[.int .u8 (ka), .bool (bb), .int .i64 (nb), .string (sb)] 24)).alloc (.cells #[.int .u8 (0), .bool (false), .int .i64 (0), .string (⟨#[]⟩)] 24)) (w.heap.size + 1 + 1) 24 #[.int .u8 (0), .bool (false), .int .i64 (0), .string (⟨#[]⟩)] := Bk.at (by simp)
  have F0 : Ext w (((w.alloc (.cells #[.int .u8 (ka), .bool (ba), .int .i64 (na), .string (sa)] 24)).alloc (.cells #[.int .u8 (ka), .bool (bb), .int .i64 (nb), .string (sb)] 24)).alloc (.cells #[.int .u8 (0), .bool (false), .int .i64 (0), .string (⟨#[]⟩)] 24)) := (((Ext.refl w).alloc _).alloc _).alloc _
  have m1 : True := trivial
  go_enter Tryd.func48, Tryd.ntmps48
  go_wp2_with (first
    | (have z := m1; clear z m1; go_at_call 38; refine (rcheck_at _ _ _ _ _ HCA ga).mono ?_; rintro e w1 ⟨rfl, x1⟩; have a_1 := a_0.ext x1; have b_1 := b_0.ext x1; have z_1 := z_0.ext x1; have F1 : Ext w w1 := (F0.trans x1); clear x1; have a_10 : w1.cell? ⟨w.heap.size, 0, none⟩ = some (.int .u8 (ka)) := a_1.cell 0; have a_11 : w1.cell? ⟨w.heap.size, 1, none⟩ = some (.bool (ba)) := a_1.cell 1; have a_12 : w1.cell? ⟨w.heap.size, 2, none⟩ = some (.int .i64 (na)) := a_1.cell 2; have a_13 : w1.cell? ⟨w.heap.size, 3, none⟩ = some (.string (sa)) := a_1.cell 3; have b_10 : w1.cell? ⟨w.heap.size + 1, 0, none⟩ = some (.int .u8 (ka)) := b_1.cell 0; have b_11 : w1.cell? ⟨w.heap.size + 1, 1, none⟩ = some (.bool (bb)) := b_1.cell 1; have b_12 : w1.cell? ⟨w.heap.size + 1, 2, none⟩ = some (.int .i64 (nb)) := b_1.cell 2; have b_13 : w1.cell? ⟨w.heap.size + 1, 3, none⟩ = some (.string (sb)) := b_1.cell 3; have m2 : True := trivial)
    | (have z := m2; clear z m2; go_at_call 38; refine (rcheck_at _ _ _ _ _ HCB gb).mono ?_; rintro e w2 ⟨rfl, x2⟩; have a_2 := a_1.ext x2; have b_2 := b_1.ext x2; have z_2 := z_1.ext x2; have F2 : Ext w w2 := (F1.trans x2); clear x2; have a_20 : w2.cell? ⟨w.heap.size, 0, none⟩ = some (.int .u8 (ka)) := a_2.cell 0; have a_21 : w2.cell? ⟨w.heap.size, 1, none⟩ = some (.bool (ba)) := a_2.cell 1; have a_22 : w2.cell? ⟨w.heap.size, 2, none⟩ = some (.int .i64 (na)) := a_2.cell 2; have a_23 : w2.cell? ⟨w.heap.size, 3, none⟩ = some (.string (sa)) := a_2.cell 3; have b_20 : w2.cell? ⟨w.heap.size + 1, 0, none⟩ = some (.int .u8 (ka)) := b_2.cell 0; have b_21 : w2.cell? ⟨w.heap.size + 1, 1, none⟩ = some (.bool (bb)) := b_2.cell 1; have b_22 : w2.cell? ⟨w.heap.size + 1, 2, none⟩ = some (.int .i64 (nb)) := b_2.cell 2; have b_23 : w2.cell? ⟨w.heap.size + 1, 3, none⟩ = some (.string (sb)) := b_2.cell 3; have m3 : True := trivial)
    | (have z := m3; clear z m3; go_at_call 40; refine (rcmp_at _ _ _ _ _ _ _ _ _ HC).mono ?_; rintro e w3 ⟨rfl, x3⟩; have a_3 := (a_2.ext x3).alloc (.cells #[.bool false, .bool true, .bool true, .bool true, .bool false, .bool false] 4); have b_3 := (b_2.ext x3).alloc (.cells #[.bool false, .bool true, .bool true, .bool true, .bool false, .bool false] 4); have z_3 := (z_2.ext x3).alloc (.cells #[.bool false, .bool true, .bool true, .bool true, .bool false, .bool false] 4); have F3 : Ext w (w3.alloc (.cells #[.bool false, .bool true, .bool true, .bool true, .bool false, .bool false] 4)) := (F2.trans x3).alloc _; have l_3 := Bk.new w3 4 #[.bool false, .bool true, .bool true, .bool true, .bool false, .bool false]; clear x3; have m4 : True := trivial)
    | (have z := m4; clear z m4; go_at_call 63; refine (rbool_any _ _).mono ?_; rintro e w4 ⟨rfl, x4⟩; have a_4 := a_3.ext x4; have b_4 := b_3.ext x4; have z_4 := z_3.ext x4; have l_4 := l_3.ext x4; have F4 : Ext w w4 := (F3.trans x4); clear x4; have z_4f0 : w4.frozen? ⟨w.heap.size + 1 + 1, 0, none⟩ = false := z_4.free 0; have z_4f1 : w4.frozen? ⟨w.heap.size + 1 + 1, 1, none⟩ = false := z_4.free 1; have z_4f2 : w4.frozen? ⟨w.heap.size + 1 + 1, 2, none⟩ = false := z_4.free 2; have z_4f3 : w4.frozen? ⟨w.heap.size + 1 + 1, 3, none⟩ = false := z_4.free 3; have z_40 : w4.cell? ⟨w.heap.size + 1 + 1, 0, none⟩ = some (.int .u8 (0)) := z_4.cell 0; have z_41 : w4.cell? ⟨w.heap.size + 1 + 1, 1, none⟩ = some (.bool (false)) := z_4.cell 1; have z_42 : w4.cell? ⟨w.heap.size + 1 + 1, 2, none⟩ = some (.int .i64 (0)) := z_4.cell 2; have z_43 : w4.cell? ⟨w.heap.size + 1 + 1, 3, none⟩ = some (.string (⟨#[]⟩)) := z_4.cell 3; have m5 : True := trivial)
    | fail)
  have q := z_4.set4 (.int .u8 (2)) (.bool (false)) (.int .i64 (0)) (.string (⟨#[]⟩))
  refine bodyPost_ret (v := .tuple #[.agg #[.int .u8 (2), .bool (false), .int .i64 (0), .string (⟨#[]⟩)], .int .i64 (0)]) (by simp [results, Tryd.results48, go_sem, q.1, q.2.1, q.2.2.1, q.2.2.2]) rfl ⟨rfl, Ext.set4 F4 (by first | omega | simp) _ _ _ _⟩
set_option maxRecDepth 100000 in
set_option maxHeartbeats 1000000 in
theorem rcomp_15_eq (ka na kb nb ca cb op : Int) (ba bb : Bool) (sa sb : ByteArray) (w : World) (ga : sa.size ≤ 140737488355328) (gb : sb.size ≤ 140737488355328) (hca : checkT ka ba na sa = 0) (hcb : checkT ka bb nb sb = 0) (l1 : (ka == 1) = false) (hc : cmpD ⟨ka, ba, na, sa⟩ ⟨ka, bb, nb, sb⟩ = 0) :
    Calls Tryd.prog 48 #[.int .u8 15, .agg #[.int .u8 (ka), .bool (ba), .int .i64 (na), .string (sa)], .agg #[.int .u8 (ka), .bool (bb), .int .i64 (nb), .string (sb)]] w (RefOut w (⟨2, false, 0, ⟨#[]⟩⟩, 0)) := by
  have HCA := Lib.hid hca
  clear hca
  have HCB := Lib.hid hcb
  clear hcb
  have HC := Lib.hid hc
  clear hc
  have l3 : (ka != ka) = false := by simp
  have a_0 : Bk (((w.alloc (.cells #[.int .u8 (ka), .bool (ba), .int .i64 (na), .string (sa)] 24)).alloc (.cells #[.int .u8 (ka), .bool (bb), .int .i64 (nb), .string (sb)] 24)).alloc (.cells #[.int .u8 (0), .bool (false), .int .i64 (0), .string (⟨#[]⟩)] 24)) w.heap.size 24 #[.int .u8 (ka), .bool (ba), .int .i64 (na), .string (sa)] := ((Bk.new _ _ _).alloc _).alloc _
  have b_0 : Bk (((w.alloc (.cells #[.int .u8 (ka), .bool (ba), .int .i64 (na), .string (sa)] 24)).alloc (.cells #[.int .u8 (ka), .bool (bb), .int .i64 (nb), .string (sb)] 24)).alloc (.cells #[.int .u8 (0), .bool (false), .int .i64 (0), .string (⟨#[]⟩)] 24)) (w.heap.size + 1) 24 #[.int .u8 (ka), .bool (bb), .int .i64 (nb), .string (sb)] := (Bk.at (by simp)).alloc _
  have z_0 : Bk (((w.alloc (.cells #[.int .u8 (ka), .bool (ba), .int .i64 (na), .string (sa)] 24)).alloc (.cells #[.int .u8 (ka), .bool (bb), .int .i64 (nb), .string (sb)] 24)).alloc (.cells #[.int .u8 (0), .bool (false), .int .i64 (0), .string (⟨#[]⟩)] 24)) (w.heap.size + 1 + 1) 24 #[.int .u8 (0), .bool (false), .int .i64 (0), .string (⟨#[]⟩)] := Bk.at (by simp)
  have F0 : Ext w (((w.alloc (.cells #[.int .u8 (ka), .bool (ba), .int .i64 (na), .string (sa)] 24)).alloc (.cells #[.int .u8 (ka), .bool (bb), .int .i64 (nb), .string (sb)] 24)).alloc (.cells #[.int .u8 (0), .bool (false), .int .i64 (0), .string (⟨#[]⟩)] 24)) := (((Ext.refl w).alloc _).alloc _).alloc _
  have m1 : True := trivial
  go_enter Tryd.func48, Tryd.ntmps48
  go_wp2_with (first
    | (have z := m1; clear z m1; go_at_call 38; refine (rcheck_at _ _ _ _ _ HCA ga).mono ?_; rintro e w1 ⟨rfl, x1⟩; have a_1 := a_0.ext x1; have b_1 := b_0.ext x1; have z_1 := z_0.ext x1; have F1 : Ext w w1 := (F0.trans x1); clear x1; have a_10 : w1.cell? ⟨w.heap.size, 0, none⟩ = some (.int .u8 (ka)) := a_1.cell 0; have a_11 : w1.cell? ⟨w.heap.size, 1, none⟩ = some (.bool (ba)) := a_1.cell 1; have a_12 : w1.cell? ⟨w.heap.size, 2, none⟩ = some (.int .i64 (na)) := a_1.cell 2; have a_13 : w1.cell? ⟨w.heap.size, 3, none⟩ = some (.string (sa)) := a_1.cell 3; have b_10 : w1.cell? ⟨w.heap.size + 1, 0, none⟩ = some (.int .u8 (ka)) := b_1.cell 0; have b_11 : w1.cell? ⟨w.heap.size + 1, 1, none⟩ = some (.bool (bb)) := b_1.cell 1; have b_12 : w1.cell? ⟨w.heap.size + 1, 2, none⟩ = some (.int .i64 (nb)) := b_1.cell 2; have b_13 : w1.cell? ⟨w.heap.size + 1, 3, none⟩ = some (.string (sb)) := b_1.cell 3; have m2 : True := trivial)
    | (have z := m2; clear z m2; go_at_call 38; refine (rcheck_at _ _ _ _ _ HCB gb).mono ?_; rintro e w2 ⟨rfl, x2⟩; have a_2 := a_1.ext x2; have b_2 := b_1.ext x2; have z_2 := z_1.ext x2; have F2 : Ext w w2 := (F1.trans x2); clear x2; have a_20 : w2.cell? ⟨w.heap.size, 0, none⟩ = some (.int .u8 (ka)) := a_2.cell 0; have a_21 : w2.cell? ⟨w.heap.size, 1, none⟩ = some (.bool (ba)) := a_2.cell 1; have a_22 : w2.cell? ⟨w.heap.size, 2, none⟩ = some (.int .i64 (na)) := a_2.cell 2; have a_23 : w2.cell? ⟨w.heap.size, 3, none⟩ = some (.string (sa)) := a_2.cell 3; have b_20 : w2.cell? ⟨w.heap.size + 1, 0, none⟩ = some (.int .u8 (ka)) := b_2.cell 0; have b_21 : w2.cell? ⟨w.heap.size + 1, 1, none⟩ = some (.bool (bb)) := b_2.cell 1; have b_22 : w2.cell? ⟨w.heap.size + 1, 2, none⟩ = some (.int .i64 (nb)) := b_2.cell 2; have b_23 : w2.cell? ⟨w.heap.size + 1, 3, none⟩ = some (.string (sb)) := b_2.cell 3; have m3 : True := trivial)
    | (have z := m3; clear z m3; go_at_call 40; refine (rcmp_at _ _ _ _ _ _ _ _ _ HC).mono ?_; rintro e w3 ⟨rfl, x3⟩; have a_3 := (a_2.ext x3).alloc (.cells #[.bool true, .bool false, .bool false, .bool true, .bool false, .bool true] 4); have b_3 := (b_2.ext x3).alloc (.cells #[.bool true, .bool false, .bool false, .bool true, .bool false, .bool true] 4); have z_3 := (z_2.ext x3).alloc (.cells #[.bool true, .bool false, .bool false, .bool true, .bool false, .bool true] 4); have F3 : Ext w (w3.alloc (.cells #[.bool true, .bool false, .bool false, .bool true, .bool false, .bool true] 4)) := (F2.trans x3).alloc _; have l_3 := Bk.new w3 4 #[.bool true, .bool false, .bool false, .bool true, .bool false, .bool true]; clear x3; have m4 : True := trivial)
    | (have z := m4; clear z m4; go_at_call 63; refine (rbool_any _ _).mono ?_; rintro e w4 ⟨rfl, x4⟩; have a_4 := a_3.ext x4; have b_4 := b_3.ext x4; have z_4 := z_3.ext x4; have l_4 := l_3.ext x4; have F4 : Ext w w4 := (F3.trans x4); clear x4; have z_4f0 : w4.frozen? ⟨w.heap.size + 1 + 1, 0, none⟩ = false := z_4.free 0; have z_4f1 : w4.frozen? ⟨w.heap.size + 1 + 1, 1, none⟩ = false := z_4.free 1; have z_4f2 : w4.frozen? ⟨w.heap.size + 1 + 1, 2, none⟩ = false := z_4.free 2; have z_4f3 : w4.frozen? ⟨w.heap.size + 1 + 1, 3, none⟩ = false := z_4.free 3; have z_40 : w4.cell? ⟨w.heap.size + 1 + 1, 0, none⟩ = some (.int .u8 (0)) := z_4.cell 0; have z_41 : w4.cell? ⟨w.heap.size + 1 + 1, 1, none⟩ = some (.bool (false)) := z_4.cell 1; have z_42 : w4.cell? ⟨w.heap.size + 1 + 1, 2, none⟩ = some (.int .i64 (0)) := z_4.cell 2; have z_43 : w4.cell? ⟨w.heap.size + 1 + 1, 3, none⟩ = some (.string (⟨#[]⟩)) := z_4.cell 3; have m5 : True := trivial)
    | fail)
  have q := z_4.set4 (.int .u8 (2)) (.bool (false)) (.int .i64 (0)) (.string (⟨#[]⟩))
  refine bodyPost_ret (v := .tuple #[.agg #[.int .u8 (2), .bool (false), .int .i64 (0), .string (⟨#[]⟩)], .int .i64 (0)]) (by simp [results, Tryd.results48, go_sem, q.1, q.2.1, q.2.2.1, q.2.2.2]) rfl ⟨rfl, Ext.set4 F4 (by first | omega | simp) _ _ _ _⟩
set_option maxRecDepth 100000 in
set_option maxHeartbeats 1000000 in
theorem rcomp_15_gt (ka na kb nb ca cb op : Int) (ba bb : Bool) (sa sb : ByteArray) (w : World) (ga : sa.size ≤ 140737488355328) (gb : sb.size ≤ 140737488355328) (hca : checkT ka ba na sa = 0) (hcb : checkT ka bb nb sb = 0) (l1 : (ka == 1) = false) (hc : cmpD ⟨ka, ba, na, sa⟩ ⟨ka, bb, nb, sb⟩ = 1) :
    Calls Tryd.prog 48 #[.int .u8 15, .agg #[.int .u8 (ka), .bool (ba), .int .i64 (na), .string (sa)], .agg #[.int .u8 (ka), .bool (bb), .int .i64 (nb), .string (sb)]] w (RefOut w (⟨2, true, 0, ⟨#[]⟩⟩, 0)) := by
  have HCA := Lib.hid hca
  clear hca
  have HCB := Lib.hid hcb
  clear hcb
  have HC := Lib.hid hc
  clear hc
  have l3 : (ka != ka) = false := by simp
  have a_0 : Bk (((w.alloc (.cells #[.int .u8 (ka), .bool (ba), .int .i64 (na), .string (sa)] 24)).alloc (.cells #[.int .u8 (ka), .bool (bb), .int .i64 (nb), .string (sb)] 24)).alloc (.cells #[.int .u8 (0), .bool (false), .int .i64 (0), .string (⟨#[]⟩)] 24)) w.heap.size 24 #[.int .u8 (ka), .bool (ba), .int .i64 (na), .string (sa)] := ((Bk.new _ _ _).alloc _).alloc _
  have b_0 : Bk (((w.alloc (.cells #[.int .u8 (ka), .bool (ba), .int .i64 (na), .string (sa)] 24)).alloc (.cells #[.int .u8 (ka), .bool (bb), .int .i64 (nb), .string (sb)] 24)).alloc (.cells #[.int .u8 (0), .bool (false), .int .i64 (0), .string (⟨#[]⟩)] 24)) (w.heap.size + 1) 24 #[.int .u8 (ka), .bool (bb), .int .i64 (nb), .string (sb)] := (Bk.at (by simp)).alloc _
  have z_0 : Bk (((w.alloc (.cells #[.int .u8 (ka), .bool (ba), .int .i64 (na), .string (sa)] 24)).alloc (.cells #[.int .u8 (ka), .bool (bb), .int .i64 (nb), .string (sb)] 24)).alloc (.cells #[.int .u8 (0), .bool (false), .int .i64 (0), .string (⟨#[]⟩)] 24)) (w.heap.size + 1 + 1) 24 #[.int .u8 (0), .bool (false), .int .i64 (0), .string (⟨#[]⟩)] := Bk.at (by simp)
  have F0 : Ext w (((w.alloc (.cells #[.int .u8 (ka), .bool (ba), .int .i64 (na), .string (sa)] 24)).alloc (.cells #[.int .u8 (ka), .bool (bb), .int .i64 (nb), .string (sb)] 24)).alloc (.cells #[.int .u8 (0), .bool (false), .int .i64 (0), .string (⟨#[]⟩)] 24)) := (((Ext.refl w).alloc _).alloc _).alloc _
  have m1 : True := trivial
  go_enter Tryd.func48, Tryd.ntmps48
  go_wp2_with (first
    | (have z := m1; clear z m1; go_at_call 38; refine (rcheck_at _ _ _ _ _ HCA ga).mono ?_; rintro e w1 ⟨rfl, x1⟩; have a_1 := a_0.ext x1; have b_1 := b_0.ext x1; have z_1 := z_0.ext x1; have F1 : Ext w w1 := (F0.trans x1); clear x1; have a_10 : w1.cell? ⟨w.heap.size, 0, none⟩ = some (.int .u8 (ka)) := a_1.cell 0; have a_11 : w1.cell? ⟨w.heap.size, 1, none⟩ = some (.bool (ba)) := a_1.cell 1; have a_12 : w1.cell? ⟨w.heap.size, 2, none⟩ = some (.int .i64 (na)) := a_1.cell 2; have a_13 : w1.cell? ⟨w.heap.size, 3, none⟩ = some (.string (sa)) := a_1.cell 3; have b_10 : w1.cell? ⟨w.heap.size + 1, 0, none⟩ = some (.int .u8 (ka)) := b_1.cell 0; have b_11 : w1.cell? ⟨w.heap.size + 1, 1, none⟩ = some (.bool (bb)) := b_1.cell 1; have b_12 : w1.cell? ⟨w.heap.size + 1, 2, none⟩ = some (.int .i64 (nb)) := b_1.cell 2; have b_13 : w1.cell? ⟨w.heap.size + 1, 3, none⟩ = some (.string (sb)) := b_1.cell 3; have m2 : True := trivial)
    | (have z := m2; clear z m2; go_at_call 38; refine (rcheck_at _ _ _ _ _ HCB gb).mono ?_; rintro e w2 ⟨rfl, x2⟩; have a_2 := a_1.ext x2; have b_2 := b_1.ext x2; have z_2 := z_1.ext x2; have F2 : Ext w w2 := (F1.trans x2); clear x2; have a_20 : w2.cell? ⟨w.heap.size, 0, none⟩ = some (.int .u8 (ka)) := a_2.cell 0; have a_21 : w2.cell? ⟨w.heap.size, 1, none⟩ = some (.bool (ba)) := a_2.cell 1; have a_22 : w2.cell? ⟨w.heap.size, 2, none⟩ = some (.int .i64 (na)) := a_2.cell 2; have a_23 : w2.cell? ⟨w.heap.size, 3, none⟩ = some (.string (sa)) := a_2.cell 3; have b_20 : w2.cell? ⟨w.heap.size + 1, 0, none⟩ = some (.int .u8 (ka)) := b_2.cell 0; have b_21 : w2.cell? ⟨w.heap.size + 1, 1, none⟩ = some (.bool (bb)) := b_2.cell 1; have b_22 : w2.cell? ⟨w.heap.size + 1, 2, none⟩ = some (.int .i64 (nb)) := b_2.cell 2; have b_23 : w2.cell? ⟨w.heap.size + 1, 3, none⟩ = some (.string (sb)) := b_2.cell 3; have m3 : True := trivial)
    | (have z := m3; clear z m3; go_at_call 40; refine (rcmp_at _ _ _ _ _ _ _ _ _ HC).mono ?_; rintro e w3 ⟨rfl, x3⟩; have a_3 := (a_2.ext x3).alloc (.cells #[.bool false, .bool true, .bool false, .bool false, .bool true, .bool true] 4); have b_3 := (b_2.ext x3).alloc (.cells #[.bool false, .bool true, .bool false, .bool false, .bool true, .bool true] 4); have z_3 := (z_2.ext x3).alloc (.cells #[.bool false, .bool true, .bool false, .bool false, .bool true, .bool true] 4); have F3 : Ext w (w3.alloc (.cells #[.bool false, .bool true, .bool false, .bool false, .bool true, .bool true] 4)) := (F2.trans x3).alloc _; have l_3 := Bk.new w3 4 #[.bool false, .bool true, .bool false, .bool false, .bool true, .bool true]; clear x3; have m4 : True := trivial)
    | (have z := m4; clear z m4; go_at_call 63; refine (rbool_any _ _).mono ?_; rintro e w4 ⟨rfl, x4⟩; have a_4 := a_3.ext x4; have b_4 := b_3.ext x4; have z_4 := z_3.ext x4; have l_4 := l_3.ext x4; have F4 : Ext w w4 := (F3.trans x4); clear x4; have z_4f0 : w4.frozen? ⟨w.heap.size + 1 + 1, 0, none⟩ = false := z_4.free 0; have z_4f1 : w4.frozen? ⟨w.heap.size + 1 + 1, 1, none⟩ = false := z_4.free 1; have z_4f2 : w4.frozen? ⟨w.heap.size + 1 + 1, 2, none⟩ = false := z_4.free 2; have z_4f3 : w4.frozen? ⟨w.heap.size + 1 + 1, 3, none⟩ = false := z_4.free 3; have z_40 : w4.cell? ⟨w.heap.size + 1 + 1, 0, none⟩ = some (.int .u8 (0)) := z_4.cell 0; have z_41 : w4.cell? ⟨w.heap.size + 1 + 1, 1, none⟩ = some (.bool (false)) := z_4.cell 1; have z_42 : w4.cell? ⟨w.heap.size + 1 + 1, 2, none⟩ = some (.int .i64 (0)) := z_4.cell 2; have z_43 : w4.cell? ⟨w.heap.size + 1 + 1, 3, none⟩ = some (.string (⟨#[]⟩)) := z_4.cell 3; have m5 : True := trivial)
    | fail)
  have q := z_4.set4 (.int .u8 (2)) (.bool (true)) (.int .i64 (0)) (.string (⟨#[]⟩))
  refine bodyPost_ret (v := .tuple #[.agg #[.int .u8 (2), .bool (true), .int .i64 (0), .string (⟨#[]⟩)], .int .i64 (0)]) (by simp [results, Tryd.results48, go_sem, q.1, q.2.1, q.2.2.1, q.2.2.2]) rfl ⟨rfl, Ext.set4 F4 (by first | omega | simp) _ _ _ _⟩
set_option maxRecDepth 100000 in
set_option maxHeartbeats 1000000 in
theorem rcomp_16_lt (ka na kb nb ca cb op : Int) (ba bb : Bool) (sa sb : ByteArray) (w : World) (ga : sa.size ≤ 140737488355328) (gb : sb.size ≤ 140737488355328) (hca : checkT ka ba na sa = 0) (hcb : checkT ka bb nb sb = 0) (l1 : (ka == 1) = false) (hc : cmpD ⟨ka, ba, na, sa⟩ ⟨ka, bb, nb, sb⟩ = -1) :
    Calls Tryd.prog 48 #[.int .u8 16, .agg #[.int .u8 (ka), .bool (ba), .int .i64 (na), .string (sa)], .agg #[.int .u8 (ka), .bool (bb), .int .i64 (nb), .string (sb)]] w (RefOut w (⟨2, false, 0, ⟨#[]⟩⟩, 0)) := by
  have HCA := Lib.hid hca
  clear hca
  have HCB := Lib.hid hcb
  clear hcb
  have HC := Lib.hid hc
  clear hc
  have l3 : (ka != ka) = false := by simp
  have a_0 : Bk (((w.alloc (.cells #[.int .u8 (ka), .bool (ba), .int .i64 (na), .string (sa)] 24)).alloc (.cells #[.int .u8 (ka), .bool (bb), .int .i64 (nb), .string (sb)] 24)).alloc (.cells #[.int .u8 (0), .bool (false), .int .i64 (0), .string (⟨#[]⟩)] 24)) w.heap.size 24 #[.int .u8 (ka), .bool (ba), .int .i64 (na), .string (sa)] := ((Bk.new _ _ _).alloc _).alloc _
  have b_0 : Bk (((w.alloc (.cells #[.int .u8 (ka), .bool (ba), .int .i64 (na), .string (sa)] 24)).alloc (.cells #[.int .u8 (ka), .bool (bb), .int .i64 (nb), .string (sb)] 24)).alloc (.cells #[.int .u8 (0), .bool (false), .int .i64 (0), .string (⟨#[]⟩)] 24)) (w.heap.size + 1) 24 #[.int .u8 (ka), .bool (bb), .int .i64 (nb), .string (sb)] := (Bk.at (by simp)).alloc _
  have z_0 : Bk (((w.alloc (.cells #[.int .u8 (ka), .bool (ba), .int .i64 (na), .string (sa)] 24)).alloc (.cells #[.int .u8 (ka), .bool (bb), .int .i64 (nb), .string (sb)] 24)).alloc (.cells #[.int .u8 (0), .bool (false), .int .i64 (0), .string (⟨#[]⟩)] 24)) (w.heap.size + 1 + 1) 24 #[.int .u8 (0), .bool (false), .int .i64 (0), .string (⟨#[]⟩)] := Bk.at (by simp)
  have F0 : Ext w (((w.alloc (.cells #[.int .u8 (ka), .bool (ba), .int .i64 (na), .string (sa)] 24)).alloc (.cells #[.int .u8 (ka), .bool (bb), .int .i64 (nb), .string (sb)] 24)).alloc (.cells #[.int .u8 (0), .bool (false), .int .i64 (0), .string (⟨#[]⟩)] 24)) := (((Ext.refl w).alloc _).alloc _).alloc _
  have m1 : True := trivial
  go_enter Tryd.func48, Tryd.ntmps48
  go_wp2_with (first
    | (have z := m1; clear z m1; go_at_call 38; refine (rcheck_at _ _ _ _ _ HCA ga).mono ?_; rintro e w1 ⟨rfl, x1⟩; have a_1 := a_0.ext x1; have b_1 := b_0.ext x1; have z_1 := z_0.ext x1; have F1 : Ext w w1 := (F0.trans x1); clear x1; have a_10 : w1.cell? ⟨w.heap.size, 0, none⟩ = some (.int .u8 (ka)) := a_1.cell 0; have a_11 : w1.cell? ⟨w.heap.size, 1, none⟩ = some (.bool (ba)) := a_1.cell 1; have a_12 : w1.cell? ⟨w.heap.size, 2, none⟩ = some (.int .i64 (na)) := a_1.cell 2; have a_13 : w1.cell? ⟨w.heap.size, 3, none⟩ = some (.string (sa)) := a_1.cell 3; have b_10 : w1.cell? ⟨w.heap.size + 1, 0, none⟩ = some (.int .u8 (ka)) := b_1.cell 0; have b_11 : w1.cell? ⟨w.heap.size + 1, 1, none⟩ = some (.bool (bb)) := b_1.cell 1; have b_12 : w1.cell? ⟨w.heap.size + 1, 2, none⟩ = some (.int .i64 (nb)) := b_1.cell 2; have b_13 : w1.cell? ⟨w.heap.size + 1, 3, none⟩ = some (.string (sb)) := b_1.cell 3; have m2 : True := trivial)
    | (have z := m2; clear z m2; go_at_call 38; refine (rcheck_at _ _ _ _ _ HCB gb).mono ?_; rintro e w2 ⟨rfl, x2⟩; have a_2 := a_1.ext x2; have b_2 := b_1.ext x2; have z_2 := z_1.ext x2; have F2 : Ext w w2 := (F1.trans x2); clear x2; have a_20 : w2.cell? ⟨w.heap.size, 0, none⟩ = some (.int .u8 (ka)) := a_2.cell 0; have a_21 : w2.cell? ⟨w.heap.size, 1, none⟩ = some (.bool (ba)) := a_2.cell 1; have a_22 : w2.cell? ⟨w.heap.size, 2, none⟩ = some (.int .i64 (na)) := a_2.cell 2; have a_23 : w2.cell? ⟨w.heap.size, 3, none⟩ = some (.string (sa)) := a_2.cell 3; have b_20 : w2.cell? ⟨w.heap.size + 1, 0, none⟩ = some (.int .u8 (ka)) := b_2.cell 0; have b_21 : w2.cell? ⟨w.heap.size + 1, 1, none⟩ = some (.bool (bb)) := b_2.cell 1; have b_22 : w2.cell? ⟨w.heap.size + 1, 2, none⟩ = some (.int .i64 (nb)) := b_2.cell 2; have b_23 : w2.cell? ⟨w.heap.size + 1, 3, none⟩ = some (.string (sb)) := b_2.cell 3; have m3 : True := trivial)
    | (have z := m3; clear z m3; go_at_call 40; refine (rcmp_at _ _ _ _ _ _ _ _ _ HC).mono ?_; rintro e w3 ⟨rfl, x3⟩; have a_3 := (a_2.ext x3).alloc (.cells #[.bool false, .bool true, .bool true, .bool true, .bool false, .bool false] 4); have b_3 := (b_2.ext x3).alloc (.cells #[.bool false, .bool true, .bool true, .bool true, .bool false, .bool false] 4); have z_3 := (z_2.ext x3).alloc (.cells #[.bool false, .bool true, .bool true, .bool true, .bool false, .bool false] 4); have F3 : Ext w (w3.alloc (.cells #[.bool false, .bool true, .bool true, .bool true, .bool false, .bool false] 4)) := (F2.trans x3).alloc _; have l_3 := Bk.new w3 4 #[.bool false, .bool true, .bool true, .bool true, .bool false, .bool false]; clear x3; have m4 : True := trivial)
    | (have z := m4; clear z m4; go_at_call 63; refine (rbool_any _ _).mono ?_; rintro e w4 ⟨rfl, x4⟩; have a_4 := a_3.ext x4; have b_4 := b_3.ext x4; have z_4 := z_3.ext x4; have l_4 := l_3.ext x4; have F4 : Ext w w4 := (F3.trans x4); clear x4; have z_4f0 : w4.frozen? ⟨w.heap.size + 1 + 1, 0, none⟩ = false := z_4.free 0; have z_4f1 : w4.frozen? ⟨w.heap.size + 1 + 1, 1, none⟩ = false := z_4.free 1; have z_4f2 : w4.frozen? ⟨w.heap.size + 1 + 1, 2, none⟩ = false := z_4.free 2; have z_4f3 : w4.frozen? ⟨w.heap.size + 1 + 1, 3, none⟩ = false := z_4.free 3; have z_40 : w4.cell? ⟨w.heap.size + 1 + 1, 0, none⟩ = some (.int .u8 (0)) := z_4.cell 0; have z_41 : w4.cell? ⟨w.heap.size + 1 + 1, 1, none⟩ = some (.bool (false)) := z_4.cell 1; have z_42 : w4.cell? ⟨w.heap.size + 1 + 1, 2, none⟩ = some (.int .i64 (0)) := z_4.cell 2; have z_43 : w4.cell? ⟨w.heap.size + 1 + 1, 3, none⟩ = some (.string (⟨#[]⟩)) := z_4.cell 3; have m5 : True := trivial)
    | fail)
  have q := z_4.set4 (.int .u8 (2)) (.bool (false)) (.int .i64 (0)) (.string (⟨#[]⟩))
  refine bodyPost_ret (v := .tuple #[.agg #[.int .u8 (2), .bool (false), .int .i64 (0), .string (⟨#[]⟩)], .int .i64 (0)]) (by simp [results, Tryd.results48, go_sem, q.1, q.2.1, q.2.2.1, q.2.2.2]) rfl ⟨rfl, Ext.set4 F4 (by first | omega | simp) _ _ _ _⟩
set_option maxRecDepth 100000 in
set_option maxHeartbeats 1000000 in
theorem rcomp_16_eq (ka na kb nb ca cb op : Int) (ba bb : Bool) (sa sb : ByteArray) (w : World) (ga : sa.size ≤ 140737488355328) (gb : sb.size ≤ 140737488355328) (hca : checkT ka ba na sa = 0) (hcb : checkT ka bb nb sb = 0) (l1 : (ka == 1) = false) (hc : cmpD ⟨ka, ba, na, sa⟩ ⟨ka, bb, nb, sb⟩ = 0) :
    Calls Tryd.prog 48 #[.int .u8 16, .agg #[.int .u8 (ka), .bool (ba), .int .i64 (na), .string (sa)], .agg #[.int .u8 (ka), .bool (bb), .int .i64 (nb), .string (sb)]] w (RefOut w (⟨2, true, 0, ⟨#[]⟩⟩, 0)) := by
  have HCA := Lib.hid hca
  clear hca
  have HCB := Lib.hid hcb
  clear hcb
  have HC := Lib.hid hc
  clear hc
  have l3 : (ka != ka) = false := by simp
  have a_0 : Bk (((w.alloc (.cells #[.int .u8 (ka), .bool (ba), .int .i64 (na), .string (sa)] 24)).alloc (.cells #[.int .u8 (ka), .bool (bb), .int .i64 (nb), .string (sb)] 24)).alloc (.cells #[.int .u8 (0), .bool (false), .int .i64 (0), .string (⟨#[]⟩)] 24)) w.heap.size 24 #[.int .u8 (ka), .bool (ba), .int .i64 (na), .string (sa)] := ((Bk.new _ _ _).alloc _).alloc _
  have b_0 : Bk (((w.alloc (.cells #[.int .u8 (ka), .bool (ba), .int .i64 (na), .string (sa)] 24)).alloc (.cells #[.int .u8 (ka), .bool (bb), .int .i64 (nb), .string (sb)] 24)).alloc (.cells #[.int .u8 (0), .bool (false), .int .i64 (0), .string (⟨#[]⟩)] 24)) (w.heap.size + 1) 24 #[.int .u8 (ka), .bool (bb), .int .i64 (nb), .string (sb)] := (Bk.at (by simp)).alloc _
  have z_0 : Bk (((w.alloc (.cells #[.int .u8 (ka), .bool (ba), .int .i64 (na), .string (sa)] 24)).alloc (.cells #[.int .u8 (ka), .bool (bb), .int .i64 (nb), .string (sb)] 24)).alloc (.cells #[.int .u8 (0), .bool (false), .int .i64 (0), .string (⟨#[]⟩)] 24)) (w.heap.size + 1 + 1) 24 #[.int .u8 (0), .bool (false), .int .i64 (0), .string (⟨#[]⟩)] := Bk.at (by simp)
  have F0 : Ext w (((w.alloc (.cells #[.int .u8 (ka), .bool (ba), .int .i64 (na), .string (sa)] 24)).alloc (.cells #[.int .u8 (ka), .bool (bb), .int .i64 (nb), .string (sb)] 24)).alloc (.cells #[.int .u8 (0), .bool (false), .int .i64 (0), .string (⟨#[]⟩)] 24)) := (((Ext.refl w).alloc _).alloc _).alloc _
  have m1 : True := trivial
  go_enter Tryd.func48, Tryd.ntmps48
  go_wp2_with (first
    | (have z := m1; clear z m1; go_at_call 38; refine (rcheck_at _ _ _ _ _ HCA ga).mono ?_; rintro e w1 ⟨rfl, x1⟩; have a_1 := a_0.ext x1; have b_1 := b_0.ext x1; have z_1 := z_0.ext x1; have F1 : Ext w w1 := (F0.trans x1); clear x1; have a_10 : w1.cell? ⟨w.heap.size, 0, none⟩ = some (.int .u8 (ka)) := a_1.cell 0; have a_11 : w1.cell? ⟨w.heap.size, 1, none⟩ = some (.bool (ba)) := a_1.cell 1; have a_12 : w1.cell? ⟨w.heap.size, 2, none⟩ = some (.int .i64 (na)) := a_1.cell 2; have a_13 : w1.cell? ⟨w.heap.size, 3, none⟩ = some (.string (sa)) := a_1.cell 3; have b_10 : w1.cell? ⟨w.heap.size + 1, 0, none⟩ = some (.int .u8 (ka)) := b_1.cell 0; have b_11 : w1.cell? ⟨w.heap.size + 1, 1, none⟩ = some (.bool (bb)) := b_1.cell 1; have b_12 : w1.cell? ⟨w.heap.size + 1, 2, none⟩ = some (.int .i64 (nb)) := b_1.cell 2; have b_13 : w1.cell? ⟨w.heap.size + 1, 3, none⟩ = some (.string (sb)) := b_1.cell 3; have m2 : True := trivial)
    | (have z := m2; clear z m2; go_at_call 38; refine (rcheck_at _ _ _ _ _ HCB gb).mono ?_; rintro e w2 ⟨rfl, x2⟩; have a_2 := a_1.ext x2; have b_2 := b_1.ext x2; have z_2 := z_1.ext x2; have F2 : Ext w w2 := (F1.trans x2); clear x2; have a_20 : w2.cell? ⟨w.heap.size, 0, none⟩ = some (.int .u8 (ka)) := a_2.cell 0; have a_21 : w2.cell? ⟨w.heap.size, 1, none⟩ = some (.bool (ba)) := a_2.cell 1; have a_22 : w2.cell? ⟨w.heap.size, 2, none⟩ = some (.int .i64 (na)) := a_2.cell 2; have a_23 : w2.cell? ⟨w.heap.size, 3, none⟩ = some (.string (sa)) := a_2.cell 3; have b_20 : w2.cell? ⟨w.heap.size + 1, 0, none⟩ = some (.int .u8 (ka)) := b_2.cell 0; have b_21 : w2.cell? ⟨w.heap.size + 1, 1, none⟩ = some (.bool (bb)) := b_2.cell 1; have b_22 : w2.cell? ⟨w.heap.size + 1, 2, none⟩ = some (.int .i64 (nb)) := b_2.cell 2; have b_23 : w2.cell? ⟨w.heap.size + 1, 3, none⟩ = some (.string (sb)) := b_2.cell 3; have m3 : True := trivial)
    | (have z := m3; clear z m3; go_at_call 40; refine (rcmp_at _ _ _ _ _ _ _ _ _ HC).mono ?_; rintro e w3 ⟨rfl, x3⟩; have a_3 := (a_2.ext x3).alloc (.cells #[.bool true, .bool false, .bool false, .bool true, .bool false, .bool true] 4); have b_3 := (b_2.ext x3).alloc (.cells #[.bool true, .bool false, .bool false, .bool true, .bool false, .bool true] 4); have z_3 := (z_2.ext x3).alloc (.cells #[.bool true, .bool false, .bool false, .bool true, .bool false, .bool true] 4); have F3 : Ext w (w3.alloc (.cells #[.bool true, .bool false, .bool false, .bool true, .bool false, .bool true] 4)) := (F2.trans x3).alloc _; have l_3 := Bk.new w3 4 #[.bool true, .bool false, .bool false, .bool true, .bool false, .bool true]; clear x3; have m4 : True := trivial)
    | (have z := m4; clear z m4; go_at_call 63; refine (rbool_any _ _).mono ?_; rintro e w4 ⟨rfl, x4⟩; have a_4 := a_3.ext x4; have b_4 := b_3.ext x4; have z_4 := z_3.ext x4; have l_4 := l_3.ext x4; have F4 : Ext w w4 := (F3.trans x4); clear x4; have z_4f0 : w4.frozen? ⟨w.heap.size + 1 + 1, 0, none⟩ = false := z_4.free 0; have z_4f1 : w4.frozen? ⟨w.heap.size + 1 + 1, 1, none⟩ = false := z_4.free 1; have z_4f2 : w4.frozen? ⟨w.heap.size + 1 + 1, 2, none⟩ = false := z_4.free 2; have z_4f3 : w4.frozen? ⟨w.heap.size + 1 + 1, 3, none⟩ = false := z_4.free 3; have z_40 : w4.cell? ⟨w.heap.size + 1 + 1, 0, none⟩ = some (.int .u8 (0)) := z_4.cell 0; have z_41 : w4.cell? ⟨w.heap.size + 1 + 1, 1, none⟩ = some (.bool (false)) := z_4.cell 1; have z_42 : w4.cell? ⟨w.heap.size + 1 + 1, 2, none⟩ = some (.int .i64 (0)) := z_4.cell 2; have z_43 : w4.cell? ⟨w.heap.size + 1 + 1, 3, none⟩ = some (.string (⟨#[]⟩)) := z_4.cell 3; have m5 : True := trivial)
    | fail)
  have q := z_4.set4 (.int .u8 (2)) (.bool (true)) (.int .i64 (0)) (.string (⟨#[]⟩))
  refine bodyPost_ret (v := .tuple #[.agg #[.int .u8 (2), .bool (true), .int .i64 (0), .string (⟨#[]⟩)], .int .i64 (0)]) (by simp [results, Tryd.results48, go_sem, q.1, q.2.1, q.2.2.1, q.2.2.2]) rfl ⟨rfl, Ext.set4 F4 (by first | omega | simp) _ _ _ _⟩
set_option maxRecDepth 100000 in
set_option maxHeartbeats 1000000 in
theorem rcomp_16_gt (ka na kb nb ca cb op : Int) (ba bb : Bool) (sa sb : ByteArray) (w : World) (ga : sa.size ≤ 140737488355328) (gb : sb.size ≤ 140737488355328) (hca : checkT ka ba na sa = 0) (hcb : checkT ka bb nb sb = 0) (l1 : (ka == 1) = false) (hc : cmpD ⟨ka, ba, na, sa⟩ ⟨ka, bb, nb, sb⟩ = 1) :
    Calls Tryd.prog 48 #[.int .u8 16, .agg #[.int .u8 (ka), .bool (ba), .int .i64 (na), .string (sa)], .agg #[.int .u8 (ka), .bool (bb), .int .i64 (nb), .string (sb)]] w (RefOut w (⟨2, true, 0, ⟨#[]⟩⟩, 0)) := by
  have HCA := Lib.hid hca
  clear hca
  have HCB := Lib.hid hcb
  clear hcb
  have HC := Lib.hid hc
  clear hc
  have l3 : (ka != ka) = false := by simp
  have a_0 : Bk (((w.alloc (.cells #[.int .u8 (ka), .bool (ba), .int .i64 (na), .string (sa)] 24)).alloc (.cells #[.int .u8 (ka), .bool (bb), .int .i64 (nb), .string (sb)] 24)).alloc (.cells #[.int .u8 (0), .bool (false), .int .i64 (0), .string (⟨#[]⟩)] 24)) w.heap.size 24 #[.int .u8 (ka), .bool (ba), .int .i64 (na), .string (sa)] := ((Bk.new _ _ _).alloc _).alloc _
  have b_0 : Bk (((w.alloc (.cells #[.int .u8 (ka), .bool (ba), .int .i64 (na), .string (sa)] 24)).alloc (.cells #[.int .u8 (ka), .bool (bb), .int .i64 (nb), .string (sb)] 24)).alloc (.cells #[.int .u8 (0), .bool (false), .int .i64 (0), .string (⟨#[]⟩)] 24)) (w.heap.size + 1) 24 #[.int .u8 (ka), .bool (bb), .int .i64 (nb), .string (sb)] := (Bk.at (by simp)).alloc _
  have z_0 : Bk (((w.alloc (.cells #[.int .u8 (ka), .bool (ba), .int .i64 (na), .string (sa)] 24)).alloc (.cells #[.int .u8 (ka), .bool (bb), .int .i64 (nb), .string (sb)] 24)).alloc (.cells #[.int .u8 (0), .bool (false), .int .i64 (0), .string (⟨#[]⟩)] 24)) (w.heap.size + 1 + 1) 24 #[.int .u8 (0), .bool (false), .int .i64 (0), .string (⟨#[]⟩)] := Bk.at (by simp)
  have F0 : Ext w (((w.alloc (.cells #[.int .u8 (ka), .bool (ba), .int .i64 (na), .string (sa)] 24)).alloc (.cells #[.int .u8 (ka), .bool (bb), .int .i64 (nb), .string (sb)] 24)).alloc (.cells #[.int .u8 (0), .bool (false), .int .i64 (0), .string (⟨#[]⟩)] 24)) := (((Ext.refl w).alloc _).alloc _).alloc _
  have m1 : True := trivial
  go_enter Tryd.func48, Tryd.ntmps48
  go_wp2_with (first
    | (have z := m1; clear z m1; go_at_call 38; refine (rcheck_at _ _ _ _ _ HCA ga).mono ?_; rintro e w1 ⟨rfl, x1⟩; have a_1 := a_0.ext x1; have b_1 := b_0.ext x1; have z_1 := z_0.ext x1; have F1 : Ext w w1 := (F0.trans x1); clear x1; have a_10 : w1.cell? ⟨w.heap.size, 0, none⟩ = some (.int .u8 (ka)) := a_1.cell 0; have a_11 : w1.cell? ⟨w.heap.size, 1, none⟩ = some (.bool (ba)) := a_1.cell 1; have a_12 : w1.cell? ⟨w.heap.size, 2, none⟩ = some (.int .i64 (na)) := a_1.cell 2; have a_13 : w1.cell? ⟨w.heap.size, 3, none⟩ = some (.string (sa)) := a_1.cell 3; have b_10 : w1.cell? ⟨w.heap.size + 1, 0, none⟩ = some (.int .u8 (ka)) := b_1.cell 0; have b_11 : w1.cell? ⟨w.heap.size + 1, 1, none⟩ = some (.bool (bb)) := b_1.cell 1; have b_12 : w1.cell? ⟨w.heap.size + 1, 2, none⟩ = some (.int .i64 (nb)) := b_1.cell 2; have b_13 : w1.cell? ⟨w.heap.size + 1, 3, none⟩ = some (.string (sb)) := b_1.cell 3; have m2 : True := trivial)
    | (have z := m2; clear z m2; go_at_call 38; refine (rcheck_at _ _ _ _ _ HCB gb).mono ?_; rintro e w2 ⟨rfl, x2⟩; have a_2 := a_1.ext x2; have b_2 := b_1.ext x2; have z_2 := z_1.ext x2; have F2 : Ext w w2 := (F1.trans x2); clear x2; have a_20 : w2.cell? ⟨w.heap.size, 0, none⟩ = some (.int .u8 (ka)) := a_2.cell 0; have a_21 : w2.cell? ⟨w.heap.size, 1, none⟩ = some (.bool (ba)) := a_2.cell 1; have a_22 : w2.cell? ⟨w.heap.size, 2, none⟩ = some (.int .i64 (na)) := a_2.cell 2; have a_23 : w2.cell? ⟨w.heap.size, 3, none⟩ = some (.string (sa)) := a_2.cell 3; have b_20 : w2.cell? ⟨w.heap.size + 1, 0, none⟩ = some (.int .u8 (ka)) := b_2.cell 0; have b_21 : w2.cell? ⟨w.heap.size + 1, 1, none⟩ = some (.bool (bb)) := b_2.cell 1; have b_22 : w2.cell? ⟨w.heap.size + 1, 2, none⟩ = some (.int .i64 (nb)) := b_2.cell 2; have b_23 : w2.cell? ⟨w.heap.size + 1, 3, none⟩ = some (.string (sb)) := b_2.cell 3; have m3 : True := trivial)
    | (have z := m3; clear z m3; go_at_call 40; refine (rcmp_at _ _ _ _ _ _ _ _ _ HC).mono ?_; rintro e w3 ⟨rfl, x3⟩; have a_3 := (a_2.ext x3).alloc (.cells #[.bool false, .bool true, .bool false, .bool false, .bool true, .bool true] 4); have b_3 := (b_2.ext x3).alloc (.cells #[.bool false, .bool true, .bool false, .bool false, .bool true, .bool true] 4); have z_3 := (z_2.ext x3).alloc (.cells #[.bool false, .bool true, .bool false, .bool false, .bool true, .bool true] 4); have F3 : Ext w (w3.alloc (.cells #[.bool false, .bool true, .bool false, .bool false, .bool true, .bool true] 4)) := (F2.trans x3).alloc _; have l_3 := Bk.new w3 4 #[.bool false, .bool true, .bool false, .bool false, .bool true, .bool true]; clear x3; have m4 : True := trivial)
    | (have z := m4; clear z m4; go_at_call 63; refine (rbool_any _ _).mono ?_; rintro e w4 ⟨rfl, x4⟩; have a_4 := a_3.ext x4; have b_4 := b_3.ext x4; have z_4 := z_3.ext x4; have l_4 := l_3.ext x4; have F4 : Ext w w4 := (F3.trans x4); clear x4; have z_4f0 : w4.frozen? ⟨w.heap.size + 1 + 1, 0, none⟩ = false := z_4.free 0; have z_4f1 : w4.frozen? ⟨w.heap.size + 1 + 1, 1, none⟩ = false := z_4.free 1; have z_4f2 : w4.frozen? ⟨w.heap.size + 1 + 1, 2, none⟩ = false := z_4.free 2; have z_4f3 : w4.frozen? ⟨w.heap.size + 1 + 1, 3, none⟩ = false := z_4.free 3; have z_40 : w4.cell? ⟨w.heap.size + 1 + 1, 0, none⟩ = some (.int .u8 (0)) := z_4.cell 0; have z_41 : w4.cell? ⟨w.heap.size + 1 + 1, 1, none⟩ = some (.bool (false)) := z_4.cell 1; have z_42 : w4.cell? ⟨w.heap.size + 1 + 1, 2, none⟩ = some (.int .i64 (0)) := z_4.cell 2; have z_43 : w4.cell? ⟨w.heap.size + 1 + 1, 3, none⟩ = some (.string (⟨#[]⟩)) := z_4.cell 3; have m5 : True := trivial)
    | fail)
  have q := z_4.set4 (.int .u8 (2)) (.bool (true)) (.int .i64 (0)) (.string (⟨#[]⟩))
  refine bodyPost_ret (v := .tuple #[.agg #[.int .u8 (2), .bool (true), .int .i64 (0), .string (⟨#[]⟩)], .int .i64 (0)]) (by simp [results, Tryd.results48, go_sem, q.1, q.2.1, q.2.2.1, q.2.2.2]) rfl ⟨rfl, Ext.set4 F4 (by first | omega | simp) _ _ _ _⟩
theorem rcompare_any (op : Int) (a b : Dat) (w : World) (ga : a.s.size ≤ 140737488355328) (gb : b.s.size ≤ 140737488355328) :
    Calls Tryd.prog 48 #[.int .u8 op, .agg #[.int .u8 a.k, .bool a.b, .int .i64 a.n, .string a.s], .agg #[.int .u8 b.k, .bool b.b, .int .i64 b.n, .string b.s]] w (RefOut w (compareR op a b)) := by
  obtain ⟨ka, ba, na, sa⟩ := a
  obtain ⟨kb, bb, nb, sb⟩ := b
  unfold compareR Dat.check
  simp only
  by_cases o1 : ¬ (11 ≤ op)
  · rw [if_neg (by omega)]; exact rcomp_lo ka na kb nb 0 0 op ba bb sa sb w ga gb (by omega)
  replace o1 := Decidable.not_not.mp o1
  by_cases o2 : ¬ (op ≤ 16)
  · rw [if_neg (by omega)]; exact rcomp_hi ka na kb nb 0 0 op ba bb sa sb w ga gb (by omega)
  replace o2 := Decidable.not_not.mp o2
  by_cases hca : ¬ checkT ka ba na sa = 0
  · rw [if_neg (by intro h; exact hca h.2.1)]; exact rcomp_a ka na kb nb _ 0 op ba bb sa sb w ga gb o1 o2 rfl (by simpa using hca)
  replace hca := Decidable.not_not.mp hca
  by_cases hcb : ¬ checkT kb bb nb sb = 0
  · rw [if_neg (by intro h; exact hcb h.2.2)]; exact rcomp_b ka na kb nb 0 _ op ba bb sa sb w ga gb o1 o2 hca rfl (by simpa using hcb)
  replace hcb := Decidable.not_not.mp hcb
  rw [if_pos ⟨⟨o1, o2⟩, hca, hcb⟩]
  by_cases k1 : ka = 1
  · subst k1; rw [if_pos (.inl rfl)]; exact rcomp_n1 0 na kb nb 0 0 op ba bb sa sb w ga gb o1 o2 hca hcb
  by_cases k2 : kb = 1
  · subst k2; rw [if_pos (.inr rfl)]; exact rcomp_n2 ka na 0 nb 0 0 op ba bb sa sb w ga gb o1 o2 hca hcb (by simpa using k1)
  rw [if_neg (by omega)]
  by_cases k3 : ¬ ka = kb
  · rw [if_neg k3]; exact rcomp_ne ka na kb nb 0 0 op ba bb sa sb w ga gb o1 o2 hca hcb (by simpa using k1) (by simpa using k2) (by simpa using k3)
  replace k3 := Decidable.not_not.mp k3
  subst k3
  rw [if_pos rfl]
  have l1 : (ka == 1) = false := by simpa using k1
  have ho : op = 11 ∨ op = 12 ∨ op = 13 ∨ op = 14 ∨ op = 15 ∨ op = 16 := by omega
  rcases cmpD_tri ⟨ka, ba, na, sa⟩ ⟨ka, bb, nb, sb⟩ with hc | hc | hc <;> rw [hc] <;> rcases ho with rfl | rfl | rfl | rfl | rfl | rfl
  · exact rcomp_11_lt ka na ka nb 0 0 11 ba bb sa sb w ga gb hca hcb l1 hc
  · exact rcomp_12_lt ka na ka nb 0 0 12 ba bb sa sb w ga gb hca hcb l1 hc
  · exact rcomp_13_lt ka na ka nb 0 0 13 ba bb sa sb w ga gb hca hcb l1 hc
  · exact rcomp_14_lt ka na ka nb 0 0 14 ba bb sa sb w ga gb hca hcb l1 hc
  · exact rcomp_15_lt ka na ka nb 0 0 15 ba bb sa sb w ga gb hca hcb l1 hc
  · exact rcomp_16_lt ka na ka nb 0 0 16 ba bb sa sb w ga gb hca hcb l1 hc
  · exact rcomp_11_eq ka na ka nb 0 0 11 ba bb sa sb w ga gb hca hcb l1 hc
  · exact rcomp_12_eq ka na ka nb 0 0 12 ba bb sa sb w ga gb hca hcb l1 hc
  · exact rcomp_13_eq ka na ka nb 0 0 13 ba bb sa sb w ga gb hca hcb l1 hc
  · exact rcomp_14_eq ka na ka nb 0 0 14 ba bb sa sb w ga gb hca hcb l1 hc
  · exact rcomp_15_eq ka na ka nb 0 0 15 ba bb sa sb w ga gb hca hcb l1 hc
  · exact rcomp_16_eq ka na ka nb 0 0 16 ba bb sa sb w ga gb hca hcb l1 hc
  · exact rcomp_11_gt ka na ka nb 0 0 11 ba bb sa sb w ga gb hca hcb l1 hc
  · exact rcomp_12_gt ka na ka nb 0 0 12 ba bb sa sb w ga gb hca hcb l1 hc
  · exact rcomp_13_gt ka na ka nb 0 0 13 ba bb sa sb w ga gb hca hcb l1 hc
  · exact rcomp_14_gt ka na ka nb 0 0 14 ba bb sa sb w ga gb hca hcb l1 hc
  · exact rcomp_15_gt ka na ka nb 0 0 15 ba bb sa sb w ga gb hca hcb l1 hc
  · exact rcomp_16_gt ka na ka nb 0 0 16 ba bb sa sb w ga gb hca hcb l1 hc
end Go.Proofs.YtobgfegdfcpgfaaDoor
