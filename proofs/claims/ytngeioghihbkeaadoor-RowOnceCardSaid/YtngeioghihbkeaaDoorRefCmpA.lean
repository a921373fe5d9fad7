/- penstockref01.sign, Cmp: they answer what datum's answer. Conditions: none. -/
import Derived.Test.YtngeioghihbkeaaDoorDCmpB
namespace Go.Proofs.YtngeioghihbkeaaDoor
open Go.RowKit

def signI (l s : Bool) : Int := if l then -1 else if s then 0 else 1
set_option maxRecDepth 100000 in
set_option maxHeartbeats 400000 in
theorem sign_any (l s : Bool) (w : World) : Calls Tryd.prog 96 #[.bool l, .bool s] w fun e w' => e = .returned (.int .i64 (signI l s)) ∧ w = w' := by
  cases l <;> cases s
  all_goals
    go_enter Tryd.func96, Tryd.ntmps96
    go_wp2
    go_ret
    exact ⟨rfl, rfl⟩
set_option maxRecDepth 100000 in
set_option maxHeartbeats 800000 in
theorem rcmp_klt (ka na kb nb : Int) (ba bb : Bool) (sa sb : ByteArray) (w : World) (h : ka < kb) : Calls Tryd.prog 55 #[.agg #[.int .u8 (ka), .bool (ba), .int .i64 (na), .string (sa)], .agg #[.int .u8 (kb), .bool (bb), .int .i64 (nb), .string (sb)]] w fun e w' => e = .returned (.int .i64 (-1)) ∧ Ext w w' := by
  have z : (ka != kb) = true := by simp; omega
  go_enter Tryd.func55, Tryd.ntmps55
  go_wp2_with (go_at_call 96; refine (sign_any _ _ _).mono ?_; rintro e w1 ⟨rfl, rfl⟩)
  go_ret
  exact ⟨rfl, ((Ext.refl w).alloc _).alloc _⟩
set_option maxRecDepth 100000 in
set_option maxHeartbeats 800000 in
theorem rcmp_kgt (ka na kb nb : Int) (ba bb : Bool) (sa sb : ByteArray) (w : World) (h : kb < ka) : Calls Tryd.prog 55 #[.agg #[.int .u8 (ka), .bool (ba), .int .i64 (na), .string (sa)], .agg #[.int .u8 (kb), .bool (bb), .int .i64 (nb), .string (sb)]] w fun e w' => e = .returned (.int .i64 (1)) ∧ Ext w w' := by
  have z : (ka != kb) = true := by simp; omega
  have z2 : decide (ka < kb) = false := by simp; omega
  go_enter Tryd.func55, Tryd.ntmps55
  go_wp2_with (go_at_call 96; refine (sign_any _ _ _).mono ?_; rintro e w1 ⟨rfl, rfl⟩)
  go_ret
  exact ⟨rfl, ((Ext.refl w).alloc _).alloc _⟩
set_option maxRecDepth 100000 in
set_option maxHeartbeats 800000 in
theorem rcmp_b_false_false (na nb : Int) (sa sb : ByteArray) (w : World)  : Calls Tryd.prog 55 #[.agg #[.int .u8 (2), .bool (false), .int .i64 (na), .string (sa)], .agg #[.int .u8 (2), .bool (false), .int .i64 (nb), .string (sb)]] w fun e w' => e = .returned (.int .i64 (0)) ∧ Ext w w' := by
  go_enter Tryd.func55, Tryd.ntmps55
  go_wp2_with (go_at_call 96; refine (sign_any _ _ _).mono ?_; rintro e w1 ⟨rfl, rfl⟩)
  go_ret
  exact ⟨rfl, ((Ext.refl w).alloc _).alloc _⟩
set_option maxRecDepth 100000 in
set_option maxHeartbeats 800000 in
theorem rcmp_b_false_true (na nb : Int) (sa sb : ByteArray) (w : World)  : Calls Tryd.prog 55 #[.agg #[.int .u8 (2), .bool (false), .int .i64 (na), .string (sa)], .agg #[.int .u8 (2), .bool (true), .int .i64 (nb), .string (sb)]] w fun e w' => e = .returned (.int .i64 (-1)) ∧ Ext w w' := by
  go_enter Tryd.func55, Tryd.ntmps55
  go_wp2_with (go_at_call 96; refine (sign_any _ _ _).mono ?_; rintro e w1 ⟨rfl, rfl⟩)
  go_ret
  exact ⟨rfl, ((Ext.refl w).alloc _).alloc _⟩
set_option maxRecDepth 100000 in
set_option maxHeartbeats 800000 in
theorem rcmp_b_true_false (na nb : Int) (sa sb : ByteArray) (w : World)  : Calls Tryd.prog 55 #[.agg #[.int .u8 (2), .bool (true), .int .i64 (na), .string (sa)], .agg #[.int .u8 (2), .bool (false), .int .i64 (nb), .string (sb)]] w fun e w' => e = .returned (.int .i64 (1)) ∧ Ext w w' := by
  go_enter Tryd.func55, Tryd.ntmps55
  go_wp2_with (go_at_call 96; refine (sign_any _ _ _).mono ?_; rintro e w1 ⟨rfl, rfl⟩)
  go_ret
  exact ⟨rfl, ((Ext.refl w).alloc _).alloc _⟩
set_option maxRecDepth 100000 in
set_option maxHeartbeats 800000 in
theorem rcmp_b_true_true (na nb : Int) (sa sb : ByteArray) (w : World)  : Calls Tryd.prog 55 #[.agg #[.int .u8 (2), .bool (true), .int .i64 (na), .string (sa)], .agg #[.int .u8 (2), .bool (true), .int .i64 (nb), .string (sb)]] w fun e w' => e = .returned (.int .i64 (0)) ∧ Ext w w' := by
  go_enter Tryd.func55, Tryd.ntmps55
  go_wp2_with (go_at_call 96; refine (sign_any _ _ _).mono ?_; rintro e w1 ⟨rfl, rfl⟩)
  go_ret
  exact ⟨rfl, ((Ext.refl w).alloc _).alloc _⟩
set_option maxRecDepth 100000 in
set_option maxHeartbeats 800000 in
theorem rcmp_nlt (na nb : Int) (ba bb : Bool) (sa sb : ByteArray) (w : World) (h : na < nb) : Calls Tryd.prog 55 #[.agg #[.int .u8 (3), .bool (ba), .int .i64 (na), .string (sa)], .agg #[.int .u8 (3), .bool (bb), .int .i64 (nb), .string (sb)]] w fun e w' => e = .returned (.int .i64 (-1)) ∧ Ext w w' := by
  have z : (na == nb) = false := by simp; omega
  go_enter Tryd.func55, Tryd.ntmps55
  go_wp2_with (go_at_call 96; refine (sign_any _ _ _).mono ?_; rintro e w1 ⟨rfl, rfl⟩)
  go_ret
  exact ⟨rfl, ((Ext.refl w).alloc _).alloc _⟩
set_option maxRecDepth 100000 in
set_option maxHeartbeats 800000 in
theorem rcmp_neq (na : Int) (ba bb : Bool) (sa sb : ByteArray) (w : World)  : Calls Tryd.prog 55 #[.agg #[.int .u8 (3), .bool (ba), .int .i64 (na), .string (sa)], .agg #[.int .u8 (3), .bool (bb), .int .i64 (na), .string (sb)]] w fun e w' => e = .returned (.int .i64 (0)) ∧ Ext w w' := by
  have z2 : decide (na < na) = false := by simp
  go_enter Tryd.func55, Tryd.ntmps55
  go_wp2_with (go_at_call 96; refine (sign_any _ _ _).mono ?_; rintro e w1 ⟨rfl, rfl⟩)
  go_ret
  exact ⟨rfl, ((Ext.refl w).alloc _).alloc _⟩
set_option maxRecDepth 100000 in
set_option maxHeartbeats 800000 in
theorem rcmp_ngt (na nb : Int) (ba bb : Bool) (sa sb : ByteArray) (w : World) (h : nb < na) : Calls Tryd.prog 55 #[.agg #[.int .u8 (3), .bool (ba), .int .i64 (na), .string (sa)], .agg #[.int .u8 (3), .bool (bb), .int .i64 (nb), .string (sb)]] w fun e w' => e = .returned (.int .i64 (1)) ∧ Ext w w' := by
  have z : (na == nb) = false := by simp; omega
  have z2 : decide (na < nb) = false := by simp; omega
  go_enter Tryd.func55, Tryd.ntmps55
  go_wp2_with (go_at_call 96; refine (sign_any _ _ _).mono ?_; rintro e w1 ⟨rfl, rfl⟩)
  go_ret
  exact ⟨rfl, ((Ext.refl w).alloc _).alloc _⟩
set_option maxRecDepth 100000 in
set_option maxHeartbeats 800000 in
theorem rcmp_slt (na nb : Int) (ba bb : Bool) (sa sb : ByteArray) (w : World) (h : Op.bytesLess sa.toList sb.toList = true) : Calls Tryd.prog 55 #[.agg #[.int .u8 (4), .bool (ba), .int .i64 (na), .string (sa)], .agg #[.int .u8 (4), .bool (bb), .int .i64 (nb), .string (sb)]] w fun e w' => e = .returned (.int .i64 (-1)) ∧ Ext w w' := by
  go_enter Tryd.func55, Tryd.ntmps55
  go_wp2_with (go_at_call 96; refine (sign_any _ _ _).mono ?_; rintro e w1 ⟨rfl, rfl⟩)
  go_ret
  exact ⟨rfl, ((Ext.refl w).alloc _).alloc _⟩
set_option maxRecDepth 100000 in
set_option maxHeartbeats 800000 in
theorem rcmp_seq (na nb : Int) (ba bb : Bool) (sa sb : ByteArray) (w : World) (h : Op.bytesLess sa.toList sb.toList = false) (h2 : (sa.toList == sb.toList) = true) : Calls Tryd.prog 55 #[.agg #[.int .u8 (4), .bool (ba), .int .i64 (na), .string (sa)], .agg #[.int .u8 (4), .bool (bb), .int .i64 (nb), .string (sb)]] w fun e w' => e = .returned (.int .i64 (0)) ∧ Ext w w' := by
  go_enter Tryd.func55, Tryd.ntmps55
  go_wp2_with (go_at_call 96; refine (sign_any _ _ _).mono ?_; rintro e w1 ⟨rfl, rfl⟩)
  go_ret
  exact ⟨rfl, ((Ext.refl w).alloc _).alloc _⟩
set_option maxRecDepth 100000 in
set_option maxHeartbeats 800000 in
theorem rcmp_sgt (na nb : Int) (ba bb : Bool) (sa sb : ByteArray) (w : World) (h : Op.bytesLess sa.toList sb.toList = false) (h2 : (sa.toList == sb.toList) = false) : Calls Tryd.prog 55 #[.agg #[.int .u8 (4), .bool (ba), .int .i64 (na), .string (sa)], .agg #[.int .u8 (4), .bool (bb), .int .i64 (nb), .string (sb)]] w fun e w' => e = .returned (.int .i64 (1)) ∧ Ext w w' := by
  go_enter Tryd.func55, Tryd.ntmps55
  go_wp2_with (go_at_call 96; refine (sign_any _ _ _).mono ?_; rintro e w1 ⟨rfl, rfl⟩)
  go_ret
  exact ⟨rfl, ((Ext.refl w).alloc _).alloc _⟩
set_option maxRecDepth 100000 in
set_option maxHeartbeats 800000 in
theorem rcmp_oth (k : Int) (na nb : Int) (ba bb : Bool) (sa sb : ByteArray) (w : World) (h2 : ¬ k = 2) (h3 : ¬ k = 3) (h4 : ¬ k = 4) : Calls Tryd.prog 55 #[.agg #[.int .u8 (k), .bool (ba), .int .i64 (na), .string (sa)], .agg #[.int .u8 (k), .bool (bb), .int .i64 (nb), .string (sb)]] w fun e w' => e = .returned (.int .i64 (0)) ∧ Ext w w' := by
  have z : (k != k) = false := by simp
  have z2 : (k == 2) = false := by simpa using h2
  have z3 : (k == 3) = false := by simpa using h3
  have z4 : (k == 4) = false := by simpa using h4
  go_enter Tryd.func55, Tryd.ntmps55
  go_wp2
  go_ret
  exact ⟨rfl, ((Ext.refl w).alloc _).alloc _⟩
theorem rcmp_any (ka na kb nb : Int) (ba bb : Bool) (sa sb : ByteArray) (w : World) : Calls Tryd.prog 55 #[.agg #[.int .u8 (ka), .bool (ba), .int .i64 (na), .string (sa)], .agg #[.int .u8 (kb), .bool (bb), .int .i64 (nb), .string (sb)]] w fun e w' => e = .returned (.int .i64 (cmpD ⟨ka, ba, na, sa⟩ ⟨kb, bb, nb, sb⟩)) ∧ Ext w w' := by
  unfold cmpD
  simp only
  by_cases h : ka = kb
  · subst h
    rw [if_pos rfl]
    by_cases h2 : ka = 2
    · subst h2
      rw [if_pos rfl]
      cases ba <;> cases bb
      · exact rcmp_b_false_false na nb sa sb w
      · exact rcmp_b_false_true na nb sa sb w
      · exact rcmp_b_true_false na nb sa sb w
      · exact rcmp_b_true_true na nb sa sb w
    rw [if_neg h2]
    by_cases h3 : ka = 3
    · subst h3
      rw [if_pos rfl]
      rcases Int.lt_trichotomy na nb with h | h | h
      · rw [cmpT_lt h]; exact rcmp_nlt na nb ba bb sa sb w h
      · subst h; rw [cmpT_self]; exact rcmp_neq na ba bb sa sb w
      · rw [cmpT_gt h]; exact rcmp_ngt na nb ba bb sa sb w h
    rw [if_neg h3]
    by_cases h4 : ka = 4
    · subst h4
      rw [if_pos rfl]
      unfold cmpS
      cases h1 : Op.bytesLess sa.toList sb.toList
      · cases h2 : (sa.toList == sb.toList)
        · exact rcmp_sgt na nb ba bb sa sb w h1 h2
        · exact rcmp_seq na nb ba bb sa sb w h1 h2
      · exact rcmp_slt na nb ba bb sa sb w h1
    rw [if_neg h4]
    exact rcmp_oth ka na nb ba bb sa sb w h2 h3 h4
  · rw [if_neg h]
    rcases Int.lt_or_gt_of_ne h with h | h
    · rw [cmpT_lt h]; exact rcmp_klt ka na kb nb ba bb sa sb w h
    · rw [cmpT_gt h]; exact rcmp_kgt ka na kb nb ba bb sa sb w h
theorem rcmp_at {c : Int} (ka na kb nb : Int) (ba bb : Bool) (sa sb : ByteArray) (w : World) (h : Hid (cmpD ⟨ka, ba, na, sa⟩ ⟨kb, bb, nb, sb⟩ = c)) : Calls Tryd.prog 55 #[.agg #[.int .u8 (ka), .bool (ba), .int .i64 (na), .string (sa)], .agg #[.int .u8 (kb), .bool (bb), .int .i64 (nb), .string (sb)]] w fun e w' => e = .returned (.int .i64 c) ∧ Ext w w' := h.out ▸ rcmp_any ka na kb nb ba bb sa sb w
theorem rcmpD_lit {v : Int} (ka na kb nb : Int) (ba bb : Bool) (sa sb : ByteArray) (w : World) (h : Hid (cmpD ⟨ka, ba, na, sa⟩ ⟨kb, bb, nb, sb⟩ = v)) :
    Calls Tryd.prog 55 #[.agg #[.int .u8 ka, .bool ba, .int .i64 na, .string sa], .agg #[.int .u8 kb, .bool bb, .int .i64 nb, .string sb]] w fun e w' => e = .returned (.int .i64 v) ∧ Ext w w' := rcmp_at _ _ _ _ _ _ _ _ _ h
end Go.Proofs.YtngeioghihbkeaaDoor
