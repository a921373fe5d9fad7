/- penstockref01.Check: it answers what datum.Check answers. Conditions: a text that lies in memory. -/
import Derived.Test.YtngeioghihbkeaaDoorLongAll
import Derived.Test.YtngeioghihbkeaaDoorCheck
namespace Go.Proofs.YtngeioghihbkeaaDoor
open Go.RowKit

set_option maxRecDepth 100000 in
set_option maxHeartbeats 600000 in
theorem rcheck_lo (k n : Int) (b : Bool) (s : ByteArray) (w : World) (h : k < 1) : Calls Tryd.prog 68 #[.agg #[.int .u8 k, .bool b, .int .i64 n, .string s]] w fun e w' => e = .returned (.int .i64 13) ∧ Ext w w' := by
  go_enter Tryd.func68, Tryd.ntmps68
  go_wp2
  go_ret
  exact ⟨rfl, (Ext.refl w).alloc _⟩
set_option maxRecDepth 100000 in
set_option maxHeartbeats 600000 in
theorem rcheck_hi (k n : Int) (b : Bool) (s : ByteArray) (w : World) (h : 4 < k) : Calls Tryd.prog 68 #[.agg #[.int .u8 k, .bool b, .int .i64 n, .string s]] w fun e w' => e = .returned (.int .i64 13) ∧ Ext w w' := by
  go_enter Tryd.func68, Tryd.ntmps68
  go_wp2
  go_ret
  exact ⟨rfl, (Ext.refl w).alloc _⟩
set_option maxRecDepth 100000 in
set_option maxHeartbeats 600000 in
theorem rcheck_1_b (n : Int) (s : ByteArray) (w : World)  : Calls Tryd.prog 68 #[.agg #[.int .u8 1, .bool true, .int .i64 n, .string s]] w fun e w' => e = .returned (.int .i64 13) ∧ Ext w w' := by
  go_enter Tryd.func68, Tryd.ntmps68
  go_wp2
  go_ret
  exact ⟨rfl, (Ext.refl w).alloc _⟩
set_option maxRecDepth 100000 in
set_option maxHeartbeats 600000 in
theorem rcheck_1_n (n : Int) (s : ByteArray) (w : World) (hn : (n != 0) = true) : Calls Tryd.prog 68 #[.agg #[.int .u8 1, .bool false, .int .i64 n, .string s]] w fun e w' => e = .returned (.int .i64 13) ∧ Ext w w' := by
  go_enter Tryd.func68, Tryd.ntmps68
  go_wp2
  go_ret
  exact ⟨rfl, (Ext.refl w).alloc _⟩
set_option maxRecDepth 100000 in
set_option maxHeartbeats 600000 in
theorem rcheck_1_s (s : ByteArray) (w : World) (hz : ¬ s = ⟨#[]⟩) : Calls Tryd.prog 68 #[.agg #[.int .u8 1, .bool false, .int .i64 0, .string s]] w fun e w' => e = .returned (.int .i64 13) ∧ Ext w w' := by
  have hz2 : ¬ s.toList = [] := fun h => hz (empty_iff.1 h)
  have hz3 : s.toList.isEmpty = false := by simpa using hz2
  clear hz
  go_enter Tryd.func68, Tryd.ntmps68
  go_wp2
  go_ret
  exact ⟨rfl, (Ext.refl w).alloc _⟩
set_option maxRecDepth 100000 in
set_option maxHeartbeats 600000 in
theorem rcheck_1_on  (w : World)  : Calls Tryd.prog 68 #[.agg #[.int .u8 1, .bool false, .int .i64 0, .string ⟨#[]⟩]] w fun e w' => e = .returned (.int .i64 0) ∧ Ext w w' := by
  have HR : Hid (runesT ⟨#[]⟩ = 0) := Lib.hid runes_empty
  go_enter Tryd.func68, Tryd.ntmps68
  go_wp2_with (go_at_call 106; refine (runes_at _ _ HR (by simp [ByteArray.size])).mono ?_; rintro e w1 ⟨rfl, rfl⟩)
  go_ret
  exact ⟨rfl, (Ext.refl w).alloc _⟩
set_option maxRecDepth 100000 in
set_option maxHeartbeats 600000 in
theorem rcheck_2_n (b : Bool) (n : Int) (s : ByteArray) (w : World) (hn : (n != 0) = true) : Calls Tryd.prog 68 #[.agg #[.int .u8 2, .bool b, .int .i64 n, .string s]] w fun e w' => e = .returned (.int .i64 13) ∧ Ext w w' := by
  go_enter Tryd.func68, Tryd.ntmps68
  go_wp2
  go_ret
  exact ⟨rfl, (Ext.refl w).alloc _⟩
set_option maxRecDepth 100000 in
set_option maxHeartbeats 600000 in
theorem rcheck_2_s (b : Bool) (s : ByteArray) (w : World) (hz : ¬ s = ⟨#[]⟩) : Calls Tryd.prog 68 #[.agg #[.int .u8 2, .bool b, .int .i64 0, .string s]] w fun e w' => e = .returned (.int .i64 13) ∧ Ext w w' := by
  have hz2 : ¬ s.toList = [] := fun h => hz (empty_iff.1 h)
  have hz3 : s.toList.isEmpty = false := by simpa using hz2
  clear hz
  go_enter Tryd.func68, Tryd.ntmps68
  go_wp2
  go_ret
  exact ⟨rfl, (Ext.refl w).alloc _⟩
set_option maxRecDepth 100000 in
set_option maxHeartbeats 600000 in
theorem rcheck_2_on (b : Bool)  (w : World)  : Calls Tryd.prog 68 #[.agg #[.int .u8 2, .bool b, .int .i64 0, .string ⟨#[]⟩]] w fun e w' => e = .returned (.int .i64 0) ∧ Ext w w' := by
  have HR : Hid (runesT ⟨#[]⟩ = 0) := Lib.hid runes_empty
  go_enter Tryd.func68, Tryd.ntmps68
  go_wp2_with (go_at_call 106; refine (runes_at _ _ HR (by simp [ByteArray.size])).mono ?_; rintro e w1 ⟨rfl, rfl⟩)
  go_ret
  exact ⟨rfl, (Ext.refl w).alloc _⟩
set_option maxRecDepth 100000 in
set_option maxHeartbeats 600000 in
theorem rcheck_3_b (n : Int) (s : ByteArray) (w : World)  : Calls Tryd.prog 68 #[.agg #[.int .u8 3, .bool true, .int .i64 n, .string s]] w fun e w' => e = .returned (.int .i64 13) ∧ Ext w w' := by
  go_enter Tryd.func68, Tryd.ntmps68
  go_wp2
  go_ret
  exact ⟨rfl, (Ext.refl w).alloc _⟩
set_option maxRecDepth 100000 in
set_option maxHeartbeats 600000 in
theorem rcheck_3_s (n : Int) (s : ByteArray) (w : World) (hz : ¬ s = ⟨#[]⟩) : Calls Tryd.prog 68 #[.agg #[.int .u8 3, .bool false, .int .i64 n, .string s]] w fun e w' => e = .returned (.int .i64 13) ∧ Ext w w' := by
  have hz2 : ¬ s.toList = [] := fun h => hz (empty_iff.1 h)
  have hz3 : s.toList.isEmpty = false := by simpa using hz2
  clear hz
  go_enter Tryd.func68, Tryd.ntmps68
  go_wp2
  go_ret
  exact ⟨rfl, (Ext.refl w).alloc _⟩
set_option maxRecDepth 100000 in
set_option maxHeartbeats 600000 in
theorem rcheck_3_on (n : Int)  (w : World)  : Calls Tryd.prog 68 #[.agg #[.int .u8 3, .bool false, .int .i64 n, .string ⟨#[]⟩]] w fun e w' => e = .returned (.int .i64 0) ∧ Ext w w' := by
  have HR : Hid (runesT ⟨#[]⟩ = 0) := Lib.hid runes_empty
  go_enter Tryd.func68, Tryd.ntmps68
  go_wp2_with (go_at_call 106; refine (runes_at _ _ HR (by simp [ByteArray.size])).mono ?_; rintro e w1 ⟨rfl, rfl⟩)
  go_ret
  exact ⟨rfl, (Ext.refl w).alloc _⟩
set_option maxRecDepth 100000 in
set_option maxHeartbeats 600000 in
theorem rcheck_4_b (n : Int) (s : ByteArray) (w : World)  : Calls Tryd.prog 68 #[.agg #[.int .u8 4, .bool true, .int .i64 n, .string s]] w fun e w' => e = .returned (.int .i64 13) ∧ Ext w w' := by
  go_enter Tryd.func68, Tryd.ntmps68
  go_wp2
  go_ret
  exact ⟨rfl, (Ext.refl w).alloc _⟩
set_option maxRecDepth 100000 in
set_option maxHeartbeats 600000 in
theorem rcheck_4_n (n : Int) (s : ByteArray) (w : World) (hn : (n != 0) = true) : Calls Tryd.prog 68 #[.agg #[.int .u8 4, .bool false, .int .i64 n, .string s]] w fun e w' => e = .returned (.int .i64 13) ∧ Ext w w' := by
  go_enter Tryd.func68, Tryd.ntmps68
  go_wp2
  go_ret
  exact ⟨rfl, (Ext.refl w).alloc _⟩
set_option maxRecDepth 100000 in
set_option maxHeartbeats 600000 in
theorem rcheck_4_bad (r : Int) (s : ByteArray) (w : World) (hr : runesT s = r) (hs : s.size ≤ 140737488355328) (h : r < 0) : Calls Tryd.prog 68 #[.agg #[.int .u8 4, .bool false, .int .i64 0, .string s]] w fun e w' => e = .returned (.int .i64 13) ∧ Ext w w' := by
  have HR := Lib.hid hr
  clear hr
  go_enter Tryd.func68, Tryd.ntmps68
  go_wp2_with (go_at_call 106; refine (runes_at _ _ HR hs).mono ?_; rintro e w1 ⟨rfl, rfl⟩)
  go_ret
  exact ⟨rfl, (Ext.refl w).alloc _⟩
set_option maxRecDepth 100000 in
set_option maxHeartbeats 600000 in
theorem rcheck_4_long (r : Int) (s : ByteArray) (w : World) (hr : runesT s = r) (hs : s.size ≤ 140737488355328) (h : 0 ≤ r) (hl : 1000 < s.size) : Calls Tryd.prog 68 #[.agg #[.int .u8 4, .bool false, .int .i64 0, .string s]] w fun e w' => e = .returned (.int .i64 12) ∧ Ext w w' := by
  have HR := Lib.hid hr
  clear hr
  go_enter Tryd.func68, Tryd.ntmps68
  go_wp2_with (go_at_call 106; refine (runes_at _ _ HR hs).mono ?_; rintro e w1 ⟨rfl, rfl⟩)
  go_ret
  exact ⟨rfl, (Ext.refl w).alloc _⟩
set_option maxRecDepth 100000 in
set_option maxHeartbeats 600000 in
theorem rcheck_4_on (r : Int) (s : ByteArray) (w : World) (hr : runesT s = r) (hs : s.size ≤ 140737488355328) (h : 0 ≤ r) (hl : s.size ≤ 1000) : Calls Tryd.prog 68 #[.agg #[.int .u8 4, .bool false, .int .i64 0, .string s]] w fun e w' => e = .returned (.int .i64 0) ∧ Ext w w' := by
  have HR := Lib.hid hr
  clear hr
  go_enter Tryd.func68, Tryd.ntmps68
  go_wp2_with (go_at_call 106; refine (runes_at _ _ HR hs).mono ?_; rintro e w1 ⟨rfl, rfl⟩)
  go_ret
  exact ⟨rfl, (Ext.refl w).alloc _⟩
theorem rcheck_any (k : Int) (b : Bool) (n : Int) (s : ByteArray) (w : World) (hs : s.size ≤ 140737488355328) :
    Calls Tryd.prog 68 #[.agg #[.int .u8 k, .bool b, .int .i64 n, .string s]] w fun e w' => e = .returned (.int .i64 (checkT k b n s)) ∧ Ext w w' := by
  by_cases h2 : k = 2
  · subst h2
    by_cases hn : n = 0
    · subst hn
      by_cases hz : s = ⟨#[]⟩
      · subst hz
        rw [checkT_on (by simp), valid_empty]
        exact rcheck_2_on b w
      · rw [checkT_off (by simp [hz])]; exact rcheck_2_s b s w hz
    · rw [checkT_off (by simp [hn])]; exact rcheck_2_n b n s w (by simpa using hn)
  by_cases h3 : k = 3
  · subst h3
    cases b
    · by_cases hz : s = ⟨#[]⟩
      · subst hz
        rw [checkT_on (by simp), valid_empty]
        exact rcheck_3_on n w
      · rw [checkT_off (by simp [hz])]; exact rcheck_3_s n s w hz
    · rw [checkT_off (by simp)]; exact rcheck_3_b n s w
  by_cases h4 : k = 4
  · subst h4
    cases b
    · by_cases hn : n = 0
      · subst hn
        rw [checkT_on (by simp)]
        by_cases hr : runesT s < 0
        · rw [(runesT_neg s).1 hr]; exact rcheck_4_bad _ s w rfl hs hr
        · have hv : validB s = true := by
            cases hv : validB s
            · exact absurd ((runesT_neg s).2 hv) hr
            · rfl
          rw [hv, if_pos rfl]
          by_cases hl : 1000 < s.size
          · rw [if_pos hl]; exact rcheck_4_long _ s w rfl hs (by omega) hl
          · rw [if_neg hl]; exact rcheck_4_on _ s w rfl hs (by omega) (by omega)
      · rw [checkT_off (by simp [hn])]; exact rcheck_4_n n s w (by simpa using hn)
    · rw [checkT_off (by simp)]; exact rcheck_4_b n s w
  by_cases h1 : k = 1
  · subst h1
    cases b
    · by_cases hn : n = 0
      · subst hn
        by_cases hz : s = ⟨#[]⟩
        · subst hz
          rw [checkT_on (by simp), valid_empty]
          exact rcheck_1_on w
        · rw [checkT_off (by simp [hz])]; exact rcheck_1_s s w hz
      · rw [checkT_off (by simp [hn])]; exact rcheck_1_n n s w (by simpa using hn)
    · rw [checkT_off (by simp)]; exact rcheck_1_b n s w
  · rw [checkT_off (by simp [h1, h2, h3, h4])]
    rcases Int.lt_or_le k 1 with h | h
    · exact rcheck_lo k n b s w h
    · exact rcheck_hi k n b s w (by omega)
theorem rcheck_at {c : Int} (k : Int) (b : Bool) (n : Int) (s : ByteArray) (w : World) (h : Hid (checkT k b n s = c)) (hs : s.size ≤ 140737488355328) :
    Calls Tryd.prog 68 #[.agg #[.int .u8 k, .bool b, .int .i64 n, .string s]] w fun e w' => e = .returned (.int .i64 c) ∧ Ext w w' := h.out ▸ rcheck_any k b n s w hs
end Go.Proofs.YtngeioghihbkeaaDoor
