/- datum.Check: what it answers of any datum. Conditions: the library's tables stand. -/
import Derived.Test.YtngeioghihbkeaaDoorGood
import Derived.Lib.IndexBytes
namespace Go.Proofs.YtngeioghihbkeaaDoor
open Go.RowKit

theorem ret_u16 {a b : Int} (h : a = b) : Ending.returned (.int .u16 a) = .returned (.int .u16 b) := by rw [h]
/-- no field is set but the kind's own -/
def formB (k : Int) (b : Bool) (n : Int) (s : ByteArray) : Bool :=
  decide ((k = 1 ∨ k = 2 ∨ k = 3 ∨ k = 4) ∧ (k ≠ 2 → b = false) ∧ (k ≠ 3 → n = 0) ∧ (k ≠ 4 → s = ⟨#[]⟩))
def checkT (k : Int) (b : Bool) (n : Int) (s : ByteArray) : Int :=
  if formB k b n s then (if validB s then (if 1000 < s.size then 12 else 0) else 13) else 13
theorem checkT_off {k n : Int} {b : Bool} {s : ByteArray} (h : ¬ ((k = 1 ∨ k = 2 ∨ k = 3 ∨ k = 4) ∧ (k ≠ 2 → b = false) ∧ (k ≠ 3 → n = 0) ∧ (k ≠ 4 → s = ⟨#[]⟩))) : checkT k b n s = 13 := by
  unfold checkT formB
  rw [if_neg (by rw [decide_eq_true_iff]; exact h)]
theorem checkT_on {k n : Int} {b : Bool} {s : ByteArray} (h : (k = 1 ∨ k = 2 ∨ k = 3 ∨ k = 4) ∧ (k ≠ 2 → b = false) ∧ (k ≠ 3 → n = 0) ∧ (k ≠ 4 → s = ⟨#[]⟩)) : checkT k b n s = if validB s then (if 1000 < s.size then 12 else 0) else 13 := by
  unfold checkT formB
  rw [if_pos (by rw [decide_eq_true_iff]; exact h)]
theorem valid_empty : validB ⟨#[]⟩ = true := rfl
theorem empty_iff {s : ByteArray} : s.toList = [] ↔ s = ⟨#[]⟩ := by
  rw [Lib.toList_data]
  constructor
  · intro h
    obtain ⟨d⟩ := s
    obtain ⟨l⟩ := d
    simp at h
    rw [h]
  · rintro rfl; rfl
theorem valid_none (w : World) (g : Good w) : Calls Tryd.prog 99 #[.string ⟨#[]⟩] w fun e w' => e = .returned (.bool true) ∧ Ext w w' := valid_any ⟨#[]⟩ w (by simp [ByteArray.size]) g

set_option maxRecDepth 100000 in
set_option maxHeartbeats 800000 in
theorem check_bool_n (b : Bool) (n : Int) (s : ByteArray) (hn : ¬ n = 0) (w : World) : Calls Tryd.prog 63 #[.agg #[.int .u8 2, .bool b, .int .i64 n, .string s]] w fun e w' => e = .returned (.int .u16 13) ∧ Ext w w' := by
  go_enter Tryd.func63, Tryd.ntmps63
  go_wp2_with fail
  all_goals go_ret
  all_goals exact ⟨rfl, ((Ext.refl w).alloc _).alloc _⟩
set_option maxRecDepth 100000 in
set_option maxHeartbeats 800000 in
theorem check_bool_s (b : Bool) (s : ByteArray) (hs : ¬ s = ⟨#[]⟩) (w : World) : Calls Tryd.prog 63 #[.agg #[.int .u8 2, .bool b, .int .i64 0, .string s]] w fun e w' => e = .returned (.int .u16 13) ∧ Ext w w' := by
  have hz : ¬ s.toList = [] := fun h => hs (empty_iff.1 h)
  have hz2 : s.toList.isEmpty = false := by simpa using hz
  clear hs
  go_enter Tryd.func63, Tryd.ntmps63
  go_wp2_with fail
  all_goals go_ret
  all_goals exact ⟨rfl, ((Ext.refl w).alloc _).alloc _⟩
set_option maxRecDepth 100000 in
set_option maxHeartbeats 800000 in
theorem check_int_b (n : Int) (s : ByteArray) (w : World) : Calls Tryd.prog 63 #[.agg #[.int .u8 3, .bool true, .int .i64 n, .string s]] w fun e w' => e = .returned (.int .u16 13) ∧ Ext w w' := by
  go_enter Tryd.func63, Tryd.ntmps63
  go_wp2_with fail
  all_goals go_ret
  all_goals exact ⟨rfl, ((Ext.refl w).alloc _).alloc _⟩
set_option maxRecDepth 100000 in
set_option maxHeartbeats 800000 in
theorem check_int_s (n : Int) (s : ByteArray) (hs : ¬ s = ⟨#[]⟩) (w : World) : Calls Tryd.prog 63 #[.agg #[.int .u8 3, .bool false, .int .i64 n, .string s]] w fun e w' => e = .returned (.int .u16 13) ∧ Ext w w' := by
  have hz : ¬ s.toList = [] := fun h => hs (empty_iff.1 h)
  have hz2 : s.toList.isEmpty = false := by simpa using hz
  clear hs
  go_enter Tryd.func63, Tryd.ntmps63
  go_wp2_with fail
  all_goals go_ret
  all_goals exact ⟨rfl, ((Ext.refl w).alloc _).alloc _⟩
set_option maxRecDepth 100000 in
set_option maxHeartbeats 800000 in
theorem check_text_b (n : Int) (s : ByteArray) (w : World) : Calls Tryd.prog 63 #[.agg #[.int .u8 4, .bool true, .int .i64 n, .string s]] w fun e w' => e = .returned (.int .u16 13) ∧ Ext w w' := by
  go_enter Tryd.func63, Tryd.ntmps63
  go_wp2_with fail
  all_goals go_ret
  all_goals exact ⟨rfl, ((Ext.refl w).alloc _).alloc _⟩
set_option maxRecDepth 100000 in
set_option maxHeartbeats 800000 in
theorem check_text_n (n : Int) (s : ByteArray) (hn : ¬ n = 0) (w : World) : Calls Tryd.prog 63 #[.agg #[.int .u8 4, .bool false, .int .i64 n, .string s]] w fun e w' => e = .returned (.int .u16 13) ∧ Ext w w' := by
  go_enter Tryd.func63, Tryd.ntmps63
  go_wp2_with fail
  all_goals go_ret
  all_goals exact ⟨rfl, ((Ext.refl w).alloc _).alloc _⟩
set_option maxRecDepth 100000 in
set_option maxHeartbeats 800000 in
theorem check_null_b (n : Int) (s : ByteArray) (w : World) : Calls Tryd.prog 63 #[.agg #[.int .u8 1, .bool true, .int .i64 n, .string s]] w fun e w' => e = .returned (.int .u16 13) ∧ Ext w w' := by
  go_enter Tryd.func63, Tryd.ntmps63
  go_wp2_with fail
  all_goals go_ret
  all_goals exact ⟨rfl, ((Ext.refl w).alloc _).alloc _⟩
set_option maxRecDepth 100000 in
set_option maxHeartbeats 800000 in
theorem check_null_n (n : Int) (s : ByteArray) (hn : ¬ n = 0) (w : World) : Calls Tryd.prog 63 #[.agg #[.int .u8 1, .bool false, .int .i64 n, .string s]] w fun e w' => e = .returned (.int .u16 13) ∧ Ext w w' := by
  go_enter Tryd.func63, Tryd.ntmps63
  go_wp2_with fail
  all_goals go_ret
  all_goals exact ⟨rfl, ((Ext.refl w).alloc _).alloc _⟩
set_option maxRecDepth 100000 in
set_option maxHeartbeats 800000 in
theorem check_null_s (s : ByteArray) (hs : ¬ s = ⟨#[]⟩) (w : World) : Calls Tryd.prog 63 #[.agg #[.int .u8 1, .bool false, .int .i64 0, .string s]] w fun e w' => e = .returned (.int .u16 13) ∧ Ext w w' := by
  have hz : ¬ s.toList = [] := fun h => hs (empty_iff.1 h)
  have hz2 : s.toList.isEmpty = false := by simpa using hz
  clear hs
  go_enter Tryd.func63, Tryd.ntmps63
  go_wp2_with fail
  all_goals go_ret
  all_goals exact ⟨rfl, ((Ext.refl w).alloc _).alloc _⟩
set_option maxRecDepth 100000 in
set_option maxHeartbeats 800000 in
theorem check_other (k : Int) (b : Bool) (n : Int) (s : ByteArray) (w : World) (h1 : ¬ k = 1) (h2 : ¬ k = 2) (h3 : ¬ k = 3) (h4 : ¬ k = 4) : Calls Tryd.prog 63 #[.agg #[.int .u8 k, .bool b, .int .i64 n, .string s]] w fun e w' => e = .returned (.int .u16 13) ∧ Ext w w' := by
  have q1 : (k == 1) = false := by simpa using h1
  have q2 : (k == 2) = false := by simpa using h2
  have q3 : (k == 3) = false := by simpa using h3
  have q4 : (k == 4) = false := by simpa using h4
  go_enter Tryd.func63, Tryd.ntmps63
  go_wp2_with fail
  all_goals go_ret
  all_goals exact ⟨rfl, ((Ext.refl w).alloc _).alloc _⟩
set_option maxRecDepth 100000 in
set_option maxHeartbeats 800000 in
theorem check_bool_on (b : Bool) (w : World) (g : Good w) : Calls Tryd.prog 63 #[.agg #[.int .u8 2, .bool b, .int .i64 0, .string ⟨#[]⟩]] w fun e w' => e = .returned (.int .u16 0) ∧ Ext w w' := by
  go_enter Tryd.func63, Tryd.ntmps63
  go_wp2_with (refine (valid_none _ (g.ext (((Ext.refl w).alloc _).alloc _))).mono ?_; rintro e w1 ⟨rfl, x1⟩; have b0 := ((Bk.new w 91 #[.int .u8 2, .bool b, .int .i64 0, .string ⟨#[]⟩]).alloc (.cells #[.int .u8 2, .bool false, .int .i64 0, .string ⟨#[]⟩] 91)).ext x1; have b3 : w1.cell? ⟨w.heap.size, 3, none⟩ = some (.string ⟨#[]⟩) := b0.cell 3)
  go_ret
  exact ⟨rfl, (((Ext.refl w).alloc _).alloc _).trans x1⟩
set_option maxRecDepth 100000 in
set_option maxHeartbeats 800000 in
theorem check_int_on (n : Int) (w : World) (g : Good w) : Calls Tryd.prog 63 #[.agg #[.int .u8 3, .bool false, .int .i64 n, .string ⟨#[]⟩]] w fun e w' => e = .returned (.int .u16 0) ∧ Ext w w' := by
  go_enter Tryd.func63, Tryd.ntmps63
  go_wp2_with (refine (valid_none _ (g.ext (((Ext.refl w).alloc _).alloc _))).mono ?_; rintro e w1 ⟨rfl, x1⟩; have b0 := ((Bk.new w 91 #[.int .u8 3, .bool false, .int .i64 n, .string ⟨#[]⟩]).alloc (.cells #[.int .u8 3, .bool false, .int .i64 0, .string ⟨#[]⟩] 91)).ext x1; have b3 : w1.cell? ⟨w.heap.size, 3, none⟩ = some (.string ⟨#[]⟩) := b0.cell 3)
  go_ret
  exact ⟨rfl, (((Ext.refl w).alloc _).alloc _).trans x1⟩
set_option maxRecDepth 100000 in
set_option maxHeartbeats 800000 in
theorem check_null_on (w : World) (g : Good w) : Calls Tryd.prog 63 #[.agg #[.int .u8 1, .bool false, .int .i64 0, .string ⟨#[]⟩]] w fun e w' => e = .returned (.int .u16 0) ∧ Ext w w' := by
  go_enter Tryd.func63, Tryd.ntmps63
  go_wp2_with (refine (valid_none _ (g.ext (((Ext.refl w).alloc _).alloc _))).mono ?_; rintro e w1 ⟨rfl, x1⟩; have b0 := ((Bk.new w 91 #[.int .u8 1, .bool false, .int .i64 0, .string ⟨#[]⟩]).alloc (.cells #[.int .u8 1, .bool false, .int .i64 0, .string ⟨#[]⟩] 91)).ext x1; have b3 : w1.cell? ⟨w.heap.size, 3, none⟩ = some (.string ⟨#[]⟩) := b0.cell 3)
  go_ret
  exact ⟨rfl, (((Ext.refl w).alloc _).alloc _).trans x1⟩
set_option maxRecDepth 100000 in
set_option maxHeartbeats 800000 in
theorem check_text_on (s : ByteArray) (w : World) (hs : s.size ≤ 9223372036854775807) (g : Good w) : Calls Tryd.prog 63 #[.agg #[.int .u8 4, .bool false, .int .i64 0, .string s]] w fun e w' => e = .returned (.int .u16 (if validB s then (if 1000 < s.size then 12 else 0) else 13)) ∧ Ext w w' := by
  obtain ⟨v, hv⟩ : ∃ v, validB s = v := ⟨_, rfl⟩
  have hc := valid_any s
  rw [hv] at hc ⊢
  have HC := Lib.hid hc
  clear hc hv
  cases v
  · go_enter Tryd.func63, Tryd.ntmps63
    go_wp2_with (refine (HC.out _ hs (g.ext (((Ext.refl w).alloc _).alloc _))).mono ?_; rintro e w1 ⟨rfl, x1⟩)
    go_ret
    exact ⟨rfl, (((Ext.refl w).alloc _).alloc _).trans x1⟩
  · by_cases hl : 1000 < s.size
    · go_enter Tryd.func63, Tryd.ntmps63
      go_wp2_with (refine (HC.out _ hs (g.ext (((Ext.refl w).alloc _).alloc _))).mono ?_; rintro e w1 ⟨rfl, x1⟩; have b0 := ((Bk.new w 91 #[.int .u8 4, .bool false, .int .i64 0, .string s]).alloc (.cells #[.int .u8 4, .bool false, .int .i64 0, .string ⟨#[]⟩] 91)).ext x1; have b3 : w1.cell? ⟨w.heap.size, 3, none⟩ = some (.string s) := b0.cell 3)
      go_ret
      exact ⟨ret_u16 (by simp), (((Ext.refl w).alloc _).alloc _).trans x1⟩
    · go_enter Tryd.func63, Tryd.ntmps63
      go_wp2_with (refine (HC.out _ hs (g.ext (((Ext.refl w).alloc _).alloc _))).mono ?_; rintro e w1 ⟨rfl, x1⟩; have b0 := ((Bk.new w 91 #[.int .u8 4, .bool false, .int .i64 0, .string s]).alloc (.cells #[.int .u8 4, .bool false, .int .i64 0, .string ⟨#[]⟩] 91)).ext x1; have b3 : w1.cell? ⟨w.heap.size, 3, none⟩ = some (.string s) := b0.cell 3)
      go_ret
      exact ⟨ret_u16 (by simp), (((Ext.refl w).alloc _).alloc _).trans x1⟩

theorem check_any (k : Int) (b : Bool) (n : Int) (s : ByteArray) (w : World) (hs : s.size ≤ 9223372036854775807) (g : Good w) :
    Calls Tryd.prog 63 #[.agg #[.int .u8 k, .bool b, .int .i64 n, .string s]] w fun e w' => e = .returned (.int .u16 (checkT k b n s)) ∧ Ext w w' := by
  by_cases h2 : k = 2
  · subst h2
    by_cases hn : n = 0
    · subst hn
      by_cases hz : s = ⟨#[]⟩
      · subst hz
        rw [checkT_on (by simp), valid_empty]
        exact check_bool_on b w g
      · rw [checkT_off (by simp [hz])]; exact check_bool_s b s hz w
    · rw [checkT_off (by simp [hn])]; exact check_bool_n b n s hn w
  by_cases h3 : k = 3
  · subst h3
    cases b
    · by_cases hz : s = ⟨#[]⟩
      · subst hz
        rw [checkT_on (by simp), valid_empty]
        exact check_int_on n w g
      · rw [checkT_off (by simp [hz])]; exact check_int_s n s hz w
    · rw [checkT_off (by simp)]; exact check_int_b n s w
  by_cases h4 : k = 4
  · subst h4
    cases b
    · by_cases hn : n = 0
      · subst hn
        rw [checkT_on (by simp)]
        exact check_text_on s w hs g
      · rw [checkT_off (by simp [hn])]; exact check_text_n n s hn w
    · rw [checkT_off (by simp)]; exact check_text_b n s w
  by_cases h1 : k = 1
  · subst h1
    cases b
    · by_cases hn : n = 0
      · subst hn
        by_cases hz : s = ⟨#[]⟩
        · subst hz
          rw [checkT_on (by simp), valid_empty]
          exact check_null_on w g
        · rw [checkT_off (by simp [hz])]; exact check_null_s s hz w
      · rw [checkT_off (by simp [hn])]; exact check_null_n n s hn w
    · rw [checkT_off (by simp)]; exact check_null_b n s w
  · rw [checkT_off (by simp [h1, h2, h3, h4])]
    exact check_other k b n s w h1 h2 h3 h4
end Go.Proofs.YtngeioghihbkeaaDoor
