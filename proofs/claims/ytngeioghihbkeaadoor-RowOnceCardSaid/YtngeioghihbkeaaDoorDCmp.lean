/- cmp.Compare at kinds, ints and numbers: what they answer. Conditions: none. -/
import Derived.Test.YtngeioghihbkeaaDoorDDat
namespace Go.Proofs.YtngeioghihbkeaaDoor
open Go.RowKit

def cmpT (x y : Int) : Int := if x < y then -1 else if y < x then 1 else 0
theorem cmpT_lt {x y : Int} (h : x < y) : cmpT x y = -1 := by unfold cmpT; rw [if_pos h]
theorem cmpT_gt {x y : Int} (h : y < x) : cmpT x y = 1 := by unfold cmpT; rw [if_neg (by omega), if_pos h]
theorem cmpT_self (x : Int) : cmpT x x = 0 := by unfold cmpT; rw [if_neg (by omega), if_neg (by omega)]

set_option maxRecDepth 100000 in
set_option maxHeartbeats 400000 in
theorem nan_kind (x : Int) (w : World) : Calls Tryd.prog 124 #[.int .u8 x] w fun e w' => e = .returned (.bool false) ∧ w = w' := by
  have h : (x != x) = false := by simp
  go_enter Tryd.func124, Tryd.ntmps124
  go_wp2
  go_ret
  exact ⟨rfl, rfl⟩
set_option maxRecDepth 100000 in
set_option maxHeartbeats 400000 in
theorem compare_kind (x y : Int) (w : World) : Calls Tryd.prog 91 #[.int .u8 x, .int .u8 y] w fun e w' => e = .returned (.int .i64 (cmpT x y)) ∧ w = w' := by
  rcases Int.lt_trichotomy x y with h | h | h
  · rw [cmpT_lt h]
    go_enter Tryd.func91, Tryd.ntmps91
    go_wp2_with (go_at_call 124; refine (nan_kind _ _).mono ?_; rintro e w1 ⟨rfl, rfl⟩)
    go_ret
    exact ⟨rfl, rfl⟩
  · subst h
    rw [cmpT_self]
    go_enter Tryd.func91, Tryd.ntmps91
    go_wp2_with (go_at_call 124; refine (nan_kind _ _).mono ?_; rintro e w1 ⟨rfl, rfl⟩)
    go_ret
    exact ⟨rfl, rfl⟩
  · rw [cmpT_gt h]
    go_enter Tryd.func91, Tryd.ntmps91
    go_wp2_with (go_at_call 124; refine (nan_kind _ _).mono ?_; rintro e w1 ⟨rfl, rfl⟩)
    go_ret
    exact ⟨rfl, rfl⟩

set_option maxRecDepth 100000 in
set_option maxHeartbeats 400000 in
theorem nan_int (x : Int) (w : World) : Calls Tryd.prog 125 #[.int .i64 x] w fun e w' => e = .returned (.bool false) ∧ w = w' := by
  have h : (x != x) = false := by simp
  go_enter Tryd.func125, Tryd.ntmps125
  go_wp2
  go_ret
  exact ⟨rfl, rfl⟩
set_option maxRecDepth 100000 in
set_option maxHeartbeats 400000 in
theorem compare_int (x y : Int) (w : World) : Calls Tryd.prog 93 #[.int .i64 x, .int .i64 y] w fun e w' => e = .returned (.int .i64 (cmpT x y)) ∧ w = w' := by
  rcases Int.lt_trichotomy x y with h | h | h
  · rw [cmpT_lt h]
    go_enter Tryd.func93, Tryd.ntmps93
    go_wp2_with (go_at_call 125; refine (nan_int _ _).mono ?_; rintro e w1 ⟨rfl, rfl⟩)
    go_ret
    exact ⟨rfl, rfl⟩
  · subst h
    rw [cmpT_self]
    go_enter Tryd.func93, Tryd.ntmps93
    go_wp2_with (go_at_call 125; refine (nan_int _ _).mono ?_; rintro e w1 ⟨rfl, rfl⟩)
    go_ret
    exact ⟨rfl, rfl⟩
  · rw [cmpT_gt h]
    go_enter Tryd.func93, Tryd.ntmps93
    go_wp2_with (go_at_call 125; refine (nan_int _ _).mono ?_; rintro e w1 ⟨rfl, rfl⟩)
    go_ret
    exact ⟨rfl, rfl⟩

set_option maxRecDepth 100000 in
set_option maxHeartbeats 400000 in
theorem nan_i64 (x : Int) (w : World) : Calls Tryd.prog 126 #[.int .i64 x] w fun e w' => e = .returned (.bool false) ∧ w = w' := by
  have h : (x != x) = false := by simp
  go_enter Tryd.func126, Tryd.ntmps126
  go_wp2
  go_ret
  exact ⟨rfl, rfl⟩
set_option maxRecDepth 100000 in
set_option maxHeartbeats 400000 in
theorem compare_i64 (x y : Int) (w : World) : Calls Tryd.prog 94 #[.int .i64 x, .int .i64 y] w fun e w' => e = .returned (.int .i64 (cmpT x y)) ∧ w = w' := by
  rcases Int.lt_trichotomy x y with h | h | h
  · rw [cmpT_lt h]
    go_enter Tryd.func94, Tryd.ntmps94
    go_wp2_with (go_at_call 126; refine (nan_i64 _ _).mono ?_; rintro e w1 ⟨rfl, rfl⟩)
    go_ret
    exact ⟨rfl, rfl⟩
  · subst h
    rw [cmpT_self]
    go_enter Tryd.func94, Tryd.ntmps94
    go_wp2_with (go_at_call 126; refine (nan_i64 _ _).mono ?_; rintro e w1 ⟨rfl, rfl⟩)
    go_ret
    exact ⟨rfl, rfl⟩
  · rw [cmpT_gt h]
    go_enter Tryd.func94, Tryd.ntmps94
    go_wp2_with (go_at_call 126; refine (nan_i64 _ _).mono ?_; rintro e w1 ⟨rfl, rfl⟩)
    go_ret
    exact ⟨rfl, rfl⟩

/-! ### texts -/
def cmpS (x y : ByteArray) : Int := if Op.bytesLess x.toList y.toList then -1 else if x.toList == y.toList then 0 else 1
set_option maxRecDepth 100000 in
set_option maxHeartbeats 400000 in
theorem nan_str (x : ByteArray) (w : World) : Calls Tryd.prog 127 #[.string x] w fun e w' => e = .returned (.bool false) ∧ w = w' := by
  go_enter Tryd.func127, Tryd.ntmps127
  go_wp2
  go_ret
  exact ⟨rfl, rfl⟩
set_option maxRecDepth 100000 in
set_option maxHeartbeats 400000 in
theorem compare_str (x y : ByteArray) (w : World) : Calls Tryd.prog 95 #[.string x, .string y] w fun e w' => e = .returned (.int .i64 (cmpS x y)) ∧ w = w' := by
  unfold cmpS
  cases h1 : Op.bytesLess x.toList y.toList
  · cases h2 : (x.toList == y.toList)
    all_goals
      go_enter Tryd.func95, Tryd.ntmps95
      go_wp2_with (go_at_call 127; refine (nan_str _ _).mono ?_; rintro e w1 ⟨rfl, rfl⟩)
      go_ret
      exact ⟨ret_int (by simp), rfl⟩
  · go_enter Tryd.func95, Tryd.ntmps95
    go_wp2_with (go_at_call 127; refine (nan_str _ _).mono ?_; rintro e w1 ⟨rfl, rfl⟩)
    go_ret
    exact ⟨ret_int (by simp), rfl⟩
end Go.Proofs.YtngeioghihbkeaaDoor
