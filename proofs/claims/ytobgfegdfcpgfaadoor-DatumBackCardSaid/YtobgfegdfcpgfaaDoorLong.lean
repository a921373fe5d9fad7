/- penstockref01.long: what it answers. Conditions: a place in the text; a text that lies in memory. -/
import Derived.Test.YtobgfegdfcpgfaaDoorLongLaw
import Derived.Test.YtobgfegdfcpgfaaDoorBase
namespace Go.Proofs.YtobgfegdfcpgfaaDoor
open Go.RowKit

section
variable (s : ByteArray) (k : Nat) (w : World) (hk : k < s.size)
set_option maxRecDepth 100000 in
set_option maxHeartbeats 600000 in
theorem long_one (h : s[k].toNat < 128) : Calls Tryd.prog 99 #[.string s, .int .i64 k] w fun e w' => e = .returned (.int .i64 1) ∧ w = w' := by
  go_enter Tryd.func99, Tryd.ntmps99
  go_wp2
  go_ret
  exact ⟨rfl, rfl⟩
set_option maxRecDepth 100000 in
set_option maxHeartbeats 600000 in
theorem long_bad1 (h : 128 ≤ s[k].toNat) (h' : s[k].toNat < 194) : Calls Tryd.prog 99 #[.string s, .int .i64 k] w fun e w' => e = .returned (.int .i64 0) ∧ w = w' := by
  go_enter Tryd.func99, Tryd.ntmps99
  go_wp2
  go_ret
  exact ⟨rfl, rfl⟩
set_option maxRecDepth 100000 in
set_option maxHeartbeats 600000 in
theorem long_bad2 (h : 245 ≤ s[k].toNat) : Calls Tryd.prog 99 #[.string s, .int .i64 k] w fun e w' => e = .returned (.int .i64 0) ∧ w = w' := by
  go_enter Tryd.func99, Tryd.ntmps99
  go_wp2
  go_ret
  exact ⟨rfl, rfl⟩
set_option maxRecDepth 100000 in
set_option maxHeartbeats 600000 in
theorem long2_short (hs : s.size ≤ 140737488355328) (h : 194 ≤ s[k].toNat) (h' : s[k].toNat < 224) (hl : s.size < k + 2) : Calls Tryd.prog 99 #[.string s, .int .i64 k] w fun e w' => e = .returned (.int .i64 0) ∧ w = w' := by
  go_enter Tryd.func99, Tryd.ntmps99
  go_wp2
  go_ret
  exact ⟨rfl, rfl⟩
set_option maxRecDepth 100000 in
set_option maxHeartbeats 600000 in
theorem long2_lo1 (hs : s.size ≤ 140737488355328) (h : 194 ≤ s[k].toNat) (h' : s[k].toNat < 224) (hl : k + 2 ≤ s.size)  (c : s[k + 1].toNat < 128) : Calls Tryd.prog 99 #[.string s, .int .i64 k] w fun e w' => e = .returned (.int .i64 0) ∧ w = w' := by
  go_enter Tryd.func99, Tryd.ntmps99
  go_wp2
  go_rounds 2
  go_ret
  exact ⟨rfl, rfl⟩
set_option maxRecDepth 100000 in
set_option maxHeartbeats 600000 in
theorem long2_hi1 (hs : s.size ≤ 140737488355328) (h : 194 ≤ s[k].toNat) (h' : s[k].toNat < 224) (hl : k + 2 ≤ s.size)  (c : 192 ≤ s[k + 1].toNat) : Calls Tryd.prog 99 #[.string s, .int .i64 k] w fun e w' => e = .returned (.int .i64 0) ∧ w = w' := by
  go_enter Tryd.func99, Tryd.ntmps99
  go_wp2
  go_rounds 2
  go_ret
  exact ⟨rfl, rfl⟩
set_option maxRecDepth 100000 in
set_option maxHeartbeats 600000 in
theorem long2_ok (hs : s.size ≤ 140737488355328) (h : 194 ≤ s[k].toNat) (h' : s[k].toNat < 224) (hl : k + 2 ≤ s.size) (c1 : 128 ≤ s[k + 1].toNat) (d1 : s[k + 1].toNat < 192) : Calls Tryd.prog 99 #[.string s, .int .i64 k] w fun e w' => e = .returned (.int .i64 2) ∧ w = w' := by
  go_enter Tryd.func99, Tryd.ntmps99
  go_wp2
  go_rounds 2
  go_ret
  exact ⟨rfl, rfl⟩
set_option maxRecDepth 100000 in
set_option maxHeartbeats 600000 in
theorem long3_short (hs : s.size ≤ 140737488355328) (h : 224 ≤ s[k].toNat) (h' : s[k].toNat < 240) (hl : s.size < k + 3) : Calls Tryd.prog 99 #[.string s, .int .i64 k] w fun e w' => e = .returned (.int .i64 0) ∧ w = w' := by
  go_enter Tryd.func99, Tryd.ntmps99
  go_wp2
  go_ret
  exact ⟨rfl, rfl⟩
set_option maxRecDepth 100000 in
set_option maxHeartbeats 600000 in
theorem long3_lo1 (hs : s.size ≤ 140737488355328) (h : 224 ≤ s[k].toNat) (h' : s[k].toNat < 240) (hl : k + 3 ≤ s.size)  (c : s[k + 1].toNat < 128) : Calls Tryd.prog 99 #[.string s, .int .i64 k] w fun e w' => e = .returned (.int .i64 0) ∧ w = w' := by
  go_enter Tryd.func99, Tryd.ntmps99
  go_wp2
  go_rounds 3
  go_ret
  exact ⟨rfl, rfl⟩
set_option maxRecDepth 100000 in
set_option maxHeartbeats 600000 in
theorem long3_hi1 (hs : s.size ≤ 140737488355328) (h : 224 ≤ s[k].toNat) (h' : s[k].toNat < 240) (hl : k + 3 ≤ s.size)  (c : 192 ≤ s[k + 1].toNat) : Calls Tryd.prog 99 #[.string s, .int .i64 k] w fun e w' => e = .returned (.int .i64 0) ∧ w = w' := by
  go_enter Tryd.func99, Tryd.ntmps99
  go_wp2
  go_rounds 3
  go_ret
  exact ⟨rfl, rfl⟩
set_option maxRecDepth 100000 in
set_option maxHeartbeats 600000 in
theorem long3_lo2 (hs : s.size ≤ 140737488355328) (h : 224 ≤ s[k].toNat) (h' : s[k].toNat < 240) (hl : k + 3 ≤ s.size) (c1 : 128 ≤ s[k + 1].toNat) (d1 : s[k + 1].toNat < 192) (c : s[k + 2].toNat < 128) : Calls Tryd.prog 99 #[.string s, .int .i64 k] w fun e w' => e = .returned (.int .i64 0) ∧ w = w' := by
  go_enter Tryd.func99, Tryd.ntmps99
  go_wp2
  go_rounds 3
  go_ret
  exact ⟨rfl, rfl⟩
set_option maxRecDepth 100000 in
set_option maxHeartbeats 600000 in
theorem long3_hi2 (hs : s.size ≤ 140737488355328) (h : 224 ≤ s[k].toNat) (h' : s[k].toNat < 240) (hl : k + 3 ≤ s.size) (c1 : 128 ≤ s[k + 1].toNat) (d1 : s[k + 1].toNat < 192) (c : 192 ≤ s[k + 2].toNat) : Calls Tryd.prog 99 #[.string s, .int .i64 k] w fun e w' => e = .returned (.int .i64 0) ∧ w = w' := by
  go_enter Tryd.func99, Tryd.ntmps99
  go_wp2
  go_rounds 3
  go_ret
  exact ⟨rfl, rfl⟩
set_option maxRecDepth 100000 in
set_option maxHeartbeats 600000 in
theorem long3_small (hs : s.size ≤ 140737488355328) (h : 224 ≤ s[k].toNat) (h' : s[k].toNat < 240) (hl : k + 3 ≤ s.size) (c1 : 128 ≤ s[k + 1].toNat) (d1 : s[k + 1].toNat < 192) (c2 : 128 ≤ s[k + 2].toNat) (d2 : s[k + 2].toNat < 192) (v : 64 * (64 * ((s[k].toNat : Int) - 224) + (s[k + 1].toNat : Int) - 128) + (s[k + 2].toNat : Int) - 128 < 2048) : Calls Tryd.prog 99 #[.string s, .int .i64 k] w fun e w' => e = .returned (.int .i64 0) ∧ w = w' := by
  go_enter Tryd.func99, Tryd.ntmps99
  go_wp2
  go_rounds 3
  go_ret
  exact ⟨rfl, rfl⟩
set_option maxRecDepth 100000 in
set_option maxHeartbeats 600000 in
theorem long3_half (hs : s.size ≤ 140737488355328) (h : 224 ≤ s[k].toNat) (h' : s[k].toNat < 240) (hl : k + 3 ≤ s.size) (c1 : 128 ≤ s[k + 1].toNat) (d1 : s[k + 1].toNat < 192) (c2 : 128 ≤ s[k + 2].toNat) (d2 : s[k + 2].toNat < 192) (v : 55296 ≤ 64 * (64 * ((s[k].toNat : Int) - 224) + (s[k + 1].toNat : Int) - 128) + (s[k + 2].toNat : Int) - 128) (v' : 64 * (64 * ((s[k].toNat : Int) - 224) + (s[k + 1].toNat : Int) - 128) + (s[k + 2].toNat : Int) - 128 < 57344) : Calls Tryd.prog 99 #[.string s, .int .i64 k] w fun e w' => e = .returned (.int .i64 0) ∧ w = w' := by
  go_enter Tryd.func99, Tryd.ntmps99
  go_wp2
  go_rounds 3
  go_ret
  exact ⟨rfl, rfl⟩
set_option maxRecDepth 100000 in
set_option maxHeartbeats 600000 in
theorem long3_ok1 (hs : s.size ≤ 140737488355328) (h : 224 ≤ s[k].toNat) (h' : s[k].toNat < 240) (hl : k + 3 ≤ s.size) (c1 : 128 ≤ s[k + 1].toNat) (d1 : s[k + 1].toNat < 192) (c2 : 128 ≤ s[k + 2].toNat) (d2 : s[k + 2].toNat < 192) (v : 2048 ≤ 64 * (64 * ((s[k].toNat : Int) - 224) + (s[k + 1].toNat : Int) - 128) + (s[k + 2].toNat : Int) - 128) (v' : 64 * (64 * ((s[k].toNat : Int) - 224) + (s[k + 1].toNat : Int) - 128) + (s[k + 2].toNat : Int) - 128 < 55296) : Calls Tryd.prog 99 #[.string s, .int .i64 k] w fun e w' => e = .returned (.int .i64 3) ∧ w = w' := by
  go_enter Tryd.func99, Tryd.ntmps99
  go_wp2
  go_rounds 3
  go_ret
  exact ⟨rfl, rfl⟩
set_option maxRecDepth 100000 in
set_option maxHeartbeats 600000 in
theorem long3_ok2 (hs : s.size ≤ 140737488355328) (h : 224 ≤ s[k].toNat) (h' : s[k].toNat < 240) (hl : k + 3 ≤ s.size) (c1 : 128 ≤ s[k + 1].toNat) (d1 : s[k + 1].toNat < 192) (c2 : 128 ≤ s[k + 2].toNat) (d2 : s[k + 2].toNat < 192) (v : 57344 ≤ 64 * (64 * ((s[k].toNat : Int) - 224) + (s[k + 1].toNat : Int) - 128) + (s[k + 2].toNat : Int) - 128) : Calls Tryd.prog 99 #[.string s, .int .i64 k] w fun e w' => e = .returned (.int .i64 3) ∧ w = w' := by
  go_enter Tryd.func99, Tryd.ntmps99
  go_wp2
  go_rounds 3
  go_ret
  exact ⟨rfl, rfl⟩
set_option maxRecDepth 100000 in
set_option maxHeartbeats 600000 in
theorem long4_short (hs : s.size ≤ 140737488355328) (h : 240 ≤ s[k].toNat) (h' : s[k].toNat < 245) (hl : s.size < k + 4) : Calls Tryd.prog 99 #[.string s, .int .i64 k] w fun e w' => e = .returned (.int .i64 0) ∧ w = w' := by
  go_enter Tryd.func99, Tryd.ntmps99
  go_wp2
  go_ret
  exact ⟨rfl, rfl⟩
set_option maxRecDepth 100000 in
set_option maxHeartbeats 600000 in
theorem long4_lo1 (hs : s.size ≤ 140737488355328) (h : 240 ≤ s[k].toNat) (h' : s[k].toNat < 245) (hl : k + 4 ≤ s.size)  (c : s[k + 1].toNat < 128) : Calls Tryd.prog 99 #[.string s, .int .i64 k] w fun e w' => e = .returned (.int .i64 0) ∧ w = w' := by
  go_enter Tryd.func99, Tryd.ntmps99
  go_wp2
  go_rounds 4
  go_ret
  exact ⟨rfl, rfl⟩
set_option maxRecDepth 100000 in
set_option maxHeartbeats 600000 in
theorem long4_hi1 (hs : s.size ≤ 140737488355328) (h : 240 ≤ s[k].toNat) (h' : s[k].toNat < 245) (hl : k + 4 ≤ s.size)  (c : 192 ≤ s[k + 1].toNat) : Calls Tryd.prog 99 #[.string s, .int .i64 k] w fun e w' => e = .returned (.int .i64 0) ∧ w = w' := by
  go_enter Tryd.func99, Tryd.ntmps99
  go_wp2
  go_rounds 4
  go_ret
  exact ⟨rfl, rfl⟩
set_option maxRecDepth 100000 in
set_option maxHeartbeats 600000 in
theorem long4_lo2 (hs : s.size ≤ 140737488355328) (h : 240 ≤ s[k].toNat) (h' : s[k].toNat < 245) (hl : k + 4 ≤ s.size) (c1 : 128 ≤ s[k + 1].toNat) (d1 : s[k + 1].toNat < 192) (c : s[k + 2].toNat < 128) : Calls Tryd.prog 99 #[.string s, .int .i64 k] w fun e w' => e = .returned (.int .i64 0) ∧ w = w' := by
  go_enter Tryd.func99, Tryd.ntmps99
  go_wp2
  go_rounds 4
  go_ret
  exact ⟨rfl, rfl⟩
set_option maxRecDepth 100000 in
set_option maxHeartbeats 600000 in
theorem long4_hi2 (hs : s.size ≤ 140737488355328) (h : 240 ≤ s[k].toNat) (h' : s[k].toNat < 245) (hl : k + 4 ≤ s.size) (c1 : 128 ≤ s[k + 1].toNat) (d1 : s[k + 1].toNat < 192) (c : 192 ≤ s[k + 2].toNat) : Calls Tryd.prog 99 #[.string s, .int .i64 k] w fun e w' => e = .returned (.int .i64 0) ∧ w = w' := by
  go_enter Tryd.func99, Tryd.ntmps99
  go_wp2
  go_rounds 4
  go_ret
  exact ⟨rfl, rfl⟩
set_option maxRecDepth 100000 in
set_option maxHeartbeats 600000 in
theorem long4_lo3 (hs : s.size ≤ 140737488355328) (h : 240 ≤ s[k].toNat) (h' : s[k].toNat < 245) (hl : k + 4 ≤ s.size) (c1 : 128 ≤ s[k + 1].toNat) (d1 : s[k + 1].toNat < 192) (c2 : 128 ≤ s[k + 2].toNat) (d2 : s[k + 2].toNat < 192) (c : s[k + 3].toNat < 128) : Calls Tryd.prog 99 #[.string s, .int .i64 k] w fun e w' => e = .returned (.int .i64 0) ∧ w = w' := by
  go_enter Tryd.func99, Tryd.ntmps99
  go_wp2
  go_rounds 4
  go_ret
  exact ⟨rfl, rfl⟩
set_option maxRecDepth 100000 in
set_option maxHeartbeats 600000 in
theorem long4_hi3 (hs : s.size ≤ 140737488355328) (h : 240 ≤ s[k].toNat) (h' : s[k].toNat < 245) (hl : k + 4 ≤ s.size) (c1 : 128 ≤ s[k + 1].toNat) (d1 : s[k + 1].toNat < 192) (c2 : 128 ≤ s[k + 2].toNat) (d2 : s[k + 2].toNat < 192) (c : 192 ≤ s[k + 3].toNat) : Calls Tryd.prog 99 #[.string s, .int .i64 k] w fun e w' => e = .returned (.int .i64 0) ∧ w = w' := by
  go_enter Tryd.func99, Tryd.ntmps99
  go_wp2
  go_rounds 4
  go_ret
  exact ⟨rfl, rfl⟩
set_option maxRecDepth 100000 in
set_option maxHeartbeats 600000 in
theorem long4_small (hs : s.size ≤ 140737488355328) (h : 240 ≤ s[k].toNat) (h' : s[k].toNat < 245) (hl : k + 4 ≤ s.size) (c1 : 128 ≤ s[k + 1].toNat) (d1 : s[k + 1].toNat < 192) (c2 : 128 ≤ s[k + 2].toNat) (d2 : s[k + 2].toNat < 192) (c3 : 128 ≤ s[k + 3].toNat) (d3 : s[k + 3].toNat < 192) (v : 64 * (64 * (64 * ((s[k].toNat : Int) - 240) + (s[k + 1].toNat : Int) - 128) + (s[k + 2].toNat : Int) - 128) + (s[k + 3].toNat : Int) - 128 < 65536) : Calls Tryd.prog 99 #[.string s, .int .i64 k] w fun e w' => e = .returned (.int .i64 0) ∧ w = w' := by
  go_enter Tryd.func99, Tryd.ntmps99
  go_wp2
  go_rounds 4
  go_ret
  exact ⟨rfl, rfl⟩
set_option maxRecDepth 100000 in
set_option maxHeartbeats 600000 in
theorem long4_great (hs : s.size ≤ 140737488355328) (h : 240 ≤ s[k].toNat) (h' : s[k].toNat < 245) (hl : k + 4 ≤ s.size) (c1 : 128 ≤ s[k + 1].toNat) (d1 : s[k + 1].toNat < 192) (c2 : 128 ≤ s[k + 2].toNat) (d2 : s[k + 2].toNat < 192) (c3 : 128 ≤ s[k + 3].toNat) (d3 : s[k + 3].toNat < 192) (v : 1114111 < 64 * (64 * (64 * ((s[k].toNat : Int) - 240) + (s[k + 1].toNat : Int) - 128) + (s[k + 2].toNat : Int) - 128) + (s[k + 3].toNat : Int) - 128) : Calls Tryd.prog 99 #[.string s, .int .i64 k] w fun e w' => e = .returned (.int .i64 0) ∧ w = w' := by
  go_enter Tryd.func99, Tryd.ntmps99
  go_wp2
  go_rounds 4
  go_ret
  exact ⟨rfl, rfl⟩
set_option maxRecDepth 100000 in
set_option maxHeartbeats 600000 in
theorem long4_ok (hs : s.size ≤ 140737488355328) (h : 240 ≤ s[k].toNat) (h' : s[k].toNat < 245) (hl : k + 4 ≤ s.size) (c1 : 128 ≤ s[k + 1].toNat) (d1 : s[k + 1].toNat < 192) (c2 : 128 ≤ s[k + 2].toNat) (d2 : s[k + 2].toNat < 192) (c3 : 128 ≤ s[k + 3].toNat) (d3 : s[k + 3].toNat < 192) (v : 65536 ≤ 64 * (64 * (64 * ((s[k].toNat : Int) - 240) + (s[k + 1].toNat : Int) - 128) + (s[k + 2].toNat : Int) - 128) + (s[k + 3].toNat : Int) - 128) (v' : 64 * (64 * (64 * ((s[k].toNat : Int) - 240) + (s[k + 1].toNat : Int) - 128) + (s[k + 2].toNat : Int) - 128) + (s[k + 3].toNat : Int) - 128 ≤ 1114111) : Calls Tryd.prog 99 #[.string s, .int .i64 k] w fun e w' => e = .returned (.int .i64 4) ∧ w = w' := by
  go_enter Tryd.func99, Tryd.ntmps99
  go_wp2
  go_rounds 4
  go_ret
  exact ⟨rfl, rfl⟩
end
theorem at_drop (s : ByteArray) (k i : Nat) (h : k + i < s.size) : (s.data.toList.drop k).getD i 0 = s[k + i] := by
  have h' : k + i < s.data.toList.length := by simpa using h
  rw [List.getD_eq_getElem?_getD, List.getElem?_drop, List.getElem?_eq_getElem h']
  rfl
theorem len_drop (s : ByteArray) (k : Nat) : (s.data.toList.drop k).length = s.size - k := by simp
theorem long_any (s : ByteArray) (k : Nat) (w : World) (hs : s.size ≤ 140737488355328) (hk : k < s.size) :
    Calls Tryd.prog 99 #[.string s, .int .i64 k] w fun e w' => e = .returned (.int .i64 (longL (s.data.toList.drop k) : Nat)) ∧ w = w' := by
  have e0 : (s.data.toList.drop k).getD 0 0 = s[k] := at_drop s k 0 hk
  unfold longL
  rw [e0, len_drop]
  generalize hb1 : (s.data.toList.drop k).getD 1 0 = b1
  generalize hb2 : (s.data.toList.drop k).getD 2 0 = b2
  generalize hb3 : (s.data.toList.drop k).getD 3 0 = b3
  by_cases a1 : s[k].toNat < 128
  · rw [show longT (s.size - k) s[k].toNat b1.toNat b2.toNat b3.toNat = 1 by unfold longT; rw [if_pos a1]]; exact long_one s k w hk a1
  by_cases a2 : s[k].toNat < 194
  · rw [show longT (s.size - k) s[k].toNat b1.toNat b2.toNat b3.toNat = 0 by unfold longT; rw [if_neg a1, if_pos a2]]; exact long_bad1 s k w hk (by omega) a2
  by_cases a3 : s[k].toNat < 224
  · rw [long2 _ _ _ _ _ (by omega) a3]
    by_cases l : k + 2 ≤ s.size
    · rw [at_drop s k 1 (by omega)] at hb1
      subst hb1
      by_cases c1 : s[k + 1].toNat < 128
      · rw [if_pos (by omega)]; exact long2_lo1 s k w hk hs (by omega) a3 l c1
      by_cases d1 : 192 ≤ s[k + 1].toNat
      · rw [if_pos (by omega)]; exact long2_hi1 s k w hk hs (by omega) a3 l d1
      rw [if_neg (by omega)]; exact long2_ok s k w hk hs (by omega) a3 l (by omega) (by omega)
    · rw [if_pos (by omega)]; exact long2_short s k w hk hs (by omega) a3 (by omega)
  by_cases a4 : s[k].toNat < 240
  · rw [long3 _ _ _ _ _ (by omega) a4]
    by_cases l : k + 3 ≤ s.size
    · rw [at_drop s k 1 (by omega)] at hb1
      rw [at_drop s k 2 (by omega)] at hb2
      subst hb1 hb2
      by_cases c1 : s[k + 1].toNat < 128
      · rw [if_pos (by omega)]; exact long3_lo1 s k w hk hs (by omega) a4 l c1
      by_cases d1 : 192 ≤ s[k + 1].toNat
      · rw [if_pos (by omega)]; exact long3_hi1 s k w hk hs (by omega) a4 l d1
      by_cases c2 : s[k + 2].toNat < 128
      · rw [if_pos (by omega)]; exact long3_lo2 s k w hk hs (by omega) a4 l (by omega) (by omega) c2
      by_cases d2 : 192 ≤ s[k + 2].toNat
      · rw [if_pos (by omega)]; exact long3_hi2 s k w hk hs (by omega) a4 l (by omega) (by omega) d2
      rw [if_neg (show ¬ (s.size - k < 3 ∨ s[k + 1].toNat < 128 ∨ 192 ≤ s[k + 1].toNat ∨ s[k + 2].toNat < 128 ∨ 192 ≤ s[k + 2].toNat) by omega)]
      by_cases v1 : 64 * (64 * ((s[k].toNat : Int) - 224) + (s[k + 1].toNat : Int) - 128) + (s[k + 2].toNat : Int) - 128 < 2048
      · rw [if_pos (by omega)]; exact long3_small s k w hk hs (by omega) a4 l (by omega) (by omega) (by omega) (by omega) v1
      by_cases v2 : 64 * (64 * ((s[k].toNat : Int) - 224) + (s[k + 1].toNat : Int) - 128) + (s[k + 2].toNat : Int) - 128 < 55296
      · rw [if_neg (by omega)]; exact long3_ok1 s k w hk hs (by omega) a4 l (by omega) (by omega) (by omega) (by omega) (by omega) v2
      by_cases v3 : 64 * (64 * ((s[k].toNat : Int) - 224) + (s[k + 1].toNat : Int) - 128) + (s[k + 2].toNat : Int) - 128 < 57344
      · rw [if_pos (by omega)]; exact long3_half s k w hk hs (by omega) a4 l (by omega) (by omega) (by omega) (by omega) (by omega) v3
      · rw [if_neg (by omega)]; exact long3_ok2 s k w hk hs (by omega) a4 l (by omega) (by omega) (by omega) (by omega) (by omega)
    · rw [if_pos (by omega)]; exact long3_short s k w hk hs (by omega) a4 (by omega)
  by_cases a5 : s[k].toNat < 245
  · rw [long4 _ _ _ _ _ (by omega) a5]
    by_cases l : k + 4 ≤ s.size
    · rw [at_drop s k 1 (by omega)] at hb1
      rw [at_drop s k 2 (by omega)] at hb2
      rw [at_drop s k 3 (by omega)] at hb3
      subst hb1 hb2 hb3
      by_cases c1 : s[k + 1].toNat < 128
      · rw [if_pos (by omega)]; exact long4_lo1 s k w hk hs (by omega) a5 l c1
      by_cases d1 : 192 ≤ s[k + 1].toNat
      · rw [if_pos (by omega)]; exact long4_hi1 s k w hk hs (by omega) a5 l d1
      by_cases c2 : s[k + 2].toNat < 128
      · rw [if_pos (by omega)]; exact long4_lo2 s k w hk hs (by omega) a5 l (by omega) (by omega) c2
      by_cases d2 : 192 ≤ s[k + 2].toNat
      · rw [if_pos (by omega)]; exact long4_hi2 s k w hk hs (by omega) a5 l (by omega) (by omega) d2
      by_cases c3 : s[k + 3].toNat < 128
      · rw [if_pos (by omega)]; exact long4_lo3 s k w hk hs (by omega) a5 l (by omega) (by omega) (by omega) (by omega) c3
      by_cases d3 : 192 ≤ s[k + 3].toNat
      · rw [if_pos (by omega)]; exact long4_hi3 s k w hk hs (by omega) a5 l (by omega) (by omega) (by omega) (by omega) d3
      rw [if_neg (show ¬ (s.size - k < 4 ∨ s[k + 1].toNat < 128 ∨ 192 ≤ s[k + 1].toNat ∨ s[k + 2].toNat < 128 ∨ 192 ≤ s[k + 2].toNat ∨ s[k + 3].toNat < 128 ∨ 192 ≤ s[k + 3].toNat) by omega)]
      by_cases v1 : 64 * (64 * (64 * ((s[k].toNat : Int) - 240) + (s[k + 1].toNat : Int) - 128) + (s[k + 2].toNat : Int) - 128) + (s[k + 3].toNat : Int) - 128 < 65536
      · rw [if_pos (by omega)]; exact long4_small s k w hk hs (by omega) a5 l (by omega) (by omega) (by omega) (by omega) (by omega) (by omega) v1
      by_cases v2 : 1114111 < 64 * (64 * (64 * ((s[k].toNat : Int) - 240) + (s[k + 1].toNat : Int) - 128) + (s[k + 2].toNat : Int) - 128) + (s[k + 3].toNat : Int) - 128
      · rw [if_pos (by omega)]; exact long4_great s k w hk hs (by omega) a5 l (by omega) (by omega) (by omega) (by omega) (by omega) (by omega) v2
      · rw [if_neg (by omega)]; exact long4_ok s k w hk hs (by omega) a5 l (by omega) (by omega) (by omega) (by omega) (by omega) (by omega) (by omega) (by omega)
    · rw [if_pos (by omega)]; exact long4_short s k w hk hs (by omega) a5 (by omega)
  · rw [show longT (s.size - k) s[k].toNat b1.toNat b2.toNat b3.toNat = 0 by unfold longT; rw [if_neg a1, if_neg a2, if_neg a3, if_neg a4, if_neg a5]]; exact long_bad2 s k w hk (by omega)
end Go.Proofs.YtobgfegdfcpgfaaDoor
