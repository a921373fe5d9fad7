/- penstockref01.Runes: what it answers. Conditions: a text that lies in memory. -/
import Derived.Test.YtobgfegdfcpgfaaDoorLong
namespace Go.Proofs.YtobgfegdfcpgfaaDoor
open Go.RowKit

theorem map_map_add (o : Option Nat) (n : Nat) : (o.map (· + 1)).map (· + n) = o.map (· + (n + 1)) := by
  cases o with
  | none => rfl
  | some m => simp; omega
theorem drop_ne {s : ByteArray} {k : Nat} (h : k < s.size) : s.data.toList.drop k ≠ [] := by
  intro e
  have := congrArg List.length e
  rw [len_drop] at this
  simp at this
  omega
theorem runesT_none {s : ByteArray} (h : runesO s.data.toList = none) : runesT s = -1 := by unfold runesT; rw [h]
theorem runesT_some {s : ByteArray} {n : Nat} (h : runesO s.data.toList = some n) : runesT s = n := by unfold runesT; rw [h]

set_option maxRecDepth 100000 in
set_option maxHeartbeats 800000 in
theorem runes_any (s : ByteArray) (w : World) (hs : s.size ≤ 140737488355328) : Calls Tryd.prog 73 #[.string s] w fun e w' => e = .returned (.int .i64 (runesT s)) ∧ w = w' := by
  go_enter Tryd.func73, Tryd.ntmps73
  go_wp2
  go_loop [3, 4] (fun u v => ∃ k n : Nat, k ≤ s.size ∧ n ≤ k ∧ u = .int .i64 n ∧ v = .int .i64 k ∧ Hid (runesO s.data.toList = (runesO (s.data.toList.drop k)).map (· + n))) (fun _ v => s.size - (intOf v).toNat)
  case atStart => exact ⟨0, 0, Nat.zero_le _, Nat.le_refl _, rfl, rfl, Lib.hid (by simp)⟩
  case round =>
    obtain ⟨k, n, hk, hn, rfl, rfl, hr⟩ := hrel
    by_cases hlt : k < s.size
    · obtain ⟨q, hq⟩ : ∃ q, longL (s.data.toList.drop k) = q := ⟨_, rfl⟩
      have hle := longL_le (s.data.toList.drop k) (drop_ne hlt)
      rw [hq, len_drop] at hle
      have hL := long_any s k w hs hlt
      rw [hq] at hL
      have HL := Lib.hid hL
      clear hL
      by_cases h0 : q = 0
      · subst h0
        have hT : runesT s = -1 := runesT_none (by rw [hr.out, runesO_bad (drop_ne hlt) hq]; rfl)
        have HT := Lib.hid hT
        clear hT hq hle hr
        go_wp2_with (go_at_call 99; refine HL.out.mono ?_; rintro e w' ⟨rfl, rfl⟩)
        go_ret
        exact ⟨ret_int HT.out.symm, rfl⟩
      · have hT : runesO s.data.toList = (runesO (s.data.toList.drop (k + q))).map (· + (n + 1)) := by
          rw [hr.out, runesO_step (drop_ne hlt) (by rw [hq]; exact h0), hq, List.drop_drop, map_map_add]
        have HT := Lib.hid hT
        have z0 : ((q : Int) == 0) = false := by simpa using h0
        clear hT hq hr h0
        go_wp2_with (go_at_call 99; refine HL.out.mono ?_; rintro e w' ⟨rfl, rfl⟩)
        go_round
        case rel => exact ⟨k + q, n + 1, by omega, by simp at z0; omega, by go_num, by go_num, HT⟩
        case measure => simp [intOf]; simp at z0; omega
    · have e1 : k = s.size := by omega
      have hT : runesT s = n := runesT_some (by
        have h := hr.out
        rw [e1, List.drop_of_length_le (by simp), runesO_nil] at h
        rw [h]; simp)
      have HT := Lib.hid hT
      clear hT e1 hr
      go_wp2
      go_ret
      exact ⟨ret_int HT.out.symm, rfl⟩
theorem runes_at {r : Int} (s : ByteArray) (w : World) (h : Hid (runesT s = r)) (hs : s.size ≤ 140737488355328) : Calls Tryd.prog 73 #[.string s] w fun e w' => e = .returned (.int .i64 r) ∧ w = w' := h.out ▸ runes_any s w hs
theorem runes_empty : runesT ⟨#[]⟩ = 0 := rfl
end Go.Proofs.YtobgfegdfcpgfaaDoor
