/- penstocklaw04.far and much, penstockref00.SamePath and SameTime. Conditions: the slices are as readings give them, and not too long. -/
import Derived.Test.YtilbfmfioopiiaaDoorSmall
namespace Go.Proofs.YtilbfmfioopiiaaDoor
open Go.RowKit

set_option maxRecDepth 100000 in
set_option maxHeartbeats 400000 in
theorem far_any (g n c : Nat) (ns : Nat → Nat) (w : World) (hn : n ≤ 1000) (hc : ∀ i, i < n → ∃ A c, w.cell? ⟨g, i * 3 + 2, none⟩ = some (.slice A (ns i) c)) :
    Calls Tryd.prog 5 #[.slice (some ⟨g, 0, none⟩) n c] w fun e w' => e = .returned (.bool (decide (∃ i, i < n ∧ 40 < ns i))) ∧ Ext w w' := by
  go_enter Tryd.func5, Tryd.ntmps5
  go_wp2
  go_loopw [3] (fun v wr => ∃ k : Nat, k ≤ n ∧ v = .int .i64 k ∧ (∀ i, i < k → ns i ≤ 40) ∧ wr = w) (fun v _ => n - (intOf v).toNat)
  case atStart => exact ⟨0, Nat.zero_le _, rfl, fun i hi => absurd hi (by omega), rfl⟩
  case round =>
    obtain ⟨k, hk, rfl, hall, rfl⟩ := hrel
    have H := Lib.hid hall
    clear hall
    by_cases hlt : k < n
    · obtain ⟨A, c1, hcell⟩ := hc k hlt
      have HC := Lib.hid hc
      clear hc
      have i1 : (k : Int) < (n : Int) := by omega
      go_wp2
      · refine bodyPost_ret (v := .bool true) (by simp only [results, Tryd.results5]; go_simp) rfl ?_
        exact ⟨ret_bool (Eq.symm (decide_eq_true ⟨k, hlt, by omega⟩)), Ext.refl _⟩
      · go_roundw
        case rel =>
          refine ⟨k + 1, by omega, by go_num, fun i hi => ?_, by trivial⟩
          by_cases hik : i < k
          · exact H.out i hik
          · have e1 : i = k := by omega
            rw [e1]; omega
        case measure => simp [intOf]; omega
    · have e1 : k = n := by omega
      subst e1
      go_wp2
      refine bodyPost_ret (v := .bool false) (by simp only [results, Tryd.results5]; go_simp) rfl ?_
      exact ⟨ret_bool (Eq.symm (decide_eq_false fun ⟨i, hi, h2⟩ => by have := H.out i hi; omega)), Ext.refl _⟩

set_option maxRecDepth 100000 in
set_option maxHeartbeats 400000 in
theorem much_any (g n c : Nat) (ns : Nat → Nat) (w : World) (hn : n ≤ 1000) (hc : ∀ i, i < n → ∃ A c, w.cell? ⟨g, i * 2 + 1, none⟩ = some (.slice A (ns i) c)) :
    Calls Tryd.prog 6 #[.slice (some ⟨g, 0, none⟩) n c] w fun e w' => e = .returned (.bool (decide (∃ i, i < n ∧ 40 < ns i))) ∧ Ext w w' := by
  go_enter Tryd.func6, Tryd.ntmps6
  go_wp2
  go_loopw [3] (fun v wr => ∃ k : Nat, k ≤ n ∧ v = .int .i64 k ∧ (∀ i, i < k → ns i ≤ 40) ∧ wr = w) (fun v _ => n - (intOf v).toNat)
  case atStart => exact ⟨0, Nat.zero_le _, rfl, fun i hi => absurd hi (by omega), rfl⟩
  case round =>
    obtain ⟨k, hk, rfl, hall, rfl⟩ := hrel
    have H := Lib.hid hall
    clear hall
    by_cases hlt : k < n
    · obtain ⟨A, c1, hcell⟩ := hc k hlt
      have HC := Lib.hid hc
      clear hc
      have i1 : (k : Int) < (n : Int) := by omega
      go_wp2
      · refine bodyPost_ret (v := .bool true) (by simp only [results, Tryd.results6]; go_simp) rfl ?_
        exact ⟨ret_bool (Eq.symm (decide_eq_true ⟨k, hlt, by omega⟩)), Ext.refl _⟩
      · go_roundw
        case rel =>
          refine ⟨k + 1, by omega, by go_num, fun i hi => ?_, by trivial⟩
          by_cases hik : i < k
          · exact H.out i hik
          · have e1 : i = k := by omega
            rw [e1]; omega
        case measure => simp [intOf]; omega
    · have e1 : k = n := by omega
      subst e1
      go_wp2
      refine bodyPost_ret (v := .bool false) (by simp only [results, Tryd.results6]; go_simp) rfl ?_
      exact ⟨ret_bool (Eq.symm (decide_eq_false fun ⟨i, hi, h2⟩ => by have := H.out i hi; omega)), Ext.refl _⟩

set_option maxRecDepth 100000 in
set_option maxHeartbeats 400000 in
theorem samePath_any (L1 a1 L2 a2 : Int) (A1 A2 : Option Addr) (n1 n2 c1 c2 : Nat) (l1 l2 : List Int) (w : World) (h1 : Sl w 1 A1 n1 c1 (wds l1)) (h2 : Sl w 1 A2 n2 c2 (wds l2)) :
    Calls Tryd.prog 18 #[.agg #[.int .i64 L1, .int .u32 a1, .slice A1 n1 c1], .agg #[.int .i64 L2, .int .u32 a2, .slice A2 n2 c2]] w fun e w' => e = .returned (.bool (decide (L1 = L2 ∧ a1 = a2 ∧ l1 = l2))) ∧ Ext w w' := by
  by_cases k1 : L1 = L2
  · by_cases k2 : a1 = a2
    · have q1 : (L1 == L2) = true := by simpa using k1
      have q2 : (a1 == a2) = true := by simpa using k2
      go_enter Tryd.func18, Tryd.ntmps18
      go_wp2_with (go_at_call 39; refine (sameWords_any A1 A2 n1 n2 c1 c2 l1 l2 _ (h1.ext (((Ext.refl w).alloc _).alloc _)) (h2.ext (((Ext.refl w).alloc _).alloc _))).mono ?_; rintro r w1 ⟨rfl, x1⟩)
      refine bodyPost_ret (v := .bool (decide (l1 = l2))) (by simp only [results, Tryd.results18]; go_simp) rfl ?_
      exact ⟨by simp [k1, k2], (((Ext.refl w).alloc _).alloc _).trans x1⟩
    · have q1 : (L1 == L2) = true := by simpa using k1
      have q2 : (a1 == a2) = false := by simpa using k2
      go_enter Tryd.func18, Tryd.ntmps18
      go_wp2
      refine bodyPost_ret (v := .bool false) (by simp only [results, Tryd.results18]; go_simp) rfl ?_
      exact ⟨by simp [k2], (((Ext.refl w).alloc _).alloc _)⟩
  · have q1 : (L1 == L2) = false := by simpa using k1
    go_enter Tryd.func18, Tryd.ntmps18
    go_wp2
    refine bodyPost_ret (v := .bool false) (by simp only [results, Tryd.results18]; go_simp) rfl ?_
    exact ⟨by simp [k1], (((Ext.refl w).alloc _).alloc _)⟩
end Go.Proofs.YtilbfmfioopiiaaDoor
