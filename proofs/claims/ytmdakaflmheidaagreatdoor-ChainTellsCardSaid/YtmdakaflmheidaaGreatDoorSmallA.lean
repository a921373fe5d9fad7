/- slices.Clone at counters, SameWords, stamp.Leq: what they answer. Conditions: the slices are as readings give them. -/
import Derived.Test.YtmdakaflmheidaaGreatDoorJoin
namespace Go.Proofs.YtmdakaflmheidaaGreatDoor
open Go.RowKit

set_option maxRecDepth 100000 in
set_option maxHeartbeats 400000 in
theorem clone_words (A : Option Addr) (n c : Nat) (xs : List Value) (w : World) (h : Sl w 1 A n c xs) (h1 : ∀ u ∈ xs, u.oneCell' = true) (hn : n * 4 ≤ 140737488355328) :
    Calls Tryz.prog 75 #[.slice A n c] w fun e w' => ∃ A' c', e = .returned (.slice A' n c') ∧ Own w' w.heap.size 74 1 A' n c' xs ∧ Ext w w' := by
  have hnil := fun (W : World) => Lib.run_eql_slice_nil (P := Tryz.prog) W 24 74 A n c 0 0 Tryz.underlying24
  rcases A with _ | a
  · obtain rfl : c = 0 := h.2.2.2.1 rfl
    have hn0 : n = 0 := by have := h.2.1; omega
    subst hn0
    have hx : xs = [] := List.eq_nil_of_length_eq_zero (by simpa using h.1)
    subst hx
    go_enter Tryz.func75, Tryz.ntmps75
    go_wp2
    go_ret
    exact ⟨none, 0, rfl, Own.nil _ _ _ _, Ext.refl _⟩
  · go_enter Tryz.func75, Tryz.ntmps75
    go_wp2_with (at_builtin; refine wpList_append_gen _ elemWords w.heap.size _ _ (by rfl) (by rfl) _ 0 0 [] (by rfl) (Own.empty _ _ _ _ _) (some a) n c xs (by rfl) (h.ext ((Ext.refl w).alloc _)) h1 (by omega) (by omega) (by simp) ?_; intro A' c' w1 ho1 hg1 hk1)
    go_ret
    refine ⟨A', c', by simp, by simpa using ho1, ?_⟩
    exact ((Ext.refl w).alloc _).grown hg1 (by simp [blk])

set_option maxRecDepth 100000 in
set_option maxHeartbeats 400000 in
theorem sameWords_diff (A1 A2 : Option Addr) (n1 n2 c1 c2 : Nat) (w : World) (hne : ((n1 : Int) != (n2 : Int)) = true) :
    Calls Tryz.prog 71 #[.slice A1 n1 c1, .slice A2 n2 c2] w fun e w' => e = .returned (.bool false) ∧ Ext w w' := by
  go_enter Tryz.func71, Tryz.ntmps71
  go_wp2
  go_ret
  exact ⟨rfl, Ext.refl _⟩

theorem getD_ext {l1 l2 : List Int} (hl : l1.length = l2.length) : (∀ k, k < l1.length → l1.getD k 0 = l2.getD k 0) ↔ l1 = l2 := by
  constructor
  · intro h
    refine List.ext_getElem hl fun k h1 h2 => ?_
    have := h k h1
    simpa [List.getD_eq_getElem?_getD, List.getElem?_eq_getElem h1, List.getElem?_eq_getElem h2] using this
  · rintro rfl k _; rfl

set_option maxRecDepth 100000 in
set_option maxHeartbeats 400000 in
theorem sameWords_same (A1 A2 : Option Addr) (n c1 c2 : Nat) (l1 l2 : List Int) (w : World) (h1 : Sl w 1 A1 n c1 (wds l1)) (h2 : Sl w 1 A2 n c2 (wds l2)) :
    Calls Tryz.prog 71 #[.slice A1 n c1, .slice A2 n c2] w fun e w' => e = .returned (.bool (decide (l1 = l2))) ∧ Ext w w' := by
  have hm := h1.le
  have hl1 := Lib.hid h1.wlen
  have hl2 := Lib.hid h2.wlen
  have he : ((n : Int) != (n : Int)) = false := by simp
  go_enter Tryz.func71, Tryz.ntmps71
  go_wp2
  go_loopw [5] (fun v wr => ∃ k : Nat, k ≤ n ∧ v = .int .i64 k ∧ (∀ j, j < k → l1.getD j 0 = l2.getD j 0) ∧ ∃ m, wr = w.drewN m) (fun v _ => n - (intOf v).toNat)
  case atStart => exact ⟨0, Nat.zero_le _, rfl, fun j hj => absurd hj (by omega), 0, rfl⟩
  case round =>
    obtain ⟨k, hk, rfl, hall, m, rfl⟩ := hrel
    have H := Lib.hid hall
    clear hall
    by_cases hlt : k < n
    · obtain ⟨a1, ha1, hc1, _⟩ := h1.word hlt
      obtain ⟨a2, ha2, hc2, _⟩ := h2.word hlt
      have T : Hid (k < l1.length) := by show k < l1.length; rw [hl1.out]; exact hlt
      by_cases hq : (l1[k]?.getD 0 != l2[k]?.getD 0) = true
      · go_wp2
        go_quiet (fail)
        go_wp2
        go_ret
        refine ⟨ret_bool (Eq.symm (decide_eq_false fun e => ?_)), ((Ext.refl w).drewN _).drewN _⟩
        rw [e] at hq
        simp at hq
      · have hq' : (l1[k]?.getD 0 != l2[k]?.getD 0) = false := by simpa using hq
        have Q := Lib.hid hq
        clear hq
        go_wp2
        go_quiet (fail)
        go_wp2
        go_roundw
        case rel =>
          refine ⟨k + 1, by omega, by go_num, fun j hj => ?_, _, rfl⟩
          by_cases hjk : j < k
          · exact H.out j hjk
          · obtain rfl : j = k := by omega
            simpa [List.getD_eq_getElem?_getD] using hq'
        case measure => simp [intOf]; omega
    · go_wp2
      go_ret
      refine ⟨ret_bool (Eq.symm (decide_eq_true ?_)), (Ext.refl w).drewN _⟩
      exact (getD_ext (by rw [hl1.out, hl2.out])).1 fun j hj => H.out j (by rw [hl1.out] at hj; omega)

theorem sameWords_any (A1 A2 : Option Addr) (n1 n2 c1 c2 : Nat) (l1 l2 : List Int) (w : World) (h1 : Sl w 1 A1 n1 c1 (wds l1)) (h2 : Sl w 1 A2 n2 c2 (wds l2)) :
    Calls Tryz.prog 71 #[.slice A1 n1 c1, .slice A2 n2 c2] w fun e w' => e = .returned (.bool (decide (l1 = l2))) ∧ Ext w w' := by
  by_cases hn : n1 = n2
  · subst hn; exact sameWords_same A1 A2 n1 c1 c2 l1 l2 w h1 h2
  · have hf : decide (l1 = l2) = false := decide_eq_false fun e => hn (by rw [← h1.wlen, ← h2.wlen, e])
    rw [hf]
    exact sameWords_diff A1 A2 n1 n2 c1 c2 w (by simp; omega)

def leqT (e1 : Int) (l1 : List Int) (e2 : Int) (l2 : List Int) : Bool := decide (l1.length = l2.length ∧ e1 ≤ e2 ∧ ∀ k, k < l1.length → l1.getD k 0 ≤ l2.getD k 0)
set_option maxRecDepth 100000 in
set_option maxHeartbeats 400000 in
theorem leq_diff (e1 e2 : Int) (A1 A2 : Option Addr) (n1 n2 c1 c2 : Nat) (w : World) (hne : ((n1 : Int) != (n2 : Int)) = true) :
    Calls Tryz.prog 66 #[.agg #[.int .u64 e1, .slice A1 n1 c1], .agg #[.int .u64 e2, .slice A2 n2 c2]] w fun e w' => e = .returned (.bool false) ∧ Ext w w' := by
  go_enter Tryz.func66, Tryz.ntmps66
  go_wp2
  go_ret
  exact ⟨rfl, ((Ext.refl w).alloc _).alloc _⟩
set_option maxRecDepth 100000 in
set_option maxHeartbeats 400000 in
theorem leq_late (e1 e2 : Int) (A1 A2 : Option Addr) (n c1 c2 : Nat) (w : World) (hlt : e2 < e1) :
    Calls Tryz.prog 66 #[.agg #[.int .u64 e1, .slice A1 n c1], .agg #[.int .u64 e2, .slice A2 n c2]] w fun e w' => e = .returned (.bool false) ∧ Ext w w' := by
  have he : ((n : Int) != (n : Int)) = false := by simp
  go_enter Tryz.func66, Tryz.ntmps66
  go_wp2
  go_ret
  exact ⟨rfl, ((Ext.refl w).alloc _).alloc _⟩
set_option maxRecDepth 100000 in
set_option maxHeartbeats 400000 in
theorem leq_same (e1 e2 : Int) (A1 A2 : Option Addr) (n c1 c2 : Nat) (l1 l2 : List Int) (w : World) (h1 : Sl w 1 A1 n c1 (wds l1)) (h2 : Sl w 1 A2 n c2 (wds l2)) (hle : e1 ≤ e2) :
    Calls Tryz.prog 66 #[.agg #[.int .u64 e1, .slice A1 n c1], .agg #[.int .u64 e2, .slice A2 n c2]] w fun e w' => e = .returned (.bool (decide (∀ k, k < n → l1.getD k 0 ≤ l2.getD k 0))) ∧ Ext w w' := by
  have hm := h1.le
  have he : ((n : Int) != (n : Int)) = false := by simp
  go_enter Tryz.func66, Tryz.ntmps66
  go_wp2
  obtain ⟨w0, hw0⟩ : ∃ w0, w0 = (w.alloc (Obj.cells #[Value.int IntKind.u64 e1, Value.slice A1 n c1] 26)).alloc (Obj.cells #[Value.int IntKind.u64 e2, Value.slice A2 n c2] 26) := ⟨_, rfl⟩
  have e0 : Ext w w0 := hw0 ▸ ((Ext.refl w).alloc _).alloc _
  have b1 : w0.cell? ⟨w.heap.size, 1, none⟩ = some (Value.slice A1 n c1) := by subst hw0; go_simp
  have b2 : w0.cell? ⟨w.heap.size + 1, 1, none⟩ = some (Value.slice A2 n c2) := by subst hw0; go_simp
  rw [← hw0]
  clear hw0
  go_loopw [23] (fun v wr => ∃ k : Nat, k ≤ n ∧ v = .int .i64 k ∧ (∀ j, j < k → l1.getD j 0 ≤ l2.getD j 0) ∧ ∃ m, wr = w0.drewN m) (fun v _ => n - (intOf v).toNat)
  case atStart => exact ⟨0, Nat.zero_le _, rfl, fun j hj => absurd hj (by omega), 0, rfl⟩
  case round =>
    obtain ⟨k, hk, rfl, hall, m, rfl⟩ := hrel
    have H := Lib.hid hall
    clear hall
    by_cases hlt : k < n
    · obtain ⟨a1, ha1, hc1, _⟩ := (h1.ext e0).word hlt
      obtain ⟨a2, ha2, hc2, _⟩ := (h2.ext e0).word hlt
      go_wp2
      go_quiet (fail)
      go_wp2
      · have hv : l2[k]?.getD 0 < l1[k]?.getD 0 := by assumption
        go_ret
        refine ⟨ret_bool (Eq.symm (decide_eq_false fun hh => ?_)), (e0.drewN _).drewN _⟩
        have := hh k hlt
        simp only [List.getD_eq_getElem?_getD] at this
        omega
      · have hv : l1[k]?.getD 0 ≤ l2[k]?.getD 0 := by assumption
        go_roundw
        case rel =>
          refine ⟨k + 1, by omega, by go_num, fun j hj => ?_, _, rfl⟩
          by_cases hjk : j < k
          · exact H.out j hjk
          · obtain rfl : j = k := by omega
            simpa only [List.getD_eq_getElem?_getD] using hv
        case measure => simp [intOf]; omega
    · go_wp2
      go_ret
      refine ⟨ret_bool (Eq.symm (decide_eq_true fun j hj => H.out j (by omega))), e0.drewN _⟩

theorem leq_any (e1 e2 : Int) (A1 A2 : Option Addr) (n1 n2 c1 c2 : Nat) (l1 l2 : List Int) (w : World) (h1 : Sl w 1 A1 n1 c1 (wds l1)) (h2 : Sl w 1 A2 n2 c2 (wds l2)) :
    Calls Tryz.prog 66 #[.agg #[.int .u64 e1, .slice A1 n1 c1], .agg #[.int .u64 e2, .slice A2 n2 c2]] w fun e w' => e = .returned (.bool (leqT e1 l1 e2 l2)) ∧ Ext w w' := by
  have hl1 := h1.wlen
  have hl2 := h2.wlen
  by_cases hn : n1 = n2
  · subst hn
    by_cases hlt : e2 < e1
    · have hf : leqT e1 l1 e2 l2 = false := decide_eq_false fun hh => by have := hh.2.1; omega
      rw [hf]; exact leq_late e1 e2 A1 A2 n1 c1 c2 w hlt
    · refine (leq_same e1 e2 A1 A2 n1 c1 c2 l1 l2 w h1 h2 (by omega)).mono fun e w' ⟨he, hx⟩ => ⟨he.trans (ret_bool ?_), hx⟩
      unfold leqT
      rw [decide_eq_decide, hl1, hl2]
      exact ⟨fun h => ⟨rfl, by omega, h⟩, fun h => h.2.2⟩
  · have hf : leqT e1 l1 e2 l2 = false := decide_eq_false fun hh => by have := hh.1; omega
    rw [hf]
    exact leq_diff e1 e2 A1 A2 n1 n2 c1 c2 w (by simp; omega)
end Go.Proofs.YtmdakaflmheidaaGreatDoor
