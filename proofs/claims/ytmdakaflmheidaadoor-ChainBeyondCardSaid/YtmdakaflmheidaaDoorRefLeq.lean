/- penstockref04.Leq, Cmp: what they answer. Conditions: the slices are as readings give them. -/
import Derived.Test.YtmdakaflmheidaaDoorSmallA
import Derived.Test.YtmdakaflmheidaaDoorCmp
namespace Go.Proofs.YtmdakaflmheidaaDoor
open Go.RowKit

set_option maxRecDepth 100000 in
set_option maxHeartbeats 400000 in
theorem rleq_diff (e1 e2 : Int) (A1 A2 : Option Addr) (n1 n2 c1 c2 : Nat) (w : World) (hne : ((n1 : Int) != (n2 : Int)) = true) :
    Calls Tryd.prog 8 #[.agg #[.int .u64 e1, .slice A1 n1 c1], .agg #[.int .u64 e2, .slice A2 n2 c2]] w fun e w' => e = .returned (.bool false) ∧ Ext w w' := by
  go_enter Tryd.func8, Tryd.ntmps8
  go_wp2
  go_ret
  exact ⟨rfl, ((Ext.refl w).alloc _).alloc _⟩
set_option maxRecDepth 100000 in
set_option maxHeartbeats 400000 in
theorem rleq_late (e1 e2 : Int) (A1 A2 : Option Addr) (n c1 c2 : Nat) (w : World) (hlt : e2 < e1) :
    Calls Tryd.prog 8 #[.agg #[.int .u64 e1, .slice A1 n c1], .agg #[.int .u64 e2, .slice A2 n c2]] w fun e w' => e = .returned (.bool false) ∧ Ext w w' := by
  have he : ((n : Int) != (n : Int)) = false := by simp
  go_enter Tryd.func8, Tryd.ntmps8
  go_wp2
  go_ret
  exact ⟨rfl, ((Ext.refl w).alloc _).alloc _⟩
set_option maxRecDepth 100000 in
set_option maxHeartbeats 400000 in
theorem rleq_same (e1 e2 : Int) (A1 A2 : Option Addr) (n c1 c2 : Nat) (l1 l2 : List Int) (w : World) (h1 : Sl w 1 A1 n c1 (wds l1)) (h2 : Sl w 1 A2 n c2 (wds l2)) (hle : e1 ≤ e2) :
    Calls Tryd.prog 8 #[.agg #[.int .u64 e1, .slice A1 n c1], .agg #[.int .u64 e2, .slice A2 n c2]] w fun e w' => e = .returned (.bool (decide (∀ k, k < n → l1.getD k 0 ≤ l2.getD k 0))) ∧ Ext w w' := by
  have hm := h1.le
  have he : ((n : Int) != (n : Int)) = false := by simp
  go_enter Tryd.func8, Tryd.ntmps8
  go_wp2
  obtain ⟨w0, hw0⟩ : ∃ w0, w0 = (w.alloc (Obj.cells #[Value.int IntKind.u64 e1, Value.slice A1 n c1] 26)).alloc (Obj.cells #[Value.int IntKind.u64 e2, Value.slice A2 n c2] 26) := ⟨_, rfl⟩
  have e0 : Ext w w0 := hw0 ▸ ((Ext.refl w).alloc _).alloc _
  have b1 : w0.cell? ⟨w.heap.size, 1, none⟩ = some (Value.slice A1 n c1) := by subst hw0; go_simp
  have b2 : w0.cell? ⟨w.heap.size + 1, 1, none⟩ = some (Value.slice A2 n c2) := by subst hw0; go_simp
  rw [← hw0]
  clear hw0
  go_loopw [5] (fun v wr => ∃ k : Nat, k ≤ n ∧ v = .int .i64 k ∧ (∀ j, j < k → l1.getD j 0 ≤ l2.getD j 0) ∧ ∃ m, wr = w0.drewN m) (fun v _ => n - (intOf v).toNat)
  case atStart => exact ⟨0, Nat.zero_le _, rfl, fun j hj => absurd hj (by omega), 0, rfl⟩
  case round =>
    obtain ⟨k, hk, rfl, hall, m, rfl⟩ := hrel
    have H := Lib.hid hall
    clear hall
    by_cases hlt : k < n
    · obtain ⟨a1, ha1, hc1, _⟩ := (h1.ext e0).word hlt
      obtain ⟨a2, ha2, hc2, _⟩ := (h2.ext e0).word hlt
      go_wp2
      go_quiet (fail)
      go_wp2
      · have hv : l2[k]?.getD 0 < l1[k]?.getD 0 := by assumption
        go_ret
        refine ⟨ret_bool (Eq.symm (decide_eq_false fun hh => ?_)), (e0.drewN _).drewN _⟩
        have := hh k hlt
        simp only [List.getD_eq_getElem?_getD] at this
        omega
      · have hv : l1[k]?.getD 0 ≤ l2[k]?.getD 0 := by assumption
        go_roundw
        case rel =>
          refine ⟨k + 1, by omega, by go_num, fun j hj => ?_, _, rfl⟩
          by_cases hjk : j < k
          · exact H.out j hjk
          · obtain rfl : j = k := by omega
            simpa only [List.getD_eq_getElem?_getD] using hv
        case measure => simp [intOf]; omega
    · go_wp2
      go_ret
      refine ⟨ret_bool (Eq.symm (decide_eq_true fun j hj => H.out j (by omega))), e0.drewN _⟩

theorem rleq_any (e1 e2 : Int) (A1 A2 : Option Addr) (n1 n2 c1 c2 : Nat) (l1 l2 : List Int) (w : World) (h1 : Sl w 1 A1 n1 c1 (wds l1)) (h2 : Sl w 1 A2 n2 c2 (wds l2)) :
    Calls Tryd.prog 8 #[.agg #[.int .u64 e1, .slice A1 n1 c1], .agg #[.int .u64 e2, .slice A2 n2 c2]] w fun e w' => e = .returned (.bool (leqT e1 l1 e2 l2)) ∧ Ext w w' := by
  have hl1 := h1.wlen
  have hl2 := h2.wlen
  by_cases hn : n1 = n2
  · subst hn
    by_cases hlt : e2 < e1
    · have hf : leqT e1 l1 e2 l2 = false := decide_eq_false fun hh => by have := hh.2.1; omega
      rw [hf]; exact rleq_late e1 e2 A1 A2 n1 c1 c2 w hlt
    · refine (rleq_same e1 e2 A1 A2 n1 c1 c2 l1 l2 w h1 h2 (by omega)).mono fun e w' ⟨he, hx⟩ => ⟨he.trans (ret_bool ?_), hx⟩
      unfold leqT
      rw [decide_eq_decide, hl1, hl2]
      exact ⟨fun h => ⟨rfl, by omega, h⟩, fun h => h.2.2⟩
  · have hf : leqT e1 l1 e2 l2 = false := decide_eq_false fun hh => by have := hh.1; omega
    rw [hf]
    exact rleq_diff e1 e2 A1 A2 n1 n2 c1 c2 w (by simp; omega)
end Go.Proofs.YtmdakaflmheidaaDoor
