/- stamp.PathLeq: the loop. Conditions: as in the text ahead. -/
import Derived.Test.YtilbfmfioopiiaaDoorPLeq
namespace Go.Proofs.YtilbfmfioopiiaaDoor
open Go.RowKit

set_option maxRecDepth 100000 in
set_option maxHeartbeats 1000000 in
theorem pleq_main (La aa Lb ab d : Int) (A1 A2 : Option Addr) (n1 n2 c1 c2 : Nat) (l1 l2 : List Int) (w : World) (h1 : Sl w 1 A1 n1 c1 (wds l1)) (h2 : Sl w 1 A2 n2 c2 (wds l2)) (u1 : U32 l1) (u2 : U32 l2) (hn1 : n1 ≤ 1000000) (hn2 : n2 ≤ 1000000)
    (k1 : 0 ≤ d) (k2 : d ≤ 3) (k3 : 0 ≤ La) (k4 : La ≤ d) (k5 : 0 ≤ Lb) (k6 : Lb ≤ d) (k7 : d - La + n1 ≤ 3) (k8 : d - La + n1 = d - Lb + n2) :
    Calls Tryd.prog 10 #[.agg #[.int .i64 La, .int .u32 aa, .slice A1 n1 c1], .agg #[.int .i64 Lb, .int .u32 ab, .slice A2 n2 c2], .int .i64 d] w
      (fun e w' => e = .returned (.bool (decide (∀ k : Nat, k < (d - La + n1).toNat + 1 → Never (placeT La aa l1 d k) (placeT Lb ab l2 d k)))) ∧ Ext w w') := by
  have q6 : (!decide (Lb ≤ d)) = false := by simp; omega
  have i1 : IntKind.i64.wrap (d - La) = d - La := IntWalk.i64_in _ (by omega)
  have i2 : IntKind.i64.wrap (d - La + n1) = d - La + n1 := IntWalk.i64_in _ (by omega)
  have i3 : IntKind.i64.wrap (d - Lb) = d - Lb := IntWalk.i64_in _ (by omega)
  have i4 : IntKind.i64.wrap (d - Lb + n2) = d - Lb + n2 := IntWalk.i64_in _ (by omega)
  have i5 : IntKind.i64.wrap (d - La + n1 + 1) = d - La + n1 + 1 := IntWalk.i64_in _ (by omega)
  have q8 : (d - La + n1 != d - Lb + n2) = false := by simp; omega
  obtain ⟨T, hT⟩ : ∃ T, T = (d - La + n1).toNat := ⟨_, rfl⟩
  rw [← hT]
  have K8 := Lib.hid k8
  clear k8
  go_enter Tryd.func10, Tryd.ntmps10
  go_wp2
  obtain ⟨w0, hw0⟩ : ∃ w0, w0 = (((((w.alloc (Obj.cells #[Value.int IntKind.i64 La, Value.int IntKind.u32 aa, Value.slice A1 n1 c1] 25)).alloc
                  (Obj.cells #[Value.int IntKind.i64 Lb, Value.int IntKind.u32 ab, Value.slice A2 n2 c2] 25)).alloc
              (Obj.cells #[Value.int IntKind.i64 d] 3)).alloc
          (Obj.cells #[Value.int IntKind.i64 La, Value.int IntKind.u32 aa, Value.slice A1 n1 c1] 25)).alloc
      (Obj.cells #[Value.int IntKind.i64 Lb, Value.int IntKind.u32 ab, Value.slice A2 n2 c2] 25)) := ⟨_, rfl⟩
  have e0 : Ext w w0 := hw0 ▸ (((((Ext.refl w).alloc _).alloc _).alloc _).alloc _).alloc _
  have a0 : Bk w0 w.heap.size 25 #[Value.int IntKind.i64 La, Value.int IntKind.u32 aa, Value.slice A1 n1 c1] := by subst hw0; exact ((((Bk.new _ _ _).alloc _).alloc _).alloc _).alloc _
  have b0 : Bk w0 (w.heap.size + 1) 25 #[Value.int IntKind.i64 Lb, Value.int IntKind.u32 ab, Value.slice A2 n2 c2] := by subst hw0; exact (((Bk.at (by simp)).alloc _).alloc _).alloc _
  have d0 : Bk w0 (w.heap.size + 1 + 1) 3 #[Value.int IntKind.i64 d] := by subst hw0; exact ((Bk.at (by simp)).alloc _).alloc _
  rw [← hw0]
  clear hw0
  go_loopw [59] (fun v wr => ∃ k : Nat, k ≤ T + 1 ∧ v = .int .i64 k ∧ (∀ j : Nat, j < k → Never (placeT La aa l1 d j) (placeT Lb ab l2 d j)) ∧ Ext w0 wr) (fun v _ => T + 1 - (intOf v).toNat)
  case atStart => exact ⟨0, Nat.zero_le _, rfl, fun j hj => absurd hj (by omega), Ext.refl _⟩
  case round =>
    obtain ⟨k, hk, rfl, hall, er⟩ := hrel
    have H := Lib.hid hall
    clear hall
    have f1 : wr.cell? ⟨w.heap.size, 0, none⟩ = some (.int .i64 La) := er.cell (a0.cell 0)
    have f2 : wr.cell? ⟨w.heap.size, 1, none⟩ = some (.int .u32 aa) := er.cell (a0.cell 1)
    have f3 : wr.cell? ⟨w.heap.size, 2, none⟩ = some (.slice A1 n1 c1) := er.cell (a0.cell 2)
    have f4 : wr.cell? ⟨w.heap.size + 1, 0, none⟩ = some (.int .i64 Lb) := er.cell (b0.cell 0)
    have f5 : wr.cell? ⟨w.heap.size + 1, 1, none⟩ = some (.int .u32 ab) := er.cell (b0.cell 1)
    have f6 : wr.cell? ⟨w.heap.size + 1, 2, none⟩ = some (.slice A2 n2 c2) := er.cell (b0.cell 2)
    have f7 : wr.cell? ⟨w.heap.size + 1 + 1, 0, none⟩ = some (.int .i64 d) := er.cell (d0.cell 0)
    have f8 := (d0.ext er).lt
    by_cases hlt : k < T + 1
    · obtain ⟨⟨ka, na⟩, ha⟩ : ∃ r, placeT La aa l1 d k = r := ⟨_, rfl⟩
      obtain ⟨⟨kb, nb⟩, hb⟩ : ∃ r, placeT Lb ab l2 d k = r := ⟨_, rfl⟩
      have PA := place_w La aa d k A1 n1 c1 (w.heap.size + 1 + 1) l1 wr ((h1.ext e0).ext er) f7 f8 (by omega) k3 k4 (by omega) (by omega) hn1 (by omega) u1
      have PB : ∀ w1, Ext wr w1 → _ := fun w1 (x1 : Ext wr w1) => place_w Lb ab d k A2 n2 c2 (w.heap.size + 1 + 1) l2 w1 (((h2.ext e0).ext er).ext x1) (x1.cell f7) (by have := x1.size; omega) (by omega) k5 k6 (by omega) (by have := K8.out; omega) hn2 (by omega) u2
      rw [ha] at PA
      rw [hb] at PB
      have hlt3 : (k : Int) < d - La + n1 + 1 := by omega
      have HT := Lib.hid hT
      clear hT
      go_wp2_with (first | (have mk2 := mk1; go_at_call 38; refine (PB _ x1).mono ?_; clear PB; rintro r w2 ⟨rfl, x2⟩; have e2 := x1.trans x2) | (go_at_call 38; refine PA.mono ?_; clear PA; rintro r w1 ⟨rfl, x1⟩; have g4 := x1.cell f4; have g5 := x1.cell f5; have g6 := x1.cell f6; have mk1 := trivial))
      all_goals first
        | (refine ⟨⟨k + 1, by omega, by simp, fun j hj => ?_, er.trans e2⟩, ?_⟩
           · by_cases hjk : j < k
             · exact H.out j hjk
             · have hjk2 : j = k := by omega
               rw [hjk2, ha, hb]
               unfold Never
               exact ⟨by assumption, by simp_all⟩
           · simp [intOf]; omega)
        | (refine bodyPost_ret (v := .bool false) (by simp only [results, Tryd.results10]; go_simp) rfl ?_
           refine ⟨ret_bool (Eq.symm (decide_eq_false fun hh => ?_)), (e0.trans er).trans e2⟩
           have hk2 := hh k hlt
           rw [ha, hb] at hk2
           obtain ⟨t1, t2⟩ := hk2
           dsimp only at t1 t2
           first | omega | (clear K8 q8; simp_all; done) | (clear K8 q8; simp_all; omega))
    · have hk1 : k = T + 1 := by omega
      have hlt3 : ¬ ((k : Int) < d - La + n1 + 1) := by omega
      subst hk1
      have HT := Lib.hid hT
      clear hT
      go_wp2
      refine bodyPost_ret (v := .bool true) (by simp only [results, Tryd.results10]; go_simp) rfl ?_
      exact ⟨ret_bool (Eq.symm (decide_eq_true fun j hj => H.out j hj)), e0.trans er⟩

theorem pleq_any (La aa Lb ab d : Int) (A1 A2 : Option Addr) (n1 n2 c1 c2 : Nat) (l1 l2 : List Int) (w : World) (h1 : Sl w 1 A1 n1 c1 (wds l1)) (h2 : Sl w 1 A2 n2 c2 (wds l2)) (u1 : U32 l1) (u2 : U32 l2) (hn1 : n1 ≤ 1000000) (hn2 : n2 ≤ 1000000) :
    Calls Tryd.prog 10 #[.agg #[.int .i64 La, .int .u32 aa, .slice A1 n1 c1], .agg #[.int .i64 Lb, .int .u32 ab, .slice A2 n2 c2], .int .i64 d] w
      (fun e w' => e = .returned (.bool (pathLeqT La aa l1 Lb ab l2 d)) ∧ Ext w w') := by
  have hl1 := h1.wlen
  have hl2 := h2.wlen
  by_cases h : (0 ≤ d ∧ d ≤ 3 ∧ 0 ≤ La ∧ La ≤ d ∧ 0 ≤ Lb ∧ Lb ≤ d ∧ d - La + n1 ≤ 3 ∧ d - La + n1 = d - Lb + n2)
  · obtain ⟨k1, k2, k3, k4, k5, k6, k7, k8⟩ := h
    refine (pleq_main La aa Lb ab d A1 A2 n1 n2 c1 c2 l1 l2 w h1 h2 u1 u2 hn1 hn2 k1 k2 k3 k4 k5 k6 k7 k8).mono fun e w' ⟨he, hx⟩ => ⟨he.trans (ret_bool ?_), hx⟩
    unfold pathLeqT
    rw [decide_eq_decide, hl1, hl2]
    exact ⟨fun h => ⟨k1, k2, k3, k4, k5, k6, k7, k8, h⟩, fun h => h.2.2.2.2.2.2.2.2⟩
  · have hf : pathLeqT La aa l1 Lb ab l2 d = false := by
      unfold pathLeqT
      rw [hl1, hl2]
      exact decide_eq_false fun hh => h ⟨hh.1, hh.2.1, hh.2.2.1, hh.2.2.2.1, hh.2.2.2.2.1, hh.2.2.2.2.2.1, hh.2.2.2.2.2.2.1, hh.2.2.2.2.2.2.2.1⟩
    rw [hf]
    exact pleq_off La aa Lb ab d A1 A2 n1 n2 c1 c2 w hn1 hn2 h
end Go.Proofs.YtilbfmfioopiiaaDoor
