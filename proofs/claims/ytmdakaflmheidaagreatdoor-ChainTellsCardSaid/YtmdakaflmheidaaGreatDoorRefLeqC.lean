/- penstockref04.Leq, Cmp: what they answer. penstockref04.Cmp: what it answers. Conditions: each theorem states its own. -/
import Derived.Test.YtmdakaflmheidaaGreatDoorSmallA
import Derived.Test.YtmdakaflmheidaaGreatDoorCmp
namespace Go.Proofs.YtmdakaflmheidaaGreatDoor
open Go.RowKit

set_option maxRecDepth 100000 in
set_option maxHeartbeats 400000 in
theorem rleq_diff (e1 e2 : Int) (A1 A2 : Option Addr) (n1 n2 c1 c2 : Nat) (w : World) (hne : ((n1 : Int) != (n2 : Int)) = true) :
    Calls Tryz.prog 69 #[.agg #[.int .u64 e1, .slice A1 n1 c1], .agg #[.int .u64 e2, .slice A2 n2 c2]] w fun e w' => e = .returned (.bool false) ∧ Ext w w' := by
  go_enter Tryz.func69, Tryz.ntmps69
  go_wp2
  go_ret
  exact ⟨rfl, ((Ext.refl w).alloc _).alloc _⟩
set_option maxRecDepth 100000 in
set_option maxHeartbeats 400000 in
theorem rleq_late (e1 e2 : Int) (A1 A2 : Option Addr) (n c1 c2 : Nat) (w : World) (hlt : e2 < e1) :
    Calls Tryz.prog 69 #[.agg #[.int .u64 e1, .slice A1 n c1], .agg #[.int .u64 e2, .slice A2 n c2]] w fun e w' => e = .returned (.bool false) ∧ Ext w w' := by
  have he : ((n : Int) != (n : Int)) = false := by simp
  go_enter Tryz.func69, Tryz.ntmps69
  go_wp2
  go_ret
  exact ⟨rfl, ((Ext.refl w).alloc _).alloc _⟩
set_option maxRecDepth 100000 in
set_option maxHeartbeats 400000 in
theorem rleq_same (e1 e2 : Int) (A1 A2 : Option Addr) (n c1 c2 : Nat) (l1 l2 : List Int) (w : World) (h1 : Sl w 1 A1 n c1 (wds l1)) (h2 : Sl w 1 A2 n c2 (wds l2)) (hle : e1 ≤ e2) :
    Calls Tryz.prog 69 #[.agg #[.int .u64 e1, .slice A1 n c1], .agg #[.int .u64 e2, .slice A2 n c2]] w fun e w' => e = .returned (.bool (decide (∀ k, k < n → l1.getD k 0 ≤ l2.getD k 0))) ∧ Ext w w' := by
  have hm := h1.le
  have he : ((n : Int) != (n : Int)) = false := by simp
  go_enter Tryz.func69, Tryz.ntmps69
  go_wp2
  obtain ⟨w0, hw0⟩ : ∃ w0, w0 = (w.alloc (Obj.cells #[Value.int IntKind.u64 e1, Value.slice A1 n c1] 26)).alloc (Obj.cells #[Value.int IntKind.u64 e2, Value.slice A2 n c2] 26) := ⟨_, rfl⟩
  have e0 : Ext w w0 := hw0 ▸ ((Ext.refl w).alloc _).alloc _
  have b1 : w0.cell? ⟨w.heap.size, 1, none⟩ = some (Value.slice A1 n c1) := by subst hw0; go_simp
  have b2 : w0.cell? ⟨w.heap.size + 1, 1, none⟩ = some (Value.slice A2 n c2) := by subst hw0; go_simp
  rw [← hw0]
  clear hw0
  go_loopw [5] (fun v wr => ∃ k : Nat, k ≤ n ∧ v = .int .i64 k ∧ (∀ j, j < k → l1.getD j 0 ≤ l2.getD j 0) ∧ ∃ m, wr = w0.drewN m) (fun v _ => n - (intOf v).toNat)
  case atStart => exact ⟨0, Nat.zero_le _, rfl, fun j hj => absurd hj (by omega), 0, rfl⟩
  case round =>
    obtain ⟨k, hk, rfl, hall, m, rfl⟩ := hrel
    have H := Lib.hid hall
    clear hall
    by_cases hlt : k < n
    · obtain ⟨a1, ha1, hc1, _⟩ := (h1.ext e0).word hlt
      obtain ⟨a2, ha2, hc2, _⟩ := (h2.ext e0).word hlt
      go_wp2
      go_quiet (fail)
      go_wp2
      · have hv : l2[k]?.getD 0 < l1[k]?.getD 0 := by assumption
        go_ret
        refine ⟨ret_bool (Eq.symm (decide_eq_false fun hh => ?_)), (e0.drewN _).drewN _⟩
        have := hh k hlt
        simp only [List.getD_eq_getElem?_getD] at this
        omega
      · have hv : l1[k]?.getD 0 ≤ l2[k]?.getD 0 := by assumption
        go_roundw
        case rel =>
          refine ⟨k + 1, by omega, by go_num, fun j hj => ?_, _, rfl⟩
          by_cases hjk : j < k
          · exact H.out j hjk
          · obtain rfl : j = k := by omega
            simpa only [List.getD_eq_getElem?_getD] using hv
        case measure => simp [intOf]; omega
    · go_wp2
      go_ret
      refine ⟨ret_bool (Eq.symm (decide_eq_true fun j hj => H.out j (by omega))), e0.drewN _⟩

theorem rleq_any (e1 e2 : Int) (A1 A2 : Option Addr) (n1 n2 c1 c2 : Nat) (l1 l2 : List Int) (w : World) (h1 : Sl w 1 A1 n1 c1 (wds l1)) (h2 : Sl w 1 A2 n2 c2 (wds l2)) :
    Calls Tryz.prog 69 #[.agg #[.int .u64 e1, .slice A1 n1 c1], .agg #[.int .u64 e2, .slice A2 n2 c2]] w fun e w' => e = .returned (.bool (leqT e1 l1 e2 l2)) ∧ Ext w w' := by
  have hl1 := h1.wlen
  have hl2 := h2.wlen
  by_cases hn : n1 = n2
  · subst hn
    by_cases hlt : e2 < e1
    · have hf : leqT e1 l1 e2 l2 = false := decide_eq_false fun hh => by have := hh.2.1; omega
      rw [hf]; exact rleq_late e1 e2 A1 A2 n1 c1 c2 w hlt
    · refine (rleq_same e1 e2 A1 A2 n1 c1 c2 l1 l2 w h1 h2 (by omega)).mono fun e w' ⟨he, hx⟩ => ⟨he.trans (ret_bool ?_), hx⟩
      unfold leqT
      rw [decide_eq_decide, hl1, hl2]
      exact ⟨fun h => ⟨rfl, by omega, h⟩, fun h => h.2.2⟩
  · have hf : leqT e1 l1 e2 l2 = false := decide_eq_false fun hh => by have := hh.1; omega
    rw [hf]
    exact rleq_diff e1 e2 A1 A2 n1 n2 c1 c2 w (by simp; omega)
end Go.Proofs.YtmdakaflmheidaaGreatDoor
namespace Go.Proofs.YtmdakaflmheidaaGreatDoor
open Go.RowKit

set_option maxRecDepth 100000 in
set_option maxHeartbeats 400000 in
theorem rsign_any (x y : Int) (w : World) : Calls Tryz.prog 83 #[.int .u64 x, .int .u64 y] w fun e w' => e = .returned (.int .i64 (cmpT x y)) ∧ w = w' := by
  rcases Int.lt_trichotomy x y with h | h | h
  · rw [cmpT_lt h]
    go_enter Tryz.func83, Tryz.ntmps83
    go_wp2
    go_ret
    exact ⟨rfl, rfl⟩
  · subst h
    rw [cmpT_self]
    go_enter Tryz.func83, Tryz.ntmps83
    go_wp2
    go_ret
    exact ⟨rfl, rfl⟩
  · rw [cmpT_gt h]
    have h2 : ¬ x < y := by omega
    go_enter Tryz.func83, Tryz.ntmps83
    go_wp2
    go_ret
    exact ⟨rfl, rfl⟩
theorem rsign_at {v : Int} (x y : Int) (w : World) (h : Hid (cmpT x y = v)) : Calls Tryz.prog 83 #[.int .u64 x, .int .u64 y] w fun e w' => e = .returned (.int .i64 v) ∧ w = w' := h.out ▸ rsign_any x y w
/-- what is told when k counters have been looked at -/
def fromK (l1 l2 : List Int) (k : Nat) (v : Int) : Int := if v = 0 then lexT (l1.drop k) (l2.drop k) else v
set_option maxRecDepth 100000 in
set_option maxHeartbeats 2000000 in
theorem rcmp_off (e1 e2 : Int) (A1 A2 : Option Addr) (n1 n2 c1 c2 : Nat) (w : World) (v : Int) (hv : Hid (cmpT n1 n2 = v)) (v0 : (v == 0) = false) (hn1 : n1 ≤ 1000000) (hn2 : n2 ≤ 1000000) :
    Calls Tryz.prog 43 #[.agg #[.int .u64 e1, .slice A1 n1 c1], .agg #[.int .u64 e2, .slice A2 n2 c2]] w fun e w' => e = .returned (.int .i64 v) ∧ Ext w w' := by
  have w1_ : IntKind.u64.wrap (n1 : Int) = n1 := IntWalk.u64_in _ (by omega)
  have w2_ : IntKind.u64.wrap (n2 : Int) = n2 := IntWalk.u64_in _ (by omega)
  go_enter Tryz.func43, Tryz.ntmps43
  go_wp2_with (go_at_call 83; refine (rsign_at _ _ _ hv).mono ?_; rintro r w1 ⟨rfl, rfl⟩)
  refine wp_loop_rounds 1 ?_
  rw [rounds_succ]
  go_wp2
  all_goals go_ret
  all_goals exact ⟨rfl, ((Ext.refl w).alloc _).alloc _⟩
set_option maxRecDepth 100000 in
set_option maxHeartbeats 4000000 in
theorem rcmp_same (e1 e2 : Int) (A1 A2 : Option Addr) (n c1 c2 : Nat) (l1 l2 : List Int) (w : World) (h1 : Sl w 1 A1 n c1 (wds l1)) (h2 : Sl w 1 A2 n c2 (wds l2)) (u1 : U32 l1) (u2 : U32 l2) (hn : n ≤ 1000000) :
    Calls Tryz.prog 43 #[.agg #[.int .u64 e1, .slice A1 n c1], .agg #[.int .u64 e2, .slice A2 n c2]] w fun e w' => e = .returned (.int .i64 (fromK l1 l2 0 (cmpT e1 e2))) ∧ Ext w w' := by
  have HL1 := Lib.hid h1.wlen
  have HL2 := Lib.hid h2.wlen
  have HU1 := Lib.hid u1
  have HU2 := Lib.hid u2
  have w1_ : IntKind.u64.wrap (n : Int) = n := IntWalk.u64_in _ (by omega)
  have hs : Hid (cmpT n n = 0) := Lib.hid (cmpT_self _)
  obtain ⟨R, hR⟩ : ∃ R, fromK l1 l2 0 (cmpT e1 e2) = R := ⟨_, rfl⟩
  rw [hR]
  have HR := Lib.hid hR
  obtain ⟨v, hv⟩ : ∃ v, cmpT e1 e2 = v := ⟨_, rfl⟩
  have hv1 := Lib.hid hv
  have HV : Hid (fromK l1 l2 0 v = R) := Lib.hid (by rw [← hv]; exact hR)
  clear hR hv u1 u2
  have m1 : True := trivial
  go_enter Tryz.func43, Tryz.ntmps43
  go_wp2_with (first
    | (go_at_call 83; have mk := m1; clear m1 mk; refine (rsign_at _ _ _ hs).mono ?_; rintro r w1 ⟨rfl, rfl⟩; have m2 : True := trivial)
    | (go_at_call 83; have mk := m2; clear m2 mk; refine (rsign_at _ _ _ hv1).mono ?_; rintro r w1 ⟨rfl, rfl⟩))
  obtain ⟨w0, hw0⟩ : ∃ w0, w0 = (w.alloc (Obj.cells #[Value.int IntKind.u64 e1, Value.slice A1 n c1] 26)).alloc (Obj.cells #[Value.int IntKind.u64 e2, Value.slice A2 n c2] 26) := ⟨_, rfl⟩
  have x0 : Ext w w0 := hw0 ▸ ((Ext.refl w).alloc _).alloc _
  have b1 : w0.cell? ⟨w.heap.size, 1, none⟩ = some (Value.slice A1 n c1) := by subst hw0; go_simp
  have b2 : w0.cell? ⟨w.heap.size + 1, 1, none⟩ = some (Value.slice A2 n c2) := by subst hw0; go_simp
  rw [← hw0]
  clear hw0
  go_loopw [5, 6] (fun u v wr => ∃ (k : Nat) (z : Int), k ≤ n ∧ v = .int .i64 k ∧ u = .int .i64 z ∧ Hid (fromK l1 l2 k z = R) ∧ Ext w0 wr) (fun _ v _ => n - (intOf v).toNat)
  case atStart => exact ⟨0, v, Nat.zero_le _, rfl, rfl, HV, Ext.refl _⟩
  case round =>
    obtain ⟨k, z, hk, rfl, rfl, HZ, er⟩ := hrel
    have d1 : wr.cell? ⟨w.heap.size, 1, none⟩ = some (Value.slice A1 n c1) := er.cell b1
    have d2 : wr.cell? ⟨w.heap.size + 1, 1, none⟩ = some (Value.slice A2 n c2) := er.cell b2
    by_cases hlt : k < n
    · by_cases hz : z = 0
      · subst hz
        obtain ⟨a1, ha1, hc1, _⟩ := (h1.ext (x0.trans er)).word hlt
        obtain ⟨a2, ha2, hc2, _⟩ := (h2.ext (x0.trans er)).word hlt
        obtain ⟨x, hx⟩ : ∃ x, l1.getD k 0 = x := ⟨_, rfl⟩
        obtain ⟨y, hy⟩ : ∃ y, l2.getD k 0 = y := ⟨_, rfl⟩
        obtain ⟨q, hq⟩ : ∃ q, cmpT x y = q := ⟨_, rfl⟩
        have ux := HU1.out.getD k
        have uy := HU2.out.getD k
        rw [hx] at ux hc1
        rw [hy] at uy hc2
        have wx : IntKind.u64.wrap x = x := IntWalk.u64_in _ (by omega)
        have wy : IntKind.u64.wrap y = y := IntWalk.u64_in _ (by omega)
        have HN : Hid (fromK l1 l2 (k + 1) q = R) := Lib.hid (by
          have h := HZ.out
          have e1 := HL1.out
          have e2 := HL2.out
          unfold fromK at h ⊢
          rw [if_pos rfl, lexT_step k l1 l2 (by omega) (by omega), hx, hy, hq] at h
          exact h)
        have HQ := Lib.hid hq
        clear hq hx hy HZ
        go_wp2
        have X : Ext wr wr.drew := (Ext.refl wr).drew
        have q1 : ∀ y : Xt wr.drew, y.W.cell? ⟨w.heap.size, 1, none⟩ = some (.slice A1 n c1) := fun y => y.x.cell (X.cell d1)
        have q2 : ∀ y : Xt wr.drew, y.W.cell? ⟨w.heap.size + 1, 1, none⟩ = some (.slice A2 n c2) := fun y => y.x.cell (X.cell d2)
        have q3 : ∀ y : Xt wr.drew, y.W.cell? (a1.add k) = some (.int .u32 x) := fun y => y.x.cell (X.cell hc1)
        have q4 : ∀ z : Xt wr.drew, z.W.cell? (a2.add k) = some (.int .u32 y) := fun z => z.x.cell (X.cell hc2)
        refine wp_region_ord [0,1,0,7,15,31,0,64,0,448,960,1984,4095,8191] (.flo [0,1,2,3,4,5,6,7,8,9,10,11] (.one 12 (.flo [13] (.fin)))) (by kernel_rfl) (by kernel_rfl) (by intro _ _ d _ _ h; cases d <;> exact h) ?_
        (refine ord_flo (pick_cons rfl (pick_cons rfl (pick_cons rfl (pick_cons rfl (pick_cons rfl (pick_cons rfl (pick_cons rfl (pick_cons rfl (pick_cons rfl (pick_cons rfl (pick_cons rfl (pick_cons rfl pick_nil)))))))))))) ?_; (repeat (go_big_quiet_step (fail))); refine wpQuiet_nil ?_; show ordWalk _ _ _ _ _ _ _)
        refine ord_one (pick_cons rfl pick_nil) ?_; intro K_ hK_
        go_wp2_with (go_at_call 83; refine (rsign_at _ _ _ HQ).mono ?_; rintro r w1 ⟨rfl, rfl⟩)
        (refine ord_flo (pick_cons rfl pick_nil) ?_; (repeat (go_big_quiet_step (fail))); refine wpQuiet_nil ?_; show ordWalk _ _ _ _ _ _ _)
        refine ord_fin ?_
        go_wp2
        rw [← ha1, ← ha2]
        go_roundw
        case rel => exact ⟨k + 1, q, by omega, by go_num, rfl, HN, er.trans X⟩
        case measure => simp [intOf]; omega
      · have z0 : (z == 0) = false := by simpa using hz
        have HF : Hid (z = R) := Lib.hid (by have h := HZ.out; unfold fromK at h; rwa [if_neg hz] at h)
        clear hz HZ
        go_wp2
        go_ret
        exact ⟨by rw [← HF.out]; rfl, x0.trans er⟩
    · obtain rfl : k = n := by omega
      have HF : Hid (z = R) := Lib.hid (by
        have h := HZ.out
        have e1 := HL1.out
        have e2 := HL2.out
        unfold fromK at h
        split at h
        · rename_i h0
          rw [List.drop_eq_nil_of_le (by omega), List.drop_eq_nil_of_le (by omega)] at h
          rw [h0]
          exact h
        · exact h)
      clear HZ
      go_wp2
      all_goals go_ret
      all_goals exact ⟨by rw [← HF.out]; rfl, x0.trans er⟩
theorem rcmp_any (e1 e2 : Int) (A1 A2 : Option Addr) (n1 n2 c1 c2 : Nat) (l1 l2 : List Int) (w : World) (h1 : Sl w 1 A1 n1 c1 (wds l1)) (h2 : Sl w 1 A2 n2 c2 (wds l2)) (u1 : U32 l1) (u2 : U32 l2) (hn1 : n1 ≤ 1000000) (hn2 : n2 ≤ 1000000) :
    Calls Tryz.prog 43 #[.agg #[.int .u64 e1, .slice A1 n1 c1], .agg #[.int .u64 e2, .slice A2 n2 c2]] w fun e w' => e = .returned (.int .i64 (cmpTT e1 l1 e2 l2)) ∧ Ext w w' := by
  have hl1 := h1.wlen
  have hl2 := h2.wlen
  unfold cmpTT
  rw [hl1, hl2]
  by_cases h : n1 = n2
  · subst h
    rw [show orT (cmpT n1 n1) (cmpT e1 e2) (lexT l1 l2) = fromK l1 l2 0 (cmpT e1 e2) by
      rw [cmpT_self]; rfl]
    exact rcmp_same e1 e2 A1 A2 n1 c1 c2 l1 l2 w h1 h2 u1 u2 hn1
  · have h9 : cmpT n1 n2 ≠ 0 := fun h9 => h (by have := cmpT_zero.1 h9; omega)
    rw [show orT (cmpT n1 n2) (cmpT e1 e2) (lexT l1 l2) = cmpT n1 n2 from if_neg h9]
    exact rcmp_off e1 e2 A1 A2 n1 n2 c1 c2 w _ (Lib.hid rfl) (by simpa using h9) hn1 hn2
end Go.Proofs.YtmdakaflmheidaaGreatDoor
