/- penstockref04.Apply: what it answers. Conditions: the slices are as readings give them, and not too long. -/
import Derived.Test.YtilbfmfioopiiaaDoorApply
import Derived.Test.YtilbfmfioopiiaaDoorTwo
namespace Go.Proofs.YtilbfmfioopiiaaDoor
open Go.RowKit

/-- the form in which the document's Apply answers -/
def RTimeOut (w : World) (r : (Int × List Int) × Int) (e : Ending) (w' : World) : Prop :=
  ∃ A c, e = .returned (.tuple #[.agg #[.int .u64 r.1.1, .slice A r.1.2.length c], .int .i64 r.2]) ∧ Own w' w.heap.size 22 1 A r.1.2.length c (wds r.1.2) ∧ Ext w w'
set_option maxRecDepth 100000 in
set_option maxHeartbeats 400000 in
theorem rapply_neg (L a : Int) (A1 A2 : Option Addr) (n1 n2 c1 c2 : Nat) (e : Int) (w : World) (hL : L < 0) :
    Calls Tryd.prog 13 #[.agg #[.int .i64 L, .int .u32 a, .slice A1 n1 c1], .agg #[.int .u64 e, .slice A2 n2 c2]] w fun r w' => r = .returned (.tuple #[.agg #[.int .u64 0, .slice none 0 0], .int .i64 40]) ∧ Ext w w' := by
  go_enter Tryd.func13, Tryd.ntmps13
  go_wp2
  go_returns
  exact ⟨rfl, (((Ext.refl w).alloc _).alloc _).alloc _⟩
set_option maxRecDepth 100000 in
set_option maxHeartbeats 400000 in
theorem rapply_less (L a : Int) (A1 A2 : Option Addr) (n1 n2 c1 c2 : Nat) (e : Int) (w : World) (hL : 0 ≤ L) (h : (n2 : Int) < L) :
    Calls Tryd.prog 13 #[.agg #[.int .i64 L, .int .u32 a, .slice A1 n1 c1], .agg #[.int .u64 e, .slice A2 n2 c2]] w fun r w' => r = .returned (.tuple #[.agg #[.int .u64 0, .slice none 0 0], .int .i64 40]) ∧ Ext w w' := by
  go_enter Tryd.func13, Tryd.ntmps13
  go_wp2
  go_returns
  exact ⟨rfl, (((Ext.refl w).alloc _).alloc _).alloc _⟩
set_option maxRecDepth 100000 in
set_option maxHeartbeats 4000000 in
theorem rapply_main (K m : Nat) (a : Int) (A1 A2 : Option Addr) (n1 c1 c2 : Nat) (l1 l2 : List Int) (e : Int) (w : World) (h1 : Sl w 1 A1 n1 c1 (wds l1)) (h2 : Sl w 1 A2 (K + m) c2 (wds l2)) (u2 : U32 l2)
    (ha : 0 ≤ a ∧ a ≤ 4294967295) (he : 0 ≤ e ∧ e ≤ 18446744073709551615) (hn1 : n1 ≤ 1000000) (hn2 : K + m ≤ 1000000) :
    Calls Tryd.prog 13 #[.agg #[.int .i64 m, .int .u32 a, .slice A1 n1 c1], .agg #[.int .u64 e, .slice A2 (K + m : Nat) c2]] w
      (RTimeOut w (applyK K a l1 e l2)) := by
  have hm := h2.le
  have hc := h2.cap
  obtain ⟨ha0, ha1⟩ := ha
  obtain ⟨he0, he1⟩ := he
  have hs : Sl w 1 A2 K c2 (wds (l2.take K)) := by
    have := h2.take (k := K) (by omega)
    rwa [Nat.mul_one, wds_take] at this
  go_enter Tryd.func13, Tryd.ntmps13
  go_upto_region 5 with fail
  obtain ⟨w0, hw0⟩ : ∃ w0, w0 = (((w.alloc (Obj.cells #[Value.int IntKind.i64 m, Value.int IntKind.u32 a, Value.slice A1 n1 c1] 25)).alloc (Obj.cells #[Value.int IntKind.u64 e, Value.slice A2 (K + m) c2] 28)).alloc
      (Obj.cells #[Value.int IntKind.u64 0, Value.slice none 0 0] 28)).alloc (Obj.cells #[Value.int IntKind.u64 e, Value.slice none 0 0] 28) := ⟨_, rfl⟩
  have x0 : Ext w w0 := hw0 ▸ ((((Ext.refl w).alloc _).alloc _).alloc _).alloc _
  have s0 : w0.heap.size = w.heap.size + 4 := by subst hw0; simp
  have p0 : Bk w0 w.heap.size 25 #[Value.int IntKind.i64 m, Value.int IntKind.u32 a, Value.slice A1 n1 c1] := by subst hw0; exact (((Bk.new _ _ _).alloc _).alloc _).alloc _
  have t0 : Bk w0 (w.heap.size + 1) 28 #[Value.int IntKind.u64 e, Value.slice A2 (K + m) c2] := by subst hw0; exact ((Bk.at (by simp)).alloc _).alloc _
  have r0 : Bk w0 (w.heap.size + 1 + 1) 28 #[Value.int IntKind.u64 0, Value.slice none 0 0] := by subst hw0; exact (Bk.at (by simp)).alloc _
  have b0 : Bk w0 (w.heap.size + 1 + 1 + 1) 28 #[Value.int IntKind.u64 e, Value.slice none 0 0] := by subst hw0; exact Bk.at (by simp)
  rw [← hw0]
  clear hw0
  have S0 := Lib.hid s0
  clear s0
  have X : Ext w0 w0.drew := (Ext.refl w0).drew
  have q1 : ∀ y : Xt w0.drew, y.W.cell? ⟨w.heap.size + 1, 1, none⟩ = some (.slice A2 (K + m) c2) := fun y => (t0.ext (X.trans y.x)).cell 1
  have q2 : ∀ y : Xt w0.drew, y.W.cell? ⟨w.heap.size + 1 + 1 + 1, 1, none⟩ = some (.slice none 0 0) := fun y => (b0.ext (X.trans y.x)).cell 1
  refine wp_region_ord [0,1,0,4,0,28,63,127,255] (.flo [0,1,2,3,4,5] (.one 6 (.flo [7] (.one 8 (.fin))))) (by kernel_rfl) (by kernel_rfl) (by intro _ _ d _ _ h; cases d <;> exact h) ?_
  (refine ord_flo (pick_cons rfl (pick_cons rfl (pick_cons rfl (pick_cons rfl (pick_cons rfl (pick_cons rfl pick_nil)))))) ?_; (repeat (go_big_quiet_step (fail))); refine wpQuiet_nil ?_; show ordWalk _ _ _ _ _ _ _)
  refine ord_one (pick_cons rfl pick_nil) ?_; intro K_ hK_
  go_wp2_with (at_builtin; go_loud (refine wpList_append_two _ elemWords (w.heap.size + 4) _ _ rfl rfl none 0 0 [] rfl (Own.nil _ _ _ _) A2 K c2 (wds (l2.take K)) rfl (hs.ext (x0.trans X)) (wds_one _) (by omega) (by decide) (by have h1 := X.size; have h2 := S0.out; omega) ?_); intro A c w1 o1 g1 z1; clear z1)
  have y1 : Ext w0.drew w1 := Ext.grown (Ext.refl _) g1 (fun k e => nomatch e)
  have Y : Ext w0 w1 := X.trans y1
  have x1 := x0.trans Y
  have p1 := p0.ext Y
  have t1 := t0.ext Y
  have r1 := r0.ext Y
  have b1 := b0.ext Y
  have z1 := b1.cell 1
  have z2 := b1.free 1
  have O1 : Own w1 (w.heap.size + 4) 22 1 A K c (wds (l2.take K)) := by have := o1; rwa [Nat.zero_add, List.nil_append] at this
  clear q1 q2 o1 g1
  go_simp
  (refine ord_flo (pick_cons rfl pick_nil) ?_; (repeat (go_big_quiet_step (fail))); refine wpQuiet_nil ?_; show ordWalk _ _ _ _ _ _ _)
  refine ord_one (pick_cons rfl pick_nil) ?_; intro K_ hK_
  go_wp2
  refine ord_fin ?_
  have hng : blk A c ≠ some (w.heap.size + 1 + 1 + 1) := O1.ne (by omega)
  obtain ⟨wc, hwc⟩ : ∃ wc, wc = w1.setCell ⟨w.heap.size + 1 + 1 + 1, 1, none⟩ (.slice A K c) := ⟨_, rfl⟩
  have pc : Bk wc w.heap.size 25 #[Value.int IntKind.i64 m, Value.int IntKind.u32 a, Value.slice A1 n1 c1] := hwc ▸ p1.far (p := ⟨w.heap.size + 1 + 1 + 1, 1, none⟩) (by simp; omega) _
  have tc : Bk wc (w.heap.size + 1) 28 #[Value.int IntKind.u64 e, Value.slice A2 (K + m) c2] := hwc ▸ t1.far (p := ⟨w.heap.size + 1 + 1 + 1, 1, none⟩) (by simp) _
  have rc : Bk wc (w.heap.size + 1 + 1) 28 #[Value.int IntKind.u64 0, Value.slice none 0 0] := hwc ▸ r1.far (p := ⟨w.heap.size + 1 + 1 + 1, 1, none⟩) (by simp) _
  have bx : Bk wc (w.heap.size + 1 + 1 + 1) 28 #[Value.int IntKind.u64 e, Value.slice A K c] := hwc ▸ b1.set 1 _
  have ho : Own wc (w.heap.size + 4) 22 1 A K c (wds (l2.take K)) := hwc ▸ O1.far hng _
  have x00 : Ext w wc := hwc ▸ x1.set (p := ⟨w.heap.size + 1 + 1 + 1, 1, none⟩) (by simp; omega) _
  rw [← hwc]
  have hcs : w.heap.size + 4 ≤ wc.heap.size := by have := Y.size; have := S0.out; rw [hwc]; simp; omega
  clear hwc O1 p1 t1 r1 b1 p0 t0 r0 b0 X Y y1 x0 x1 z1 z2
  have k1 : wc.cell? ⟨w.heap.size, 1, none⟩ = some (.int .u32 a) := pc.cell 1
  have k2 : wc.cell? ⟨w.heap.size, 2, none⟩ = some (.slice A1 n1 c1) := pc.cell 2
  have k3 : wc.cell? ⟨w.heap.size + 1 + 1 + 1, 0, none⟩ = some (.int .u64 e) := bx.cell 0
  have k4 : wc.cell? ⟨w.heap.size + 1 + 1 + 1, 1, none⟩ = some (.slice A K c) := bx.cell 1
  have k5 := bx.free 0
  have k6 := bx.free 1
  have k7 : wc.cell? ⟨w.heap.size + 1 + 1, 0, none⟩ = some (.int .u64 0) := rc.cell 0
  have k8 : wc.cell? ⟨w.heap.size + 1 + 1, 1, none⟩ = some (.slice none 0 0) := rc.cell 1
  have k9 := rc.free 0
  have k10 := rc.free 1
  have k11 : wc.cell? ⟨w.heap.size + 1, 0, none⟩ = some (.int .u64 e) := tc.cell 0
  have wa : IntKind.u64.wrap a = a := by rw [IntKind.wrap_u64]; omega
  rcases Nat.eq_zero_or_pos K with hK | hK
  · subst hK
    by_cases hov : 18446744073709551615 - a < e
    · have A0 : applyK 0 a l1 e l2 = ((0, []), 41) := by simp [applyK, hov]
      have AH := Lib.hid A0
      have we : IntKind.u64.wrap (e + a) = e + a - 18446744073709551616 := by rw [IntKind.wrap_u64]; omega
      clear A0
      go_wp2
      refine bodyPost_ret (v := .tuple #[.agg #[.int .u64 0, .slice none 0 0], .int .i64 41]) (by simp only [results, Tryd.results13]; go_simp) rfl ?_
      rw [AH.out]
      refine ⟨none, 0, rfl, Own.nil _ _ _ _, ?_⟩
      (repeat' (first | with_reducible exact x00 | with_reducible refine Ext.drew ?_ | with_reducible refine Ext.drewN ?_ _ | with_reducible refine Ext.alloc ?_ _ | with_reducible refine Ext.set ?_ ?_ _ | omega | (simp; done) | (simp; omega)))
    · have we : IntKind.u64.wrap (e + a) = e + a := by rw [IntKind.wrap_u64]; omega
      by_cases hlong : 3 < n1
      · have A0 : applyK 0 a l1 e l2 = ((0, []), 40) := by simp [applyK, hov, h1.wlen, hlong]
        have AH := Lib.hid A0
        clear A0
        go_wp2
        refine bodyPost_ret (v := .tuple #[.agg #[.int .u64 0, .slice none 0 0], .int .i64 40]) (by simp only [results, Tryd.results13]; go_simp) rfl ?_
        rw [AH.out]
        refine ⟨none, 0, rfl, Own.nil _ _ _ _, ?_⟩
        (repeat' (first | with_reducible exact x00 | with_reducible refine Ext.drew ?_ | with_reducible refine Ext.drewN ?_ _ | with_reducible refine Ext.alloc ?_ _ | with_reducible refine Ext.set ?_ ?_ _ | omega | (simp; done) | (simp; omega)))
      · have A0 : applyK 0 a l1 e l2 = ((e + a, l1), 0) := by simp [applyK, hov, h1.wlen, hlong]
        have AH := Lib.hid A0
        clear A0
        have bx2 := bx.set 0 (.int .u64 (e + a))
        have rc2 := rc.far (p := ⟨w.heap.size + 1 + 1 + 1, 0, none⟩) (by simp) (.int .u64 (e + a))
        go_wp2_with (at_builtin; go_loud (refine wpList_append_two _ elemWords (w.heap.size + 4) _ _ rfl rfl A 0 c _ rfl (ho.far hng _) A1 n1 c1 (wds l1) rfl (h1.ext (x00.set (p := ⟨w.heap.size + 1 + 1 + 1, 0, none⟩) (by simp; omega) _)) (wds_one _) (by omega) (by decide) (by simp; omega) ?_); intro A' c' w2 o2 g2 z2; have bx3 := bx2.grown g2 hng; have rc3 := rc2.grown g2 (ho.ne (by omega)); have y0 := bx3.cell 0; have y1 := bx3.cell 1; have y2 := bx3.free 0; have y3 := bx3.free 1; have y4 := rc3.cell 0; have y5 := rc3.cell 1; have y6 := rc3.free 0; have y7 := rc3.free 1; have XX : Hid (Ext w w2) := Lib.hid ((x00.set (p := ⟨w.heap.size + 1 + 1 + 1, 0, none⟩) (by simp; omega) _).grown g2 (fun k hk => by have := (ho.lt k hk).1; omega)); have O2 := Lib.hid o2; clear z2 bx3 rc3 g2 o2)
        refine bodyPost_ret (v := .tuple #[.agg #[.int .u64 (e + a), .slice A' n1 c'], .int .i64 0]) (by simp only [results, Tryd.results13]; go_simp) rfl ?_
        rw [AH.out]
        have hl1 := h1.wlen
        subst hl1
        refine ⟨A', c', rfl, ?_, ?_⟩
        · have o3 := O2.out
          have e0 : wds (List.take 0 l2) ++ wds l1 = wds l1 := by simp [wds]
          rw [e0, Nat.zero_add] at o3
          exact (((o3.mono (by omega)).far (o3.ne (by simp)) _).far (o3.ne (by simp)) _).far (o3.ne (by simp)) _
        · have y := XX.out
          (repeat' (first | with_reducible exact y | with_reducible refine Ext.drew ?_ | with_reducible refine Ext.drewN ?_ _ | with_reducible refine Ext.alloc ?_ _ | with_reducible refine Ext.set ?_ ?_ _ | omega | (simp; done) | (simp; omega)))
  · obtain ⟨gA, rfl, hbA, hgA, hgA2, hcA, hfA⟩ := ho.form hK
    have hl2 : K ≤ l2.length := by have := h2.wlen; omega
    have i0 : (0 : Int) ≤ (K : Int) - 1 := by omega
    have i1 : (K : Int) - 1 < (K : Int) := by omega
    have i2 : IntKind.i64.wrap ((K : Int) - 1) = (K : Int) - 1 := IntWalk.i64_in _ (by omega)
    have i3 : ((K : Int) - 1).toNat = K - 1 := by omega
    have kz : ((K : Int) == 0) = false := by simp; omega
    obtain ⟨v, hv⟩ : ∃ v, l2.getD (K - 1) 0 = v := ⟨_, rfl⟩
    have cA : wc.cell? ⟨gA, K - 1, none⟩ = some (.int .u32 v) := hcA _ _ (by
      rw [← hv]
      simp only [wds, List.getElem?_map, List.getElem?_take, if_pos (show K - 1 < K by omega), List.getD_eq_getElem?_getD, List.getElem?_eq_getElem (show K - 1 < l2.length by omega)]
      rfl)
    have fA := hfA (K - 1)
    have uu := u2.getD (K - 1)
    rw [hv] at uu
    have HVV := Lib.hid hv
    have wv : IntKind.u64.wrap v = v := by rw [IntKind.wrap_u64]; omega
    have wva : IntKind.u64.wrap (v + a) = v + a := by rw [IntKind.wrap_u64]; omega
    clear hcA hfA hv
    by_cases hov : 4294967295 - a < v
    · have A0 : applyK K a l1 e l2 = ((0, []), 41) := by unfold applyK; rw [if_neg (by omega), HVV.out, if_pos hov]
      have AH := Lib.hid A0
      clear A0
      have X : Ext wc wc.drew := (Ext.refl wc).drew
      have d1 : ∀ y : Xt wc.drew, y.W.cell? ⟨w.heap.size, 1, none⟩ = some (.int .u32 a) := fun y => y.x.cell (X.cell k1)
      have d4 : ∀ y : Xt wc.drew, y.W.cell? ⟨w.heap.size + 1 + 1 + 1, 1, none⟩ = some (.slice (some ⟨gA, 0, none⟩) K c) := fun y => y.x.cell (X.cell k4)
      have dA : ∀ y : Xt wc.drew, y.W.cell? ⟨gA, K - 1, none⟩ = some (.int .u32 v) := fun y => y.x.cell (X.cell cA)
      go_upto_region 10 with fail
      refine wp_region_ord [0,1,0,4,15,31,63,0,128,384,1023,2047] (.flo [0,1,2,3,4,5,6,7,8,9,10,11] (.fin)) (by kernel_rfl) (by kernel_rfl) (by intro _ _ d _ _ h; cases d <;> exact h) ?_
      (refine ord_flo (pick_cons rfl (pick_cons rfl (pick_cons rfl (pick_cons rfl (pick_cons rfl (pick_cons rfl (pick_cons rfl (pick_cons rfl (pick_cons rfl (pick_cons rfl (pick_cons rfl (pick_cons rfl pick_nil)))))))))))) ?_; (repeat (go_big_quiet_step (fail))); refine wpQuiet_nil ?_; show ordWalk _ _ _ _ _ _ _)
      refine ord_fin ?_
      go_wp2
      refine bodyPost_ret (v := .tuple #[.agg #[.int .u64 0, .slice none 0 0], .int .i64 41]) (by simp only [results, Tryd.results13]; go_simp) rfl ?_
      rw [AH.out]
      refine ⟨none, 0, rfl, Own.nil _ _ _ _, ?_⟩
      (repeat' (first | with_reducible exact x00 | with_reducible refine Ext.drew ?_ | with_reducible refine Ext.drewN ?_ _ | with_reducible refine Ext.alloc ?_ _ | with_reducible refine Ext.set ?_ ?_ _ | omega | (simp; done) | (simp; omega)))
    · have LL : v + a ≤ 4294967295 := by omega
      have w32 : IntKind.u32.wrap (v + a) = v + a := by rw [IntKind.wrap_u32]; omega
      have X : Ext wc wc.drew := (Ext.refl wc).drew
      have d1 : ∀ y : Xt wc.drew, y.W.cell? ⟨w.heap.size, 1, none⟩ = some (.int .u32 a) := fun y => y.x.cell (X.cell k1)
      have d4 : ∀ y : Xt wc.drew, y.W.cell? ⟨w.heap.size + 1 + 1 + 1, 1, none⟩ = some (.slice (some ⟨gA, 0, none⟩) K c) := fun y => y.x.cell (X.cell k4)
      have dA : ∀ y : Xt wc.drew, y.W.cell? ⟨gA, K - 1, none⟩ = some (.int .u32 v) := fun y => y.x.cell (X.cell cA)
      go_upto_region 10 with fail
      refine wp_region_ord [0,1,0,4,15,31,63,0,128,384,1023,2047] (.flo [0,1,2,3,4,5,6,7,8,9,10,11] (.fin)) (by kernel_rfl) (by kernel_rfl) (by intro _ _ d _ _ h; cases d <;> exact h) ?_
      (refine ord_flo (pick_cons rfl (pick_cons rfl (pick_cons rfl (pick_cons rfl (pick_cons rfl (pick_cons rfl (pick_cons rfl (pick_cons rfl (pick_cons rfl (pick_cons rfl (pick_cons rfl (pick_cons rfl pick_nil)))))))))))) ?_; (repeat (go_big_quiet_step (fail))); refine wpQuiet_nil ?_; show ordWalk _ _ _ _ _ _ _)
      refine ord_fin ?_
      have X2 : Ext wc wc.drew.drew := X.drew
      have d1' : ∀ y : Xt wc.drew.drew, y.W.cell? ⟨w.heap.size, 1, none⟩ = some (.int .u32 a) := fun y => y.x.cell (X2.cell k1)
      have d4' : ∀ y : Xt wc.drew.drew, y.W.cell? ⟨w.heap.size + 1 + 1 + 1, 1, none⟩ = some (.slice (some ⟨gA, 0, none⟩) K c) := fun y => y.x.cell (X2.cell k4)
      have dA' : ∀ y : Xt wc.drew.drew, y.W.cell? ⟨gA, K - 1, none⟩ = some (.int .u32 v) := fun y => y.x.cell (X2.cell cA)
      have gx : ¬ gA = w.heap.size + 1 + 1 + 1 := by omega
      have gx' : ¬ w.heap.size + 1 + 1 + 1 = gA := by omega
      have gr : ¬ gA = w.heap.size + 1 + 1 := by omega
      have gr' : ¬ w.heap.size + 1 + 1 = gA := by omega
      have gp' : ¬ w.heap.size = gA := by omega
      go_upto_region 12 with fail
      refine wp_region_ord [0,1,0,4,15,31,0,64,255,511,1023] (.flo [0,1,2,3,4,5,6,7,8,9] (.one 10 (.fin))) (by kernel_rfl) (by kernel_rfl) (by intro _ _ d _ _ h; cases d <;> exact h) ?_
      (refine ord_flo (pick_cons rfl (pick_cons rfl (pick_cons rfl (pick_cons rfl (pick_cons rfl (pick_cons rfl (pick_cons rfl (pick_cons rfl (pick_cons rfl (pick_cons rfl pick_nil)))))))))) ?_; (repeat (go_big_quiet_step (fail))); refine wpQuiet_nil ?_; show ordWalk _ _ _ _ _ _ _)
      refine ord_one (pick_cons rfl pick_nil) ?_; intro K_ hK_
      go_wp2
      refine ord_fin ?_
      by_cases hlong : 3 < K + n1
      · have A0 : applyK K a l1 e l2 = ((0, []), 40) := by unfold applyK; rw [if_neg (by omega), HVV.out, if_neg (by omega), if_pos (by rw [h1.wlen]; omega)]
        have AH := Lib.hid A0
        clear A0
        go_wp2
        refine bodyPost_ret (v := .tuple #[.agg #[.int .u64 0, .slice none 0 0], .int .i64 40]) (by simp only [results, Tryd.results13]; go_simp) rfl ?_
        rw [AH.out]
        refine ⟨none, 0, rfl, Own.nil _ _ _ _, ?_⟩
        (repeat' (first | with_reducible exact x00 | with_reducible refine Ext.drew ?_ | with_reducible refine Ext.drewN ?_ _ | with_reducible refine Ext.alloc ?_ _ | with_reducible refine Ext.set ?_ ?_ _ | omega | (simp; done) | (simp; omega)))
      · have A0 : applyK K a l1 e l2 = ((e, l2.take (K - 1) ++ [l2.getD (K - 1) 0 + a] ++ l1), 0) := by unfold applyK; rw [if_neg (by omega), HVV.out, if_neg (by omega), if_neg (by rw [h1.wlen]; omega)]
        have AH := Lib.hid A0
        clear A0
        have hoX : Own (wc.drew.drew.setCell ⟨gA, K - 1, none⟩ (.int .u32 (v + a))) (w.heap.size + 4) 22 1 (some ⟨gA, 0, none⟩) K c ((wds (l2.take K)).set (K - 1) (.int .u32 (v + a))) := (ho.put (K - 1) _).drew.drew
        have xX : Ext w (wc.drew.drew.setCell ⟨gA, K - 1, none⟩ (.int .u32 (v + a))) := (x00.drew.drew).set (p := ⟨gA, K - 1, none⟩) (by simp; omega) _
        have bx2 : Bk (wc.drew.drew.setCell ⟨gA, K - 1, none⟩ (.int .u32 (v + a))) (w.heap.size + 1 + 1 + 1) 28 #[Value.int IntKind.u64 e, Value.slice (some ⟨gA, 0, none⟩) K c] := (bx.drew.drew).far (p := ⟨gA, K - 1, none⟩) (by simp; omega) _
        have rc2 : Bk (wc.drew.drew.setCell ⟨gA, K - 1, none⟩ (.int .u32 (v + a))) (w.heap.size + 1 + 1) 28 #[Value.int IntKind.u64 0, Value.slice none 0 0] := (rc.drew.drew).far (p := ⟨gA, K - 1, none⟩) (by simp; omega) _
        go_wp2_with (at_builtin; go_loud (refine wpList_append_two _ elemWords (w.heap.size + 4) _ _ rfl rfl (some ⟨gA, 0, none⟩) K c _ rfl hoX A1 n1 c1 (wds l1) rfl (h1.ext xX) (wds_one _) (by omega) (by decide) (by simp; omega) ?_); intro A' c' w2 o2 g2 z2; have bx3 := bx2.grown g2 hng; have rc3 := rc2.grown g2 (hoX.ne (by omega)); have y0 := bx3.cell 0; have y1 := bx3.cell 1; have y2 := bx3.free 0; have y3 := bx3.free 1; have y4 := rc3.cell 0; have y5 := rc3.cell 1; have y6 := rc3.free 0; have y7 := rc3.free 1; have XX : Hid (Ext w w2) := Lib.hid (xX.grown g2 (fun k hk => by have := (hoX.lt k hk).1; omega)); have O2 := Lib.hid o2; clear z2 bx3 rc3 g2 o2)
        refine bodyPost_ret (v := .tuple #[.agg #[.int .u64 e, .slice A' (K + n1) c'], .int .i64 0]) (by simp only [results, Tryd.results13]; go_simp) rfl ?_
        rw [AH.out]
        have hl1 := h1.wlen
        have e0 : (l2.take (K - 1) ++ [l2.getD (K - 1) 0 + a] ++ l1).length = K + n1 := by simp; omega
        refine ⟨A', c', by simp only [e0], ?_, ?_⟩
        · have o3 := O2.out
          have e2 : (wds (l2.take K)).set (K - 1) (.int .u32 (v + a)) ++ wds l1 = wds (l2.take (K - 1) ++ [l2.getD (K - 1) 0 + a] ++ l1) := by
            rw [HVV.out, wds_set_last _ _ _ hK hl2, wds_append]
          rw [e2] at o3
          simp only [e0]
          exact (((o3.mono (by omega)).far (o3.ne (by simp)) _).far (o3.ne (by simp)) _).far (o3.ne (by simp)) _
        · have y := XX.out
          (repeat' (first | with_reducible exact y | with_reducible refine Ext.drew ?_ | with_reducible refine Ext.drewN ?_ _ | with_reducible refine Ext.alloc ?_ _ | with_reducible refine Ext.set ?_ ?_ _ | omega | (simp; done) | (simp; omega)))
theorem rapply_any (L a : Int) (A1 A2 : Option Addr) (n1 n2 c1 c2 : Nat) (l1 l2 : List Int) (e : Int) (w : World) (h1 : Sl w 1 A1 n1 c1 (wds l1)) (h2 : Sl w 1 A2 n2 c2 (wds l2)) (u2 : U32 l2)
    (ha : 0 ≤ a ∧ a ≤ 4294967295) (he : 0 ≤ e ∧ e ≤ 18446744073709551615) (hn1 : n1 ≤ 1000000) (hn2 : n2 ≤ 1000000) :
    Calls Tryd.prog 13 #[.agg #[.int .i64 L, .int .u32 a, .slice A1 n1 c1], .agg #[.int .u64 e, .slice A2 n2 c2]] w (RTimeOut w (applyT L a l1 e l2)) := by
  have hw := h2.wlen
  by_cases hL : L < 0
  · refine (rapply_neg L a A1 A2 n1 n2 c1 c2 e w hL).mono ?_
    rintro r w1 ⟨rfl, x1⟩
    unfold applyT
    rw [if_pos (.inl hL)]
    exact ⟨none, 0, rfl, Own.nil _ _ _ _, x1⟩
  · by_cases h : (n2 : Int) < L
    · refine (rapply_less L a A1 A2 n1 n2 c1 c2 e w (by omega) h).mono ?_
      rintro r w1 ⟨rfl, x1⟩
      unfold applyT
      rw [if_pos (.inr (by rw [hw]; exact h))]
      exact ⟨none, 0, rfl, Own.nil _ _ _ _, x1⟩
    · obtain ⟨m, rfl⟩ := Int.eq_ofNat_of_zero_le (by omega : 0 ≤ L)
      obtain ⟨K, rfl⟩ : ∃ K, n2 = K + m := ⟨n2 - m, by omega⟩
      have := rapply_main K m a A1 A2 n1 c1 c2 l1 l2 e w h1 h2 u2 ha he hn1 hn2
      unfold applyT
      rw [if_neg (by rw [hw]; omega), show l2.length - (m : Int).toNat = K by rw [hw]; omega]
      exact this
end Go.Proofs.YtilbfmfioopiiaaDoor
