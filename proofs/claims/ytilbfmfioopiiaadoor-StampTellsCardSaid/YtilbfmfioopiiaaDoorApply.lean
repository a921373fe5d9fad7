/- stamp.Apply: what becomes of any time on any way. Conditions: the slices are as readings give them, and not too long. -/
import Derived.Test.YtilbfmfioopiiaaDoorSmall
namespace Go.Proofs.YtilbfmfioopiiaaDoor
open Go.RowKit

/-- what Apply answers, K counters being left: the time and the error's number -/
def applyK (K : Nat) (a : Int) (l1 : List Int) (e : Int) (l2 : List Int) : (Int × List Int) × Int :=
  if K = 0 then (if 18446744073709551615 - a < e then ((0, []), 41) else if 3 < l1.length then ((0, []), 40) else ((e + a, l1), 0))
  else (if 4294967295 - a < l2.getD (K - 1) 0 then ((0, []), 41) else if 3 < K + l1.length then ((0, []), 40) else ((e, l2.take (K - 1) ++ [l2.getD (K - 1) 0 + a] ++ l1), 0))
/-- what Apply answers -/
def applyT (L a : Int) (l1 : List Int) (e : Int) (l2 : List Int) : (Int × List Int) × Int :=
  if L < 0 ∨ (l2.length : Int) < L then ((0, []), 40) else applyK (l2.length - L.toNat) a l1 e l2

/-- the form in which it is answered -/
def TimeOut (w : World) (r : (Int × List Int) × Int) (e : Ending) (w' : World) : Prop :=
  ∃ A c, e = .returned (.tuple #[.agg #[.int .u64 r.1.1, .slice A r.1.2.length c], .int .u16 r.2]) ∧ Own w' w.heap.size 22 1 A r.1.2.length c (wds r.1.2) ∧ Ext w w'

set_option maxRecDepth 100000 in
set_option maxHeartbeats 400000 in
theorem apply_neg (L a : Int) (A1 A2 : Option Addr) (n1 n2 c1 c2 : Nat) (e : Int) (w : World) (hL : L < 0) :
    Calls Tryd.prog 8 #[.agg #[.int .i64 L, .int .u32 a, .slice A1 n1 c1], .agg #[.int .u64 e, .slice A2 n2 c2]] w fun r w' => r = .returned (.tuple #[.agg #[.int .u64 0, .slice none 0 0], .int .u16 40]) ∧ Ext w w' := by
  go_enter Tryd.func8, Tryd.ntmps8
  go_wp2
  go_returns
  exact ⟨rfl, (((Ext.refl w).alloc _).alloc _).alloc _⟩
set_option maxRecDepth 100000 in
set_option maxHeartbeats 400000 in
theorem apply_less (L a : Int) (A1 A2 : Option Addr) (n1 n2 c1 c2 : Nat) (e : Int) (w : World) (hL : 0 ≤ L) (hn : n2 ≤ 9223372036854775807) (hL1 : L ≤ 9223372036854775807) (h : (n2 : Int) < L) :
    Calls Tryd.prog 8 #[.agg #[.int .i64 L, .int .u32 a, .slice A1 n1 c1], .agg #[.int .u64 e, .slice A2 n2 c2]] w fun r w' => r = .returned (.tuple #[.agg #[.int .u64 0, .slice none 0 0], .int .u16 40]) ∧ Ext w w' := by
  go_enter Tryd.func8, Tryd.ntmps8
  go_wp2
  go_returns
  exact ⟨rfl, (((Ext.refl w).alloc _).alloc _).alloc _⟩

set_option maxRecDepth 100000 in
set_option maxHeartbeats 4000000 in
theorem apply_main (K m : Nat) (a : Int) (A1 A2 : Option Addr) (n1 c1 c2 : Nat) (l1 l2 : List Int) (e : Int) (w : World) (h1 : Sl w 1 A1 n1 c1 (wds l1)) (h2 : Sl w 1 A2 (K + m) c2 (wds l2)) (u2 : U32 l2)
    (ha : 0 ≤ a ∧ a ≤ 4294967295) (he : 0 ≤ e ∧ e ≤ 18446744073709551615) (hn1 : n1 ≤ 1000000) (hn2 : K + m ≤ 1000000) :
    Calls Tryd.prog 8 #[.agg #[.int .i64 m, .int .u32 a, .slice A1 n1 c1], .agg #[.int .u64 e, .slice A2 (K + m : Nat) c2]] w
      (TimeOut w (applyK K a l1 e l2)) := by
  have hm := h2.le
  have hc := h2.cap
  obtain ⟨ha0, ha1⟩ := ha
  obtain ⟨he0, he1⟩ := he
  have hs : Sl w 1 A2 K c2 (wds (l2.take K)) := by
    have := h2.take (k := K) (by omega)
    rwa [Nat.mul_one, wds_take] at this
  go_enter Tryd.func8, Tryd.ntmps8
  go_upto_region 4 with fail
  obtain ⟨w0, hw0⟩ : ∃ w0, w0 = ((w.alloc (Obj.cells #[Value.int IntKind.i64 m, Value.int IntKind.u32 a, Value.slice A1 n1 c1] 25)).alloc (Obj.cells #[Value.int IntKind.u64 e, Value.slice A2 (K + m) c2] 28)).alloc
      (Obj.cells #[Value.int IntKind.u64 0, Value.slice none 0 0] 28) := ⟨_, rfl⟩
  have x0 : Ext w w0 := hw0 ▸ (((Ext.refl w).alloc _).alloc _).alloc _
  have s0 : w0.heap.size = w.heap.size + 3 := by subst hw0; simp
  have p0 : Bk w0 w.heap.size 25 #[Value.int IntKind.i64 m, Value.int IntKind.u32 a, Value.slice A1 n1 c1] := by subst hw0; exact ((Bk.new _ _ _).alloc _).alloc _
  have t0 : Bk w0 (w.heap.size + 1) 28 #[Value.int IntKind.u64 e, Value.slice A2 (K + m) c2] := by subst hw0; exact (Bk.at (by simp)).alloc _
  have r0 : Bk w0 (w.heap.size + 1 + 1) 28 #[Value.int IntKind.u64 0, Value.slice none 0 0] := by subst hw0; exact Bk.at (by simp)
  rw [← hw0]
  clear hw0
  have S0 := Lib.hid s0
  clear s0
  go_cut [7] (fun s7 wx => ∃ (g : Nat) (A : Option Addr) (c : Nat), s7 = .pointer (some ⟨g, 0, none⟩) ∧ Ext w0 wx ∧ Bk wx g 28 #[.int .u64 e, .slice A K c] ∧ Own wx (w.heap.size + 3) 22 1 A K c (wds (l2.take K)) ∧ blk A c ≠ some g ∧ w.heap.size + 3 ≤ g)
  case first =>
    have X : Ext w0 w0.drew := (Ext.refl w0).drew
    have q1 : ∀ y : Xt w0.drew, y.W.cell? ⟨w.heap.size + 1, 0, none⟩ = some (.int .u64 e) := fun y => (t0.ext (X.trans y.x)).cell 0
    have q2 : ∀ y : Xt w0.drew, y.W.cell? ⟨w.heap.size + 1, 1, none⟩ = some (.slice A2 (K + m) c2) := fun y => (t0.ext (X.trans y.x)).cell 1
    refine wp_region_ord [0,1,0,4,0,28,60,127,0,511] (.flo [0,1,2,3,4,5] (.both 6 8 (.flo [7] (.ext 8 (.one 9 (.fin)))) (.ext 6 (.flo [7] (.one 9 (.fin)))))) (by kernel_rfl) (by kernel_rfl) (by intro _ _ d _ _ h; cases d <;> exact h) ?_
    (refine ord_flo (pick_cons rfl (pick_cons rfl (pick_cons rfl (pick_cons rfl (pick_cons rfl (pick_cons rfl pick_nil)))))) ?_; (repeat (go_big_quiet_step (fail))); refine wpQuiet_nil ?_; show ordWalk _ _ _ _ _ _ _)
    refine ord_both (pick_cons rfl pick_nil) (pick_cons rfl pick_nil) ?_ ?_ <;> intro K_ hK_
    · go_wp2_with (refine (clone_words A2 K c2 (wds (l2.take K)) _ (hs.ext (x0.trans X)) (wds_one _) (by omega)).mono ?_; rintro r w1 ⟨A, c, rfl, ho, x1⟩)
      refine ordNext.mk x1 ?_
      (refine ord_flo (pick_cons rfl pick_nil) ?_; (repeat (go_big_quiet_step (fail))); refine wpQuiet_nil ?_; show ordWalk _ _ _ _ _ _ _)
      refine ord_ext (pick_cons rfl pick_nil) ?_; intro K_ hK_
      go_wp2
      refine ordNext.mk ((Ext.refl _).alloc _) ?_
      refine ord_one (pick_cons rfl pick_nil) ?_; intro K_ hK_
      go_wp2
      refine ord_fin ?_
      go_wp2_with fail
      go_meet
      case rel =>
        have := x1.size
        have := X.size
        refine ⟨w1.heap.size, A, c, rfl, (X.trans x1).alloc _, Bk.new _ _ _, ?_, fun h => by have := (ho.lt _ h).2; omega, by rw [S0.out] at *; omega⟩
        exact ((ho.mono (by have := S0.out; simp; omega)).alloc _)
    · go_wp2
      refine ordNext.mk ((Ext.refl _).alloc _) ?_
      refine ord_ext (pick_cons rfl pick_nil) ?_; intro K_ hK_
      go_wp2_with (refine (clone_words A2 K c2 (wds (l2.take K)) _ (hs.ext ((x0.trans X).alloc _)) (wds_one _) (by omega)).mono ?_; rintro r w1 ⟨A, c, rfl, ho, x1⟩; have bx : Bk w1 w0.heap.size 28 #[.int .u64 0, .slice none 0 0] := Bk.ext (Bk.at (by simp)) x1)
      refine ordNext.mk x1 ?_
      (refine ord_flo (pick_cons rfl pick_nil) ?_; (repeat (go_big_quiet_step (fail))); refine wpQuiet_nil ?_; show ordWalk _ _ _ _ _ _ _)
      refine ord_one (pick_cons rfl pick_nil) ?_; intro K_ hK_
      have y0 := bx.cell 0
      have y1 := bx.cell 1
      have y2 := bx.free 0
      have y3 := bx.free 1
      go_wp2
      refine ord_fin ?_
      go_wp2_with fail
      go_meet
      case rel =>
        have h1s := x1.size
        have h0s := S0.out
        refine ⟨w0.heap.size, A, c, rfl, (((X.alloc _).trans x1).set (Nat.le_refl _) _).set (Nat.le_refl _) _, (bx.set 0 _).set 1 _, ?_, ho.ne (by simp), by omega⟩
        exact (((ho.mono (by simp; omega)).far (ho.ne (by simp)) _).far (ho.ne (by simp)) _)
  case rest =>
    obtain ⟨g, A, c, rfl, xc, bx, ho, hne, hg⟩ := hcut
    have x00 := x0.trans xc
    have pc := p0.ext xc
    have rc := r0.ext xc
    have k1 : wc.cell? ⟨w.heap.size, 1, none⟩ = some (.int .u32 a) := pc.cell 1
    have k2 : wc.cell? ⟨w.heap.size, 2, none⟩ = some (.slice A1 n1 c1) := pc.cell 2
    have k3 : wc.cell? ⟨g, 0, none⟩ = some (.int .u64 e) := bx.cell 0
    have k4 : wc.cell? ⟨g, 1, none⟩ = some (.slice A K c) := bx.cell 1
    have k5 := bx.free 0
    have k6 := bx.free 1
    have k7 : wc.cell? ⟨w.heap.size + 1 + 1, 0, none⟩ = some (.int .u64 0) := rc.cell 0
    have k8 : wc.cell? ⟨w.heap.size + 1 + 1, 1, none⟩ = some (.slice none 0 0) := rc.cell 1
    have k9 := rc.free 0
    have k10 := rc.free 1
    have g1 : ¬ g = w.heap.size := by omega
    have g2 : ¬ g = w.heap.size + 1 + 1 := by omega
    have g3 : ¬ w.heap.size = g := by omega
    have g4 : ¬ w.heap.size + 1 + 1 = g := by omega
    rcases Nat.eq_zero_or_pos K with hK | hK
    · subst hK
      by_cases hov : 18446744073709551615 - a < e
      · have A0 : applyK 0 a l1 e l2 = ((0, []), 41) := by simp [applyK, hov]
        have AH := Lib.hid A0
        clear A0
        go_wp2
        refine bodyPost_ret (v := .tuple #[.agg #[.int .u64 0, .slice none 0 0], .int .u16 41]) (by simp only [results, Tryd.results8]; go_simp) rfl ?_
        rw [AH.out]
        refine ⟨none, 0, rfl, Own.nil _ _ _ _, ?_⟩
        exact ((x00.set (by simp; omega) _).set (by simp; omega) _).set (by simp; omega) _
      · by_cases hlong : 3 < n1
        · have A0 : applyK 0 a l1 e l2 = ((0, []), 40) := by simp [applyK, hov, h1.wlen, hlong]
          have AH := Lib.hid A0
          clear A0
          go_wp2
          refine bodyPost_ret (v := .tuple #[.agg #[.int .u64 0, .slice none 0 0], .int .u16 40]) (by simp only [results, Tryd.results8]; go_simp) rfl ?_
          rw [AH.out]
          refine ⟨none, 0, rfl, Own.nil _ _ _ _, ?_⟩
          exact ((x00.set (by simp; omega) _).set (by simp; omega) _).set (by simp; omega) _
        · have A0 : applyK 0 a l1 e l2 = ((e + a, l1), 0) := by simp [applyK, hov, h1.wlen, hlong]
          have AH := Lib.hid A0
          clear A0
          go_wp2_with (at_builtin; refine wpList_append_gen _ elemWords (w.heap.size + 3) _ _ (by rfl) (by rfl) A 0 c _ (by rfl) (ho.far hne _) A1 n1 c1 (wds l1) (by rfl) (h1.ext (x00.set (by simp; omega) _)) (wds_one _) (by omega) (by omega) (by have := x00.size; have := bx.lt; simp; omega) ?_; intro A' c' w1 ho1 hg1 hk1; have bx1 := Bk.grown (by exact bx.set 0 _) hg1 hne; have z3 : w1.cell? ⟨g, 0, none⟩ = some (.int .u64 (e + a)) := bx1.cell 0; have z4 : w1.cell? ⟨g, 1, none⟩ = some (.slice A 0 c) := bx1.cell 1; have z5 := bx1.free 1; have z6 := bx1.free 0; have rc1 := Bk.grown (by exact rc.far (by simp; omega) _) hg1 (ho.ne (by omega)); have z7 : w1.cell? ⟨w.heap.size + 1 + 1, 0, none⟩ = some (.int .u64 0) := rc1.cell 0; have z8 : w1.cell? ⟨w.heap.size + 1 + 1, 1, none⟩ = some (.slice none 0 0) := rc1.cell 1; have z9 := rc1.free 0; have z10 := rc1.free 1)
          refine bodyPost_ret (v := .tuple #[.agg #[.int .u64 (e + a), .slice A' n1 c'], .int .u16 0]) (by simp only [results, Tryd.results8]; go_simp) rfl ?_
          rw [AH.out]
          have hl1 := h1.wlen
          subst hl1
          refine ⟨A', c', rfl, ?_, ?_⟩
          · have e0 : wds (List.take 0 l2) ++ wds l1 = wds l1 := by simp [wds]
            rw [e0, Nat.zero_add] at ho1
            have hng : blk A' c' ≠ some g := by
              rcases hk1 with e | e <;> rw [e]
              · exact hne
              · intro h; have := bx.lt; simp at h; omega
            exact (((ho1.mono (by omega)).far hng _).far (ho1.ne (by simp)) _).far (ho1.ne (by simp)) _
          · have y1 : Ext w w1 := (x00.set (p := ⟨g, 0, none⟩) (by simp; omega) _).grown hg1 (fun k hk => by have := ho.lt k hk; omega)
            exact ((y1.set (by simp; omega) _).set (by simp; omega) _).set (by simp; omega) _
    · obtain ⟨gA, rfl, hbA, hgA, hgA2, hcA, hfA⟩ := ho.form hK
      have hl2 : K ≤ l2.length := by have := h2.wlen; omega
      have e1 : (K : Int) - 1 = ((K - 1 : Nat) : Int) := by omega
      have i0 : (0 : Int) ≤ (K : Int) - 1 := by omega
      have i1 : (K : Int) - 1 < (K : Int) := by omega
      have i2 : IntKind.i64.wrap ((K : Int) - 1) = (K : Int) - 1 := IntWalk.i64_in _ (by omega)
      have i3 : ((K : Int) - 1).toNat = K - 1 := by omega
      have kz : ((K : Int) == 0) = false := by simp; omega
      have cA : wc.cell? ⟨gA, K - 1, none⟩ = some (.int .u32 (l2.getD (K - 1) 0)) := hcA _ _ (by
        simp only [wds, List.getElem?_map, List.getElem?_take, if_pos (show K - 1 < K by omega), List.getD_eq_getElem?_getD, List.getElem?_eq_getElem (show K - 1 < l2.length by omega)]
        rfl)
      have fA := hfA (K - 1)
      have gne : ¬ gA = g := fun e => hne (by rw [hbA, e])
      have gne' : ¬ g = gA := fun e => gne e.symm
      have g5 : ¬ gA = w.heap.size + 1 + 1 := by omega
      have g6 : ¬ w.heap.size + 1 + 1 = gA := by omega
      have uu := u2.getD (K - 1)
      clear hcA hfA e1
      by_cases hov : 4294967295 - a < l2.getD (K - 1) 0
      · have A0 : applyK K a l1 e l2 = ((0, []), 41) := by unfold applyK; rw [if_neg (by omega), if_pos hov]
        have AH := Lib.hid A0
        clear A0
        go_upto_region 10 with fail
        have X : Ext wc wc.drew := (Ext.refl wc).drew
        have d1 : ∀ y : Xt wc.drew, y.W.cell? ⟨w.heap.size, 1, none⟩ = some (.int .u32 a) := fun y => y.x.cell (X.cell k1)
        have d4 : ∀ y : Xt wc.drew, y.W.cell? ⟨g, 1, none⟩ = some (.slice (some ⟨gA, 0, none⟩) K c) := fun y => y.x.cell (X.cell k4)
        have dA : ∀ y : Xt wc.drew, y.W.cell? ⟨gA, K - 1, none⟩ = some (.int .u32 (l2.getD (K - 1) 0)) := fun y => y.x.cell (X.cell cA)
        refine wp_region_ord [0,1,0,4,0,16,0,64,240,496,0,1024,4080,8176,16368,16368,32767,98303,262143] (.flo [0,1,2,3,4,5,6,7,8,9,10,11] (.ext 12 (.flo [13,14,16] (.pur [15] (.one 17 (.flo [18] (.fin))))))) (by kernel_rfl) (by kernel_rfl) (by intro _ _ d _ _ h; cases d <;> exact h) ?_
        (refine ord_flo (pick_cons rfl (pick_cons rfl (pick_cons rfl (pick_cons rfl (pick_cons rfl (pick_cons rfl (pick_cons rfl (pick_cons rfl (pick_cons rfl (pick_cons rfl (pick_cons rfl (pick_cons rfl pick_nil)))))))))))) ?_; (repeat (go_big_quiet_step (fail))); refine wpQuiet_nil ?_; show ordWalk _ _ _ _ _ _ _)
        refine ord_ext (pick_cons rfl pick_nil) ?_; intro K_ hK_
        go_wp2_with (refine (sum_over _ _ _ uu ⟨ha0, ha1⟩ hov).mono ?_; rintro r w1 ⟨rfl, rfl⟩)
        refine ordNext.mk (Ext.refl _) ?_
        (refine ord_flo (pick_cons rfl (pick_cons rfl (pick_cons rfl pick_nil))) ?_; (repeat (go_big_quiet_step (fail))); refine wpQuiet_nil ?_; show ordWalk _ _ _ _ _ _ _)
        (refine ord_pur (pick_cons rfl pick_nil) ?_; (repeat (go_big_quiet_step (fail))); refine wpQuiet_nil ?_; show ordWalk _ _ _ _ _ _ _)
        refine ord_one (pick_cons rfl pick_nil) ?_; intro K_ hK_
        go_wp2
        (refine ord_flo (pick_cons rfl pick_nil) ?_; (repeat (go_big_quiet_step (fail))); refine wpQuiet_nil ?_; show ordWalk _ _ _ _ _ _ _)
        refine ord_fin ?_
        go_wp2
        refine bodyPost_ret (v := .tuple #[.agg #[.int .u64 0, .slice none 0 0], .int .u16 41]) (by simp only [results, Tryd.results8]; go_simp) rfl ?_
        rw [AH.out]
        refine ⟨none, 0, rfl, Own.nil _ _ _ _, ?_⟩
        (repeat' (first | with_reducible exact x00 | with_reducible refine Ext.drew ?_ | with_reducible refine Ext.drewN ?_ _ | with_reducible refine Ext.alloc ?_ _ | with_reducible refine Ext.set ?_ ?_ _ | omega | (simp; done) | (simp; omega)))
      · have LL : l2.getD (K - 1) 0 + a ≤ 4294967295 := by omega
        by_cases hlong : 3 < K + n1
        · have A0 : applyK K a l1 e l2 = ((0, []), 40) := by unfold applyK; rw [if_neg (by omega), if_neg hov, if_pos (by rw [h1.wlen]; omega)]
          have AH := Lib.hid A0
          clear A0
          go_upto_region 10 with fail
          have X : Ext wc wc.drew := (Ext.refl wc).drew
          have d1 : ∀ y : Xt wc.drew, y.W.cell? ⟨w.heap.size, 1, none⟩ = some (.int .u32 a) := fun y => y.x.cell (X.cell k1)
          have d4 : ∀ y : Xt wc.drew, y.W.cell? ⟨g, 1, none⟩ = some (.slice (some ⟨gA, 0, none⟩) K c) := fun y => y.x.cell (X.cell k4)
          have dA : ∀ y : Xt wc.drew, y.W.cell? ⟨gA, K - 1, none⟩ = some (.int .u32 (l2.getD (K - 1) 0)) := fun y => y.x.cell (X.cell cA)
          refine wp_region_ord [0,1,0,4,0,16,0,64,240,496,0,1024,4080,8176,16368,16368,32767,98303,262143] (.flo [0,1,2,3,4,5,6,7,8,9,10,11] (.ext 12 (.flo [13,14,16] (.pur [15] (.one 17 (.flo [18] (.fin))))))) (by kernel_rfl) (by kernel_rfl) (by intro _ _ d _ _ h; cases d <;> exact h) ?_
          (refine ord_flo (pick_cons rfl (pick_cons rfl (pick_cons rfl (pick_cons rfl (pick_cons rfl (pick_cons rfl (pick_cons rfl (pick_cons rfl (pick_cons rfl (pick_cons rfl (pick_cons rfl (pick_cons rfl pick_nil)))))))))))) ?_; (repeat (go_big_quiet_step (fail))); refine wpQuiet_nil ?_; show ordWalk _ _ _ _ _ _ _)
          refine ord_ext (pick_cons rfl pick_nil) ?_; intro K_ hK_
          go_wp2_with (refine (sum_ok _ _ _ uu ⟨ha0, ha1⟩ (by omega)).mono ?_; rintro r w1 ⟨rfl, rfl⟩)
          refine ordNext.mk (Ext.refl _) ?_
          (refine ord_flo (pick_cons rfl (pick_cons rfl (pick_cons rfl pick_nil))) ?_; (repeat (go_big_quiet_step (fail))); refine wpQuiet_nil ?_; show ordWalk _ _ _ _ _ _ _)
          (refine ord_pur (pick_cons rfl pick_nil) ?_; (repeat (go_big_quiet_step (fail))); refine wpQuiet_nil ?_; show ordWalk _ _ _ _ _ _ _)
          refine ord_one (pick_cons rfl pick_nil) ?_; intro K_ hK_
          go_wp2
          (refine ord_flo (pick_cons rfl pick_nil) ?_; (repeat (go_big_quiet_step (fail))); refine wpQuiet_nil ?_; show ordWalk _ _ _ _ _ _ _)
          refine ord_fin ?_
          go_wp2
          refine bodyPost_ret (v := .tuple #[.agg #[.int .u64 0, .slice none 0 0], .int .u16 40]) (by simp only [results, Tryd.results8]; go_simp) rfl ?_
          rw [AH.out]
          refine ⟨none, 0, rfl, Own.nil _ _ _ _, ?_⟩
          (repeat' (first | with_reducible exact x00 | with_reducible refine Ext.drew ?_ | with_reducible refine Ext.drewN ?_ _ | with_reducible refine Ext.alloc ?_ _ | with_reducible refine Ext.set ?_ ?_ _ | omega | (simp; done) | (simp; omega)))
        · have A0 : applyK K a l1 e l2 = ((e, l2.take (K - 1) ++ [l2.getD (K - 1) 0 + a] ++ l1), 0) := by unfold applyK; rw [if_neg (by omega), if_neg hov, if_neg (by rw [h1.wlen]; omega)]
          have AH := Lib.hid A0
          clear A0
          go_upto_region 10 with fail
          have X : Ext wc wc.drew := (Ext.refl wc).drew
          have d1 : ∀ y : Xt wc.drew, y.W.cell? ⟨w.heap.size, 1, none⟩ = some (.int .u32 a) := fun y => y.x.cell (X.cell k1)
          have d4 : ∀ y : Xt wc.drew, y.W.cell? ⟨g, 1, none⟩ = some (.slice (some ⟨gA, 0, none⟩) K c) := fun y => y.x.cell (X.cell k4)
          have dA : ∀ y : Xt wc.drew, y.W.cell? ⟨gA, K - 1, none⟩ = some (.int .u32 (l2.getD (K - 1) 0)) := fun y => y.x.cell (X.cell cA)
          refine wp_region_ord [0,1,0,4,0,16,0,64,240,496,0,1024,4080,8176,16368,16368,32767,98303,262143] (.flo [0,1,2,3,4,5,6,7,8,9,10,11] (.ext 12 (.flo [13,14,16] (.pur [15] (.one 17 (.flo [18] (.fin))))))) (by kernel_rfl) (by kernel_rfl) (by intro _ _ d _ _ h; cases d <;> exact h) ?_
          (refine ord_flo (pick_cons rfl (pick_cons rfl (pick_cons rfl (pick_cons rfl (pick_cons rfl (pick_cons rfl (pick_cons rfl (pick_cons rfl (pick_cons rfl (pick_cons rfl (pick_cons rfl (pick_cons rfl pick_nil)))))))))))) ?_; (repeat (go_big_quiet_step (fail))); refine wpQuiet_nil ?_; show ordWalk _ _ _ _ _ _ _)
          refine ord_ext (pick_cons rfl pick_nil) ?_; intro K_ hK_
          go_wp2_with (refine (sum_ok _ _ _ uu ⟨ha0, ha1⟩ (by omega)).mono ?_; rintro r w1 ⟨rfl, rfl⟩)
          refine ordNext.mk (Ext.refl _) ?_
          (refine ord_flo (pick_cons rfl (pick_cons rfl (pick_cons rfl pick_nil))) ?_; (repeat (go_big_quiet_step (fail))); refine wpQuiet_nil ?_; show ordWalk _ _ _ _ _ _ _)
          (refine ord_pur (pick_cons rfl pick_nil) ?_; (repeat (go_big_quiet_step (fail))); refine wpQuiet_nil ?_; show ordWalk _ _ _ _ _ _ _)
          refine ord_one (pick_cons rfl pick_nil) ?_; intro K_ hK_
          go_wp2
          (refine ord_flo (pick_cons rfl pick_nil) ?_; (repeat (go_big_quiet_step (fail))); refine wpQuiet_nil ?_; show ordWalk _ _ _ _ _ _ _)
          refine ord_fin ?_
          go_wp2_with (at_builtin; refine wpList_append_gen _ elemWords (w.heap.size + 3) _ _ (by rfl) (by rfl) (some ⟨gA, 0, none⟩) K c _ (by rfl) ((ho.put (K - 1) _).drew) A1 n1 c1 (wds l1) (by rfl) (h1.ext (Ext.drew (x00.set (by simp; omega) _))) (wds_one _) (by omega) (by omega) (by have := x00.size; have := bx.lt; simp; omega) ?_; intro A' c' w1 ho1 hg1 hk1; have bx1 := Bk.grown (by exact (bx.far (by simpa using gne') _).drew) hg1 hne; have z3 : w1.cell? ⟨g, 0, none⟩ = some (.int .u64 e) := bx1.cell 0; have z4 : w1.cell? ⟨g, 1, none⟩ = some (.slice (some ⟨gA, 0, none⟩) K c) := bx1.cell 1; have z5 := bx1.free 1; have z6 := bx1.free 0; have rc1 := Bk.grown (by exact (rc.far (by simpa using g6) _).drew) hg1 (ho.ne (by omega)); have z7 : w1.cell? ⟨w.heap.size + 1 + 1, 0, none⟩ = some (.int .u64 0) := rc1.cell 0; have z8 : w1.cell? ⟨w.heap.size + 1 + 1, 1, none⟩ = some (.slice none 0 0) := rc1.cell 1; have z9 := rc1.free 0; have z10 := rc1.free 1)
          refine bodyPost_ret (v := .tuple #[.agg #[.int .u64 e, .slice A' (K + n1) c'], .int .u16 0]) (by simp only [results, Tryd.results8]; go_simp) rfl ?_
          rw [AH.out]
          have hl1 := h1.wlen
          have e0 : (l2.take (K - 1) ++ [l2.getD (K - 1) 0 + a] ++ l1).length = K + n1 := by simp; omega
          refine ⟨A', c', by simp only [e0], ?_, ?_⟩
          · have e2 : (wds (l2.take K)).set (K - 1) (.int .u32 (l2[K - 1]?.getD 0 + a)) ++ wds l1 = wds (l2.take (K - 1) ++ [l2.getD (K - 1) 0 + a] ++ l1) := by
              rw [← List.getD_eq_getElem?_getD, wds_set_last _ _ _ hK hl2, wds_append]
            rw [e2] at ho1
            have hng : blk A' c' ≠ some g := by
              rcases hk1 with e | e <;> rw [e]
              · exact hne
              · intro h; have := bx.lt; simp at h; omega
            simp only [e0]
            exact (((ho1.mono (by omega)).far hng _).far (ho1.ne (by simp)) _).far (ho1.ne (by simp)) _
          · have y1 : Ext w w1 := (Ext.drew (x00.set (p := ⟨gA, K - 1, none⟩) (by simp; omega) _)).grown hg1 (fun k hk => by have := ho.lt k hk; omega)
            (repeat' (first | with_reducible exact y1 | with_reducible refine Ext.drew ?_ | with_reducible refine Ext.drewN ?_ _ | with_reducible refine Ext.alloc ?_ _ | with_reducible refine Ext.set ?_ ?_ _ | omega | (simp; done) | (simp; omega)))

theorem apply_any (L a : Int) (A1 A2 : Option Addr) (n1 n2 c1 c2 : Nat) (l1 l2 : List Int) (e : Int) (w : World) (h1 : Sl w 1 A1 n1 c1 (wds l1)) (h2 : Sl w 1 A2 n2 c2 (wds l2)) (u2 : U32 l2)
    (ha : 0 ≤ a ∧ a ≤ 4294967295) (he : 0 ≤ e ∧ e ≤ 18446744073709551615) (hL : L ≤ 9223372036854775807) (hn1 : n1 ≤ 1000000) (hn2 : n2 ≤ 1000000) :
    Calls Tryd.prog 8 #[.agg #[.int .i64 L, .int .u32 a, .slice A1 n1 c1], .agg #[.int .u64 e, .slice A2 n2 c2]] w (TimeOut w (applyT L a l1 e l2)) := by
  have hl2 := h2.wlen
  have out : ∀ r w', (r = .returned (.tuple #[.agg #[.int .u64 0, .slice none 0 0], .int .u16 40]) ∧ Ext w w') → applyT L a l1 e l2 = ((0, []), 40) → TimeOut w (applyT L a l1 e l2) r w' := by
    rintro r w' ⟨rfl, hx⟩ h
    rw [h]
    exact ⟨none, 0, rfl, Own.nil _ _ _ _, hx⟩
  by_cases hneg : L < 0
  · exact (apply_neg L a A1 A2 n1 n2 c1 c2 e w hneg).mono fun r w' h => out r w' h (by unfold applyT; rw [if_pos (.inl hneg)])
  · by_cases hless : (n2 : Int) < L
    · exact (apply_less L a A1 A2 n1 n2 c1 c2 e w (by omega) (by omega) hL hless).mono fun r w' h => out r w' h (by unfold applyT; rw [if_pos (.inr (by rw [hl2]; exact hless))])
    · obtain ⟨m, rfl⟩ := Int.eq_ofNat_of_zero_le (show 0 ≤ L by omega)
      obtain ⟨K, rfl⟩ : ∃ K, n2 = K + m := ⟨n2 - m, by omega⟩
      have e1 : applyT (m : Int) a l1 e l2 = applyK K a l1 e l2 := by
        unfold applyT
        rw [if_neg (by omega)]
        congr 1
        simp; omega
      rw [e1]
      exact apply_main K m a A1 A2 n1 c1 c2 l1 l2 e w h1 h2 u2 ha he hn1 hn2
end Go.Proofs.YtilbfmfioopiiaaDoor
