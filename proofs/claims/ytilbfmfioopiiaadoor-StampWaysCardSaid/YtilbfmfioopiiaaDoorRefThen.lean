/- penstockref04.Then: what it answers. Conditions: the slices are as readings give them, and not too long. -/
import Derived.Test.YtilbfmfioopiiaaDoorThen
import Derived.Test.YtilbfmfioopiiaaDoorTwo
namespace Go.Proofs.YtilbfmfioopiiaaDoor
open Go.RowKit

/-- the form in which the document's Then answers -/
def RWayOut (w : World) (r : Way × Int) (e : Ending) (w' : World) : Prop :=
  ∃ A c, e = .returned (.tuple #[.agg #[.int .i64 r.1.leave, .int .u32 r.1.add, .slice A r.1.enter.length c], .int .i64 r.2]) ∧ Own w' w.heap.size 22 1 A r.1.enter.length c (wds r.1.enter) ∧ Ext w w'

set_option maxRecDepth 100000 in
set_option maxHeartbeats 400000 in
theorem rsum_over (x y : Int) (w : World) (hx : 0 ≤ x ∧ x ≤ 4294967295) (hy : 0 ≤ y ∧ y ≤ 4294967295) (h : 4294967295 - y < x) :
    Calls Tryd.prog 40 #[.int .u32 x, .int .u32 y] w fun e w' => e = .returned (.tuple #[.int .u32 0, .int .i64 41]) ∧ w = w' := by
  obtain ⟨hx0, hx1⟩ := hx
  obtain ⟨hy0, hy1⟩ := hy
  have e1 : IntKind.u64.wrap x = x := by rw [IntKind.wrap_u64]; omega
  have e2 : IntKind.u64.wrap y = y := by rw [IntKind.wrap_u64]; omega
  have e3 : IntKind.u64.wrap (x + y) = x + y := by rw [IntKind.wrap_u64]; omega
  go_enter Tryd.func40, Tryd.ntmps40
  go_wp2
  go_ret2
  exact ⟨rfl, rfl⟩
set_option maxRecDepth 100000 in
set_option maxHeartbeats 400000 in
theorem rsum_ok (x y : Int) (w : World) (hx : 0 ≤ x ∧ x ≤ 4294967295) (hy : 0 ≤ y ∧ y ≤ 4294967295) (h : x ≤ 4294967295 - y) :
    Calls Tryd.prog 40 #[.int .u32 x, .int .u32 y] w fun e w' => e = .returned (.tuple #[.int .u32 (x + y), .int .i64 0]) ∧ w = w' := by
  obtain ⟨hx0, hx1⟩ := hx
  obtain ⟨hy0, hy1⟩ := hy
  have e1 : IntKind.u64.wrap x = x := by rw [IntKind.wrap_u64]; omega
  have e2 : IntKind.u64.wrap y = y := by rw [IntKind.wrap_u64]; omega
  have e3 : IntKind.u64.wrap (x + y) = x + y := by rw [IntKind.wrap_u64]; omega
  have e4 : IntKind.u32.wrap (x + y) = x + y := by rw [IntKind.wrap_u32]; omega
  go_enter Tryd.func40, Tryd.ntmps40
  go_wp2
  go_ret2
  exact ⟨rfl, rfl⟩
theorem rwayNone {w w' : World} {n : Int} (x : Ext w w') : RWayOut w (⟨0, 0, []⟩, n) (.returned (.tuple #[.agg #[.int .i64 0, .int .u32 0, .slice none 0 0], .int .i64 n])) w' := ⟨Option.none, 0, rfl, Own.nil _ _ _ _, x⟩

set_option maxRecDepth 100000 in
set_option maxHeartbeats 400000 in
theorem rthen_neg (La aa Lb ab : Int) (A1 A2 : Option Addr) (n1 n2 c1 c2 : Nat) (w : World) (hL : Lb < 0) :
    Calls Tryd.prog 14 #[.agg #[.int .i64 La, .int .u32 aa, .slice A1 n1 c1], .agg #[.int .i64 Lb, .int .u32 ab, .slice A2 n2 c2]] w (RWayOut w (⟨0, 0, []⟩, 40)) := by
  go_enter Tryd.func14, Tryd.ntmps14
  go_wp2
  refine bodyPost_ret (v := .tuple #[.agg #[.int .i64 0, .int .u32 0, .slice none 0 0], .int .i64 40]) (by simp only [results, Tryd.results14]; go_simp) rfl ?_
  exact rwayNone ((((Ext.refl w).alloc _).alloc _).alloc _ |>.alloc _)
set_option maxRecDepth 100000 in
set_option maxHeartbeats 2000000 in
theorem rthen_eq (La aa ab : Int) (A1 A2 : Option Addr) (n1 n2 c1 c2 : Nat) (l2 : List Int) (w : World) (h2 : Sl w 1 A2 n2 c2 (wds l2)) (haa : 0 ≤ aa ∧ aa ≤ 4294967295) (hab : 0 ≤ ab ∧ ab ≤ 4294967295) (hn2 : n2 ≤ 1000000) :
    Calls Tryd.prog 14 #[.agg #[.int .i64 La, .int .u32 aa, .slice A1 n1 c1], .agg #[.int .i64 n1, .int .u32 ab, .slice A2 n2 c2]] w
      (RWayOut w (if 4294967295 - ab < aa then (⟨0, 0, []⟩, 41) else (⟨La, aa + ab, l2⟩, 0))) := by
  have q0 : ((n1 : Int) == (n1 : Int)) = true := by simp
  by_cases hov : 4294967295 - ab < aa
  · rw [if_pos hov]
    go_enter Tryd.func14, Tryd.ntmps14
    go_wp2_with (refine (rsum_over _ _ _ haa hab hov).mono ?_; rintro r w1 ⟨rfl, rfl⟩)
    refine bodyPost_ret (v := .tuple #[.agg #[.int .i64 0, .int .u32 0, .slice none 0 0], .int .i64 41]) (by simp only [results, Tryd.results14]; go_simp) rfl ?_
    exact rwayNone ((((Ext.refl w).alloc _).alloc _).alloc _ |>.alloc _)
  · rw [if_neg hov]
    have WH := Lib.hid (show ∀ (r : Ending) (w' : World), RWayOut w (⟨La, aa + ab, l2⟩, 0) r w' → RWayOut w (⟨La, aa + ab, l2⟩, 0) r w' from fun _ _ h => h)
    go_enter Tryd.func14, Tryd.ntmps14
    go_upto_region 6 with fail
    obtain ⟨w0, hw0⟩ : ∃ w0, w0 = (((w.alloc (Obj.cells #[Value.int IntKind.i64 La, Value.int IntKind.u32 aa, Value.slice A1 n1 c1] 25)).alloc (Obj.cells #[Value.int IntKind.i64 n1, Value.int IntKind.u32 ab, Value.slice A2 n2 c2] 25)).alloc
        (Obj.cells #[Value.int IntKind.i64 0, Value.int IntKind.u32 0, Value.slice none 0 0] 25)).alloc (Obj.cells #[Value.int IntKind.i64 La, Value.int IntKind.u32 aa, Value.slice none 0 0] 25) := ⟨_, rfl⟩
    have x0 : Ext w w0 := hw0 ▸ ((((Ext.refl w).alloc _).alloc _).alloc _).alloc _
    have s0 : w0.heap.size = w.heap.size + 4 := by subst hw0; simp
    have a0 : Bk w0 w.heap.size 25 #[Value.int IntKind.i64 La, Value.int IntKind.u32 aa, Value.slice A1 n1 c1] := by subst hw0; exact (((Bk.new _ _ _).alloc _).alloc _).alloc _
    have b0 : Bk w0 (w.heap.size + 1) 25 #[Value.int IntKind.i64 n1, Value.int IntKind.u32 ab, Value.slice A2 n2 c2] := by subst hw0; exact ((Bk.at (by simp)).alloc _).alloc _
    have r0 : Bk w0 (w.heap.size + 1 + 1) 25 #[Value.int IntKind.i64 0, Value.int IntKind.u32 0, Value.slice none 0 0] := by subst hw0; exact (Bk.at (by simp)).alloc _
    have y0 : Bk w0 (w.heap.size + 1 + 1 + 1) 25 #[Value.int IntKind.i64 La, Value.int IntKind.u32 aa, Value.slice none 0 0] := by subst hw0; exact Bk.at (by simp)
    rw [← hw0]
    clear hw0
    have a1 : w0.cell? ⟨w.heap.size, 0, none⟩ = some (.int .i64 La) := a0.cell 0
    have a2 : w0.cell? ⟨w.heap.size, 1, none⟩ = some (.int .u32 aa) := a0.cell 1
    have a3 : w0.cell? ⟨w.heap.size, 2, none⟩ = some (.slice A1 n1 c1) := a0.cell 2
    have b1 : w0.cell? ⟨w.heap.size + 1, 0, none⟩ = some (.int .i64 n1) := b0.cell 0
    have b2 : w0.cell? ⟨w.heap.size + 1, 1, none⟩ = some (.int .u32 ab) := b0.cell 1
    have b3 : w0.cell? ⟨w.heap.size + 1, 2, none⟩ = some (.slice A2 n2 c2) := b0.cell 2
    have r1 : w0.cell? ⟨w.heap.size + 1 + 1, 0, none⟩ = some (.int .i64 0) := r0.cell 0
    have r2 : w0.cell? ⟨w.heap.size + 1 + 1, 1, none⟩ = some (.int .u32 0) := r0.cell 1
    have r3 : w0.cell? ⟨w.heap.size + 1 + 1, 2, none⟩ = some (.slice none 0 0) := r0.cell 2
    have r4 := r0.free 0
    have r5 := r0.free 1
    have r6 := r0.free 2
    have y1 : w0.cell? ⟨w.heap.size + 1 + 1 + 1, 0, none⟩ = some (.int .i64 La) := y0.cell 0
    have y2 : w0.cell? ⟨w.heap.size + 1 + 1 + 1, 1, none⟩ = some (.int .u32 aa) := y0.cell 1
    have y3 : w0.cell? ⟨w.heap.size + 1 + 1 + 1, 2, none⟩ = some (.slice none 0 0) := y0.cell 2
    have y4 := y0.free 0
    have y5 := y0.free 1
    have y6 := y0.free 2
    go_wp2_with (first | (go_at_call 40; refine (rsum_ok _ _ _ haa hab (by omega)).mono ?_; rintro r w1 ⟨rfl, rfl⟩) | (at_builtin; refine wpList_append_gen _ elemWords (w.heap.size + 4) _ _ (by rfl) (by rfl) Option.none 0 0 [] (by rfl) (Own.nil _ _ _ _) A2 n2 c2 (wds l2) (by rfl) (h2.ext (x0.set (by simp; omega) _)) (wds_one _) (by omega) (by omega) (by simp; omega) ?_; intro A' c' w1 ho1 hg1 hk1; have yy := Bk.grown (by exact y0.set 1 _) hg1 (by simp [blk]); have z1 : w1.cell? ⟨w.heap.size + 1 + 1 + 1, 0, none⟩ = some (.int .i64 (La)) := yy.cell 0; have z2 : w1.cell? ⟨w.heap.size + 1 + 1 + 1, 1, none⟩ = some (.int .u32 (aa + ab)) := yy.cell 1; have z3 : w1.cell? ⟨w.heap.size + 1 + 1 + 1, 2, none⟩ = some (.slice none 0 0) := yy.cell 2; have z4 := yy.free 2; have rr := Bk.grown (by exact r0.far (by simp) _) hg1 (by simp [blk]); have u1 : w1.cell? ⟨w.heap.size + 1 + 1, 0, none⟩ = some (.int .i64 0) := rr.cell 0; have u2 : w1.cell? ⟨w.heap.size + 1 + 1, 1, none⟩ = some (.int .u32 0) := rr.cell 1; have u3 : w1.cell? ⟨w.heap.size + 1 + 1, 2, none⟩ = some (.slice none 0 0) := rr.cell 2; have u4 := rr.free 0; have u5 := rr.free 1; have u6 := rr.free 2))
    refine bodyPost_ret (v := .tuple #[.agg #[.int .i64 La, .int .u32 (aa + ab), .slice A' n2 c'], .int .i64 0]) (by simp only [results, Tryd.results14]; go_simp) rfl ?_
    have hl := h2.wlen
    subst hl
    refine ⟨A', c', rfl, ?_, ?_⟩
    · rw [List.nil_append, Nat.zero_add] at ho1
      have hx : ∀ k, k < w.heap.size + 4 → blk A' c' ≠ some k := fun k hk => ho1.ne hk
      refine Own.far ?_ (hx _ (by simp)) _
      refine Own.far ?_ (hx _ (by simp)) _
      refine Own.far ?_ (hx _ (by simp)) _
      exact Own.far (ho1.mono (by omega)) (hx _ (by simp)) _
    · have e1 : Ext w w1 := (x0.set (p := ⟨w.heap.size + 1 + 1 + 1, 1, none⟩) (by simp; omega) _).grown hg1 (fun k hk => by simp [blk] at hk)
      (repeat' (first | with_reducible exact e1 | with_reducible refine Ext.drew ?_ | with_reducible refine Ext.drewN ?_ _ | with_reducible refine Ext.alloc ?_ _ | with_reducible refine Ext.set ?_ ?_ _ | omega | (simp; done) | (simp; omega)))

set_option maxRecDepth 100000 in
set_option maxHeartbeats 4000000 in
theorem rthen_in (K m : Nat) (hK : 0 < K) (La aa ab : Int) (A1 A2 : Option Addr) (n2 c1 c2 : Nat) (l1 l2 : List Int) (w : World) (h1 : Sl w 1 A1 (K + m) c1 (wds l1)) (h2 : Sl w 1 A2 n2 c2 (wds l2)) (u1 : U32 l1)
    (hab : 0 ≤ ab ∧ ab ≤ 4294967295) (hn1 : K + m ≤ 1000000) (hn2 : n2 ≤ 1000000) :
    Calls Tryd.prog 14 #[.agg #[.int .i64 La, .int .u32 aa, .slice A1 (K + m : Nat) c1], .agg #[.int .i64 m, .int .u32 ab, .slice A2 n2 c2]] w
      (RWayOut w (if 4294967295 - ab < l1.getD (K - 1) 0 then (⟨0, 0, []⟩, 41) else (⟨La, aa, l1.take (K - 1) ++ [l1.getD (K - 1) 0 + ab] ++ l2⟩, 0))) := by
  have hm := h1.le
  have hc := h1.cap
  have hl1 : K ≤ l1.length := by have := h1.wlen; omega
  obtain ⟨v, hv⟩ : ∃ v, l1.getD (K - 1) 0 = v := ⟨_, rfl⟩
  have uu := u1.getD (K - 1)
  rw [hv] at uu
  have hs : Sl w 1 A1 K c1 (wds (l1.take K)) := by
    have := h1.take (k := K) (by omega)
    rwa [Nat.mul_one, wds_take] at this
  have lt0 : (m : Int) < ((K + m : Nat) : Int) := by omega
  obtain ⟨res, hres⟩ : ∃ res, res = (if 4294967295 - ab < l1.getD (K - 1) 0 then ((⟨0, 0, []⟩, 41) : Way × Int) else (⟨La, aa, l1.take (K - 1) ++ [l1.getD (K - 1) 0 + ab] ++ l2⟩, 0)) := ⟨_, rfl⟩
  rw [← hres]
  rw [hv] at hres
  have HR := Lib.hid hres
  have HVV := Lib.hid hv
  clear hres
  have U1 := Lib.hid u1
  clear u1
  go_enter Tryd.func14, Tryd.ntmps14
  go_upto_region 9 with fail
  obtain ⟨w0, hw0⟩ : ∃ w0, w0 = (((w.alloc (Obj.cells #[Value.int IntKind.i64 La, Value.int IntKind.u32 aa, Value.slice A1 (K + m) c1] 25)).alloc (Obj.cells #[Value.int IntKind.i64 m, Value.int IntKind.u32 ab, Value.slice A2 n2 c2] 25)).alloc
      (Obj.cells #[Value.int IntKind.i64 0, Value.int IntKind.u32 0, Value.slice none 0 0] 25)).alloc (Obj.cells #[Value.int IntKind.i64 La, Value.int IntKind.u32 aa, Value.slice none 0 0] 25) := ⟨_, rfl⟩
  have x0 : Ext w w0 := hw0 ▸ ((((Ext.refl w).alloc _).alloc _).alloc _).alloc _
  have s0 : w0.heap.size = w.heap.size + 4 := by subst hw0; simp
  have a0 : Bk w0 w.heap.size 25 #[Value.int IntKind.i64 La, Value.int IntKind.u32 aa, Value.slice A1 (K + m) c1] := by subst hw0; exact (((Bk.new _ _ _).alloc _).alloc _).alloc _
  have b0 : Bk w0 (w.heap.size + 1) 25 #[Value.int IntKind.i64 m, Value.int IntKind.u32 ab, Value.slice A2 n2 c2] := by subst hw0; exact ((Bk.at (by simp)).alloc _).alloc _
  have r0 : Bk w0 (w.heap.size + 1 + 1) 25 #[Value.int IntKind.i64 0, Value.int IntKind.u32 0, Value.slice none 0 0] := by subst hw0; exact (Bk.at (by simp)).alloc _
  have y0 : Bk w0 (w.heap.size + 1 + 1 + 1) 25 #[Value.int IntKind.i64 La, Value.int IntKind.u32 aa, Value.slice none 0 0] := by subst hw0; exact Bk.at (by simp)
  rw [← hw0]
  clear hw0
  have S0 := Lib.hid s0
  clear s0
  have X : Ext w0 w0.drew := (Ext.refl w0).drew
  have q1 : ∀ y : Xt w0.drew, y.W.cell? ⟨w.heap.size, 2, none⟩ = some (.slice A1 (K + m) c1) := fun y => (a0.ext (X.trans y.x)).cell 2
  have q2 : ∀ y : Xt w0.drew, y.W.cell? ⟨w.heap.size + 1 + 1 + 1, 2, none⟩ = some (.slice none 0 0) := fun y => (y0.ext (X.trans y.x)).cell 2
  have q3 : ∀ y : Xt w0.drew, y.W.cell? ⟨w.heap.size + 1, 0, none⟩ = some (.int .i64 m) := fun y => (b0.ext (X.trans y.x)).cell 0
  have i9 : ((K + m : Nat) : Int) - (m : Int) = (K : Int) := by omega
  have i8 : IntKind.i64.wrap (((K + m : Nat) : Int) - (m : Int)) = (K : Int) := by rw [i9]; exact IntWalk.i64_in _ (by omega)
  have i7 : IntKind.i64.wrap ((K : Int) + (m : Int) - (m : Int)) = (K : Int) := by rw [show (K : Int) + (m : Int) - (m : Int) = (K : Int) by omega]; exact IntWalk.i64_in _ (by omega)
  refine wp_region_ord [0,1,0,4,0,0,32,112,252,511,1023,2047] (.flo [0,1,2,3,4,5,6,7,8] (.one 9 (.flo [10] (.one 11 (.fin))))) (by kernel_rfl) (by kernel_rfl) (by intro _ _ d _ _ h; cases d <;> exact h) ?_
  (refine ord_flo (pick_cons rfl (pick_cons rfl (pick_cons rfl (pick_cons rfl (pick_cons rfl (pick_cons rfl (pick_cons rfl (pick_cons rfl (pick_cons rfl pick_nil))))))))) ?_; (repeat (go_big_quiet_step (fail))); refine wpQuiet_nil ?_; show ordWalk _ _ _ _ _ _ _)
  refine ord_one (pick_cons rfl pick_nil) ?_; intro K_ hK_
  go_wp2_with (at_builtin; go_loud (refine wpList_append_two _ elemWords (w.heap.size + 4) _ _ rfl rfl none 0 0 [] rfl (Own.nil _ _ _ _) A1 K c1 (wds (l1.take K)) rfl (hs.ext (x0.trans X)) (wds_one _) (by omega) (by decide) (by have h1 := X.size; have h2 := S0.out; omega) ?_); intro A c w1 o1 g1 z1; clear z1)
  have y1 : Ext w0.drew w1 := Ext.grown (Ext.refl _) g1 (fun k e => nomatch e)
  have Y : Ext w0 w1 := X.trans y1
  have x1 := x0.trans Y
  have b1 := b0.ext Y
  have r1 := r0.ext Y
  have yy1 := y0.ext Y
  have z1 := yy1.cell 2
  have z2 := yy1.free 2
  have O1 : Own w1 (w.heap.size + 4) 22 1 A K c (wds (l1.take K)) := by have := o1; rwa [Nat.zero_add, List.nil_append] at this
  clear q1 q2 q3 o1 g1
  go_simp
  (refine ord_flo (pick_cons rfl pick_nil) ?_; (repeat (go_big_quiet_step (fail))); refine wpQuiet_nil ?_; show ordWalk _ _ _ _ _ _ _)
  refine ord_one (pick_cons rfl pick_nil) ?_; intro K_ hK_
  go_wp2
  refine ord_fin ?_
  obtain ⟨gA, rfl, hbA, hgA, hgA2, hcA, hfA⟩ := O1.form hK
  have i0 : (0 : Int) ≤ (K : Int) - 1 := by omega
  have i1 : (K : Int) - 1 < (K : Int) := by omega
  have i2 : IntKind.i64.wrap ((K : Int) - 1) = (K : Int) - 1 := IntWalk.i64_in _ (by omega)
  have i3 : ((K : Int) - 1).toNat = K - 1 := by omega
  obtain ⟨w2, hw2⟩ : ∃ w2, w2 = w1.setCell ⟨w.heap.size + 1 + 1 + 1, 2, none⟩ (.slice (some ⟨gA, 0, none⟩) K c) := ⟨_, rfl⟩
  rw [← hw2]
  have cA : w2.cell? ⟨gA, K - 1, none⟩ = some (.int .u32 v) := by
    rw [hw2, World.cell?_setCell_other _ _ _ _ (by simp; try omega), ← hv]
    refine hcA _ _ ?_
    simp only [wds, List.getElem?_map, List.getElem?_take, if_pos (show K - 1 < K by omega), List.getD_eq_getElem?_getD, List.getElem?_eq_getElem (show K - 1 < l1.length by omega)]
    rfl
  have fA : w2.frozen? ⟨gA, K - 1, none⟩ = false := by rw [hw2, World.frozen?_setCell]; exact hfA _
  have x2 : Ext w w2 := hw2 ▸ x1.set (by simp; omega) _
  have ho2 : Own w2 (w.heap.size + 4) 22 1 (some ⟨gA, 0, none⟩) K c (wds (l1.take K)) := hw2 ▸ O1.far (O1.ne (show w.heap.size + 1 + 1 + 1 < w.heap.size + 4 by omega)) _
  have yB : Bk w2 (w.heap.size + 1 + 1 + 1) 25 #[.int .i64 La, .int .u32 aa, .slice (some ⟨gA, 0, none⟩) K c] := hw2 ▸ yy1.set 2 _
  have rB : Bk w2 (w.heap.size + 1 + 1) 25 #[.int .i64 0, .int .u32 0, .slice none 0 0] := hw2 ▸ r1.far (by simp) _
  have bB : Bk w2 (w.heap.size + 1) 25 #[.int .i64 m, .int .u32 ab, .slice A2 n2 c2] := hw2 ▸ b1.far (by simp) _
  clear hw2 hcA hfA z1 z2 O1 y1 Y x1 b1 r1 yy1 X x0 a0 b0 r0 y0
  have b2 : w2.cell? ⟨w.heap.size + 1, 1, none⟩ = some (.int .u32 ab) := bB.cell 1
  have b3 : w2.cell? ⟨w.heap.size + 1, 2, none⟩ = some (.slice A2 n2 c2) := bB.cell 2
  have r1 : w2.cell? ⟨w.heap.size + 1 + 1, 0, none⟩ = some (.int .i64 0) := rB.cell 0
  have r2 : w2.cell? ⟨w.heap.size + 1 + 1, 1, none⟩ = some (.int .u32 0) := rB.cell 1
  have r3 : w2.cell? ⟨w.heap.size + 1 + 1, 2, none⟩ = some (.slice none 0 0) := rB.cell 2
  have r4 := rB.free 0
  have r5 := rB.free 1
  have r6 := rB.free 2
  have y1 : w2.cell? ⟨w.heap.size + 1 + 1 + 1, 0, none⟩ = some (.int .i64 La) := yB.cell 0
  have y2 : w2.cell? ⟨w.heap.size + 1 + 1 + 1, 1, none⟩ = some (.int .u32 aa) := yB.cell 1
  have y3 : w2.cell? ⟨w.heap.size + 1 + 1 + 1, 2, none⟩ = some (.slice (some ⟨gA, 0, none⟩) K c) := yB.cell 2
  have y6 := yB.free 2
  have g1 : ¬ gA = w.heap.size + 1 := by omega
  have g2 : ¬ gA = w.heap.size + 1 + 1 := by omega
  have g3 : ¬ gA = w.heap.size + 1 + 1 + 1 := by omega
  have g4 : ¬ w.heap.size + 1 = gA := by omega
  have g5 : ¬ w.heap.size + 1 + 1 = gA := by omega
  have g6 : ¬ w.heap.size + 1 + 1 + 1 = gA := by omega
  have X : Ext w2 w2.drew := (Ext.refl w2).drew
  have d2 : ∀ y : Xt w2.drew, y.W.cell? ⟨w.heap.size + 1, 1, none⟩ = some (.int .u32 ab) := fun y => y.x.cell (X.cell b2)
  have d3 : ∀ y : Xt w2.drew, y.W.cell? ⟨w.heap.size + 1 + 1 + 1, 2, none⟩ = some (.slice (some ⟨gA, 0, none⟩) K c) := fun y => y.x.cell (X.cell y3)
  have dA : ∀ y : Xt w2.drew, y.W.cell? ⟨gA, K - 1, none⟩ = some (.int .u32 v) := fun y => y.x.cell (X.cell cA)
  clear hv
  go_upto_region 11 with fail
  by_cases hov : 4294967295 - ab < v
  · have R0 := HR.out
    rw [if_pos hov] at R0
    have RH := Lib.hid R0
    clear R0
    refine wp_region_ord [0,1,0,0,8,0,56,120,0,256,1016,2040,4088,4088,8191,24575,65535] (.flo [0,1,2,3,4,5,6,7,8,9] (.ext 10 (.flo [11,12,14] (.pur [13] (.one 15 (.flo [16] (.fin))))))) (by kernel_rfl) (by kernel_rfl) (by intro _ _ d _ _ h; cases d <;> exact h) ?_
    (refine ord_flo (pick_cons rfl (pick_cons rfl (pick_cons rfl (pick_cons rfl (pick_cons rfl (pick_cons rfl (pick_cons rfl (pick_cons rfl (pick_cons rfl (pick_cons rfl pick_nil)))))))))) ?_; (repeat (go_big_quiet_step (fail))); refine wpQuiet_nil ?_; show ordWalk _ _ _ _ _ _ _)
    refine ord_ext (pick_cons rfl pick_nil) ?_; intro K_ hK_
    go_wp2_with (refine (rsum_over _ _ _ uu hab hov).mono ?_; rintro r w1' ⟨rfl, rfl⟩)
    refine ordNext.mk (Ext.refl _) ?_
    (refine ord_flo (pick_cons rfl (pick_cons rfl (pick_cons rfl pick_nil))) ?_; (repeat (go_big_quiet_step (fail))); refine wpQuiet_nil ?_; show ordWalk _ _ _ _ _ _ _)
    (refine ord_pur (pick_cons rfl pick_nil) ?_; (repeat (go_big_quiet_step (fail))); refine wpQuiet_nil ?_; show ordWalk _ _ _ _ _ _ _)
    refine ord_one (pick_cons rfl pick_nil) ?_; intro K_ hK_
    go_wp2
    (refine ord_flo (pick_cons rfl pick_nil) ?_; (repeat (go_big_quiet_step (fail))); refine wpQuiet_nil ?_; show ordWalk _ _ _ _ _ _ _)
    refine ord_fin ?_
    go_wp2
    refine bodyPost_ret (v := .tuple #[.agg #[.int .i64 0, .int .u32 0, .slice none 0 0], .int .i64 41]) (by simp only [results, Tryd.results14]; go_simp) rfl ?_
    rw [RH.out]
    refine rwayNone ?_
    (repeat' (first | with_reducible exact x2 | with_reducible refine Ext.drew ?_ | with_reducible refine Ext.drewN ?_ _ | with_reducible refine Ext.alloc ?_ _ | with_reducible refine Ext.set ?_ ?_ _ | omega | (simp; done) | (simp; omega)))
  · have R0 := HR.out
    rw [if_neg hov] at R0
    have RH := Lib.hid R0
    clear R0
    have uo : v + ab ≤ 4294967295 := by omega
    refine wp_region_ord [0,1,0,0,8,0,56,120,0,256,1016,2040,4088,4088,8191,24575,65535] (.flo [0,1,2,3,4,5,6,7,8,9] (.ext 10 (.flo [11,12,14] (.pur [13] (.one 15 (.flo [16] (.fin))))))) (by kernel_rfl) (by kernel_rfl) (by intro _ _ d _ _ h; cases d <;> exact h) ?_
    (refine ord_flo (pick_cons rfl (pick_cons rfl (pick_cons rfl (pick_cons rfl (pick_cons rfl (pick_cons rfl (pick_cons rfl (pick_cons rfl (pick_cons rfl (pick_cons rfl pick_nil)))))))))) ?_; (repeat (go_big_quiet_step (fail))); refine wpQuiet_nil ?_; show ordWalk _ _ _ _ _ _ _)
    refine ord_ext (pick_cons rfl pick_nil) ?_; intro K_ hK_
    go_wp2_with (refine (rsum_ok _ _ _ uu hab (by omega)).mono ?_; rintro r w1' ⟨rfl, rfl⟩)
    refine ordNext.mk (Ext.refl _) ?_
    (refine ord_flo (pick_cons rfl (pick_cons rfl (pick_cons rfl pick_nil))) ?_; (repeat (go_big_quiet_step (fail))); refine wpQuiet_nil ?_; show ordWalk _ _ _ _ _ _ _)
    (refine ord_pur (pick_cons rfl pick_nil) ?_; (repeat (go_big_quiet_step (fail))); refine wpQuiet_nil ?_; show ordWalk _ _ _ _ _ _ _)
    refine ord_one (pick_cons rfl pick_nil) ?_; intro K_ hK_
    go_wp2
    (refine ord_flo (pick_cons rfl pick_nil) ?_; (repeat (go_big_quiet_step (fail))); refine wpQuiet_nil ?_; show ordWalk _ _ _ _ _ _ _)
    refine ord_fin ?_
    go_wp2_with (at_builtin; refine wpList_append_gen _ elemWords (w.heap.size + 4) _ _ (by rfl) (by rfl) (some ⟨gA, 0, none⟩) K c _ (by rfl) ((ho2.put (K - 1) _).drew) A2 n2 c2 (wds l2) (by rfl) (h2.ext (Ext.drew (x2.set (by simp; omega) _))) (wds_one _) (by omega) (by omega) (by have := x2.size; have := yB.lt; simp; omega) ?_; intro A' c' w1' ho1 hg1 hk1; have yy := Bk.grown (by exact (yB.far (by simpa using g6) _).drew) hg1 (ho2.ne (by omega)); have z1 : w1'.cell? ⟨w.heap.size + 1 + 1 + 1, 0, none⟩ = some (.int .i64 La) := yy.cell 0; have z2 : w1'.cell? ⟨w.heap.size + 1 + 1 + 1, 1, none⟩ = some (.int .u32 aa) := yy.cell 1; have z3 : w1'.cell? ⟨w.heap.size + 1 + 1 + 1, 2, none⟩ = some (.slice (some ⟨gA, 0, none⟩) K c) := yy.cell 2; have z4 := yy.free 2; have rr := Bk.grown (by exact (rB.far (by simpa using g5) _).drew) hg1 (ho2.ne (by omega)); have v1 : w1'.cell? ⟨w.heap.size + 1 + 1, 0, none⟩ = some (.int .i64 0) := rr.cell 0; have v2 : w1'.cell? ⟨w.heap.size + 1 + 1, 1, none⟩ = some (.int .u32 0) := rr.cell 1; have v3 : w1'.cell? ⟨w.heap.size + 1 + 1, 2, none⟩ = some (.slice none 0 0) := rr.cell 2; have v4 := rr.free 0; have v5 := rr.free 1; have v6 := rr.free 2)
    refine bodyPost_ret (v := .tuple #[.agg #[.int .i64 La, .int .u32 aa, .slice A' (K + n2) c'], .int .i64 0]) (by simp only [results, Tryd.results14]; go_simp) rfl ?_
    rw [RH.out]
    have hl2 := h2.wlen
    have e0 : (l1.take (K - 1) ++ [v + ab] ++ l2).length = K + n2 := by simp; omega
    have e00 : (l1.take (K - 1) ++ [l1.getD (K - 1) 0 + ab] ++ l2).length = K + n2 := by simp; omega
    refine ⟨A', c', by simp only [e0, e00], ?_, ?_⟩
    · have e2 : (wds (l1.take K)).set (K - 1) (.int .u32 (v + ab)) ++ wds l2 = wds (l1.take (K - 1) ++ [l1.getD (K - 1) 0 + ab] ++ l2) := by
        rw [← HVV.out, wds_set_last _ _ _ hK hl1, wds_append]
      rw [e2] at ho1
      have hx : ∀ k, k < w.heap.size + 4 → blk A' c' ≠ some k := fun k hk => ho1.ne hk
      have HV := HVV.out
      simp only [← HV, e00]
      refine Own.far ?_ (hx _ (by simp)) _
      refine Own.far ?_ (hx _ (by simp)) _
      refine Own.far ?_ (hx _ (by simp)) _
      exact Own.far (ho1.mono (by omega)) (hx _ (by simp)) _
    · have e1 : Ext w w1' := (Ext.drew (x2.set (p := ⟨gA, K - 1, none⟩) (by simp; omega) _)).grown hg1 (fun k hk => by have := ho2.lt k hk; omega)
      (repeat' (first | with_reducible exact e1 | with_reducible refine Ext.drew ?_ | with_reducible refine Ext.drewN ?_ _ | with_reducible refine Ext.alloc ?_ _ | with_reducible refine Ext.set ?_ ?_ _ | omega | (simp; done) | (simp; omega)))

set_option maxRecDepth 100000 in
set_option maxHeartbeats 2000000 in
theorem rthen_gt (La aa Lb ab : Int) (A1 A2 : Option Addr) (n1 n2 c1 c2 : Nat) (l2 : List Int) (w : World) (h2 : Sl w 1 A2 n2 c2 (wds l2)) (hn2 : n2 ≤ 1000000) (hn1 : n1 ≤ 1000000) (hLb : (n1 : Int) < Lb) :
    Calls Tryd.prog 14 #[.agg #[.int .i64 La, .int .u32 aa, .slice A1 n1 c1], .agg #[.int .i64 Lb, .int .u32 ab, .slice A2 n2 c2]] w
      (RWayOut w (⟨wrap64 (wrap64 (La + Lb) - n1), ab, l2⟩, 0)) := by
  have q0 : (Lb == (n1 : Int)) = false := by simp; omega
  go_enter Tryd.func14, Tryd.ntmps14
  have WH := Lib.hid (show ∀ (r : Ending) (w' : World), RWayOut w (⟨wrap64 (wrap64 (La + Lb) - n1), ab, l2⟩, 0) r w' → RWayOut w (⟨wrap64 (wrap64 (La + Lb) - n1), ab, l2⟩, 0) r w' from fun _ _ h => h)
  obtain ⟨v, hv⟩ : ∃ v, v = wrap64 (wrap64 (La + Lb) - n1) := ⟨_, rfl⟩
  rw [← hv] at WH
  go_wp2_with (at_builtin; simp only [← hv]; go_loud (refine wpList_append_gen _ elemWords (w.heap.size + 4) _ _ (by rfl) (by rfl) Option.none 0 0 [] (by rfl) (Own.nil _ _ _ _) A2 n2 c2 (wds l2) (by rfl) (h2.ext ((((((Ext.refl w).alloc _).alloc _).alloc _).alloc _))) (wds_one _) (by omega) (by omega) (by simp; try omega) ?_); intro A' c' w1 ho1 hg1 hk1; have yy := Bk.grown (show Bk _ (w.heap.size + 1 + 1 + 1) 25 #[.int .i64 v, .int .u32 ab, .slice Option.none 0 0] from Bk.at (by simp)) hg1 (by simp [blk]); have z1 : w1.cell? ⟨w.heap.size + 1 + 1 + 1, 0, none⟩ = some (.int .i64 v) := yy.cell 0; have z2 : w1.cell? ⟨w.heap.size + 1 + 1 + 1, 1, none⟩ = some (.int .u32 ab) := yy.cell 1; have z3 : w1.cell? ⟨w.heap.size + 1 + 1 + 1, 2, none⟩ = some (.slice none 0 0) := yy.cell 2; have z4 := yy.free 2; have rr := Bk.grown (show Bk _ (w.heap.size + 1 + 1) 25 #[.int .i64 0, .int .u32 0, .slice Option.none 0 0] from (Bk.at (by simp)).alloc _) hg1 (by simp [blk]); have u1 : w1.cell? ⟨w.heap.size + 1 + 1, 0, none⟩ = some (.int .i64 0) := rr.cell 0; have u2 : w1.cell? ⟨w.heap.size + 1 + 1, 1, none⟩ = some (.int .u32 0) := rr.cell 1; have u3 : w1.cell? ⟨w.heap.size + 1 + 1, 2, none⟩ = some (.slice none 0 0) := rr.cell 2; have u4 := rr.free 0; have u5 := rr.free 1; have u6 := rr.free 2)
  refine bodyPost_ret (v := .tuple #[.agg #[.int .i64 v, .int .u32 ab, .slice A' n2 c'], .int .i64 0]) (by simp only [results, Tryd.results14]; go_simp) rfl ?_
  subst hv
  have hl := h2.wlen
  subst hl
  refine ⟨A', c', rfl, ?_, ?_⟩
  · rw [List.nil_append, Nat.zero_add] at ho1
    have hx : ∀ k, k < w.heap.size + 4 → blk A' c' ≠ some k := fun k hk => ho1.ne hk
    refine Own.far ?_ (hx _ (by simp)) _
    refine Own.far ?_ (hx _ (by simp)) _
    refine Own.far ?_ (hx _ (by simp)) _
    exact Own.far (ho1.mono (by omega)) (hx _ (by simp)) _
  · have e1 : Ext w w1 := ((((((Ext.refl w).alloc _).alloc _).alloc _).alloc _)).grown hg1 (fun k hk => by simp [blk] at hk)
    (repeat' (first | with_reducible exact e1 | with_reducible refine Ext.drew ?_ | with_reducible refine Ext.drewN ?_ _ | with_reducible refine Ext.alloc ?_ _ | with_reducible refine Ext.set ?_ ?_ _ | omega | (simp; done) | (simp; omega)))

theorem rthen_any (La aa Lb ab : Int) (A1 A2 : Option Addr) (n1 n2 c1 c2 : Nat) (l1 l2 : List Int) (w : World) (h1 : Sl w 1 A1 n1 c1 (wds l1)) (h2 : Sl w 1 A2 n2 c2 (wds l2)) (u1 : U32 l1)
    (haa : 0 ≤ aa ∧ aa ≤ 4294967295) (hab : 0 ≤ ab ∧ ab ≤ 4294967295) (hn1 : n1 ≤ 1000000) (hn2 : n2 ≤ 1000000) :
    Calls Tryd.prog 14 #[.agg #[.int .i64 La, .int .u32 aa, .slice A1 n1 c1], .agg #[.int .i64 Lb, .int .u32 ab, .slice A2 n2 c2]] w (RWayOut w (thenT La aa l1 Lb ab l2)) := by
  have hw1 := h1.wlen
  unfold thenT
  by_cases k1 : Lb < 0
  · rw [if_pos k1]; exact rthen_neg _ _ _ _ _ _ _ _ _ _ _ k1
  rw [if_neg k1]
  by_cases k2 : Lb < l1.length
  · rw [if_pos k2]
    obtain ⟨m, rfl⟩ : ∃ m : Nat, Lb = m := ⟨Lb.toNat, by omega⟩
    obtain ⟨K, rfl⟩ : ∃ K, n1 = K + m := ⟨n1 - m, by omega⟩
    have := rthen_in K m (by omega) La aa ab A1 A2 n2 c1 c2 l1 l2 w h1 h2 u1 hab hn1 hn2
    have e : l1.length - (m : Int).toNat - 1 = K - 1 := by omega
    rw [e]
    exact this
  rw [if_neg k2]
  by_cases k3 : Lb = l1.length
  · rw [if_pos k3]
    have e : Lb = (n1 : Int) := by omega
    rw [e]
    exact rthen_eq La aa ab A1 A2 n1 n2 c1 c2 l2 w h2 haa hab hn2
  rw [if_neg k3]
  have e : (l1.length : Int) = (n1 : Int) := by omega
  rw [e]
  exact rthen_gt La aa Lb ab A1 A2 n1 n2 c1 c2 l2 w h2 hn2 hn1 (by omega)
end Go.Proofs.YtilbfmfioopiiaaDoor
