/- penstockref04.Then: what it answers. penstockref06.all: the least ways from a place to every one. penstockref06.to: the least ways to a place. Conditions: each theorem states its own. -/
import Derived.Test.YteklohamkmiphaaFa2
import Derived.Test.YteklohamkmiphaaFa4
import Derived.Test.YteklohamkmiphaaFa8
import Derived.Test.YteklohamkmiphaaFa12
import Derived.Test.YteklohamkmiphaaFa11
import Derived.Deep.LoopGhost
import Derived.Deep.CutBlock
import Derived.WalkMore
namespace Go.Proofs.Yteklohamkmiphaa
open Go.RowKit

/-- the form in which the document's Then answers -/
def RWayOut (w : World) (r : Way × Int) (e : Ending) (w' : World) : Prop :=
  ∃ A c, e = .returned (.tuple #[.agg #[.int .i64 r.1.leave, .int .u32 r.1.add, .slice A r.1.enter.length c], .int .i64 r.2]) ∧ Own w' w.heap.size 45 1 A r.1.enter.length c (wds r.1.enter) ∧ Ext w w'

set_option maxRecDepth 100000 in
set_option maxHeartbeats 400000 in
theorem rsum_over (x y : Int) (w : World) (hx : 0 ≤ x ∧ x ≤ 4294967295) (hy : 0 ≤ y ∧ y ≤ 4294967295) (h : 4294967295 - y < x) :
    Calls Try.prog 75 #[.int .u32 x, .int .u32 y] w fun e w' => e = .returned (.tuple #[.int .u32 0, .int .i64 41]) ∧ w = w' := by
  obtain ⟨hx0, hx1⟩ := hx
  obtain ⟨hy0, hy1⟩ := hy
  have e1 : IntKind.u64.wrap x = x := by rw [IntKind.wrap_u64]; omega
  have e2 : IntKind.u64.wrap y = y := by rw [IntKind.wrap_u64]; omega
  have e3 : IntKind.u64.wrap (x + y) = x + y := by rw [IntKind.wrap_u64]; omega
  go_enter Try.func75, Try.ntmps75
  go_wp2
  go_ret2
  exact ⟨rfl, rfl⟩
set_option maxRecDepth 100000 in
set_option maxHeartbeats 400000 in
theorem rsum_ok (x y : Int) (w : World) (hx : 0 ≤ x ∧ x ≤ 4294967295) (hy : 0 ≤ y ∧ y ≤ 4294967295) (h : x ≤ 4294967295 - y) :
    Calls Try.prog 75 #[.int .u32 x, .int .u32 y] w fun e w' => e = .returned (.tuple #[.int .u32 (x + y), .int .i64 0]) ∧ w = w' := by
  obtain ⟨hx0, hx1⟩ := hx
  obtain ⟨hy0, hy1⟩ := hy
  have e1 : IntKind.u64.wrap x = x := by rw [IntKind.wrap_u64]; omega
  have e2 : IntKind.u64.wrap y = y := by rw [IntKind.wrap_u64]; omega
  have e3 : IntKind.u64.wrap (x + y) = x + y := by rw [IntKind.wrap_u64]; omega
  have e4 : IntKind.u32.wrap (x + y) = x + y := by rw [IntKind.wrap_u32]; omega
  go_enter Try.func75, Try.ntmps75
  go_wp2
  go_ret2
  exact ⟨rfl, rfl⟩
theorem rwayNone {w w' : World} {n : Int} (x : Ext w w') : RWayOut w (⟨0, 0, []⟩, n) (.returned (.tuple #[.agg #[.int .i64 0, .int .u32 0, .slice none 0 0], .int .i64 n])) w' := ⟨Option.none, 0, rfl, Own.nil _ _ _ _, x⟩

set_option maxRecDepth 100000 in
set_option maxHeartbeats 400000 in
theorem rthen_neg (La aa Lb ab : Int) (A1 A2 : Option Addr) (n1 n2 c1 c2 : Nat) (w : World) (hL : Lb < 0) :
    Calls Try.prog 64 #[.agg #[.int .i64 La, .int .u32 aa, .slice A1 n1 c1], .agg #[.int .i64 Lb, .int .u32 ab, .slice A2 n2 c2]] w (RWayOut w (⟨0, 0, []⟩, 40)) := by
  go_enter Try.func64, Try.ntmps64
  go_wp2
  refine bodyPost_ret (v := .tuple #[.agg #[.int .i64 0, .int .u32 0, .slice none 0 0], .int .i64 40]) (by simp only [results, Try.results64]; go_simp) rfl ?_
  exact rwayNone ((((Ext.refl w).alloc _).alloc _).alloc _ |>.alloc _)
set_option maxRecDepth 100000 in
set_option maxHeartbeats 2000000 in
theorem rthen_eq (La aa ab : Int) (A1 A2 : Option Addr) (n1 n2 c1 c2 : Nat) (l2 : List Int) (w : World) (h2 : Sl w 1 A2 n2 c2 (wds l2)) (haa : 0 ≤ aa ∧ aa ≤ 4294967295) (hab : 0 ≤ ab ∧ ab ≤ 4294967295) (hn2 : n2 ≤ 1000000) :
    Calls Try.prog 64 #[.agg #[.int .i64 La, .int .u32 aa, .slice A1 n1 c1], .agg #[.int .i64 n1, .int .u32 ab, .slice A2 n2 c2]] w
      (RWayOut w (if 4294967295 - ab < aa then (⟨0, 0, []⟩, 41) else (⟨La, aa + ab, l2⟩, 0))) := by
  have q0 : ((n1 : Int) == (n1 : Int)) = true := by simp
  by_cases hov : 4294967295 - ab < aa
  · rw [if_pos hov]
    go_enter Try.func64, Try.ntmps64
    go_wp2_with (refine (rsum_over _ _ _ haa hab hov).mono ?_; rintro r w1 ⟨rfl, rfl⟩)
    refine bodyPost_ret (v := .tuple #[.agg #[.int .i64 0, .int .u32 0, .slice none 0 0], .int .i64 41]) (by simp only [results, Try.results64]; go_simp) rfl ?_
    exact rwayNone ((((Ext.refl w).alloc _).alloc _).alloc _ |>.alloc _)
  · rw [if_neg hov]
    have WH := Lib.hid (show ∀ (r : Ending) (w' : World), RWayOut w (⟨La, aa + ab, l2⟩, 0) r w' → RWayOut w (⟨La, aa + ab, l2⟩, 0) r w' from fun _ _ h => h)
    go_enter Try.func64, Try.ntmps64
    go_upto_region 6 with fail
    obtain ⟨w0, hw0⟩ : ∃ w0, w0 = (((w.alloc (Obj.cells #[Value.int IntKind.i64 La, Value.int IntKind.u32 aa, Value.slice A1 n1 c1] 47)).alloc (Obj.cells #[Value.int IntKind.i64 n1, Value.int IntKind.u32 ab, Value.slice A2 n2 c2] 47)).alloc
        (Obj.cells #[Value.int IntKind.i64 0, Value.int IntKind.u32 0, Value.slice none 0 0] 47)).alloc (Obj.cells #[Value.int IntKind.i64 La, Value.int IntKind.u32 aa, Value.slice none 0 0] 47) := ⟨_, rfl⟩
    have x0 : Ext w w0 := hw0 ▸ ((((Ext.refl w).alloc _).alloc _).alloc _).alloc _
    have s0 : w0.heap.size = w.heap.size + 4 := by subst hw0; simp
    have a0 : Bk w0 w.heap.size 47 #[Value.int IntKind.i64 La, Value.int IntKind.u32 aa, Value.slice A1 n1 c1] := by subst hw0; exact (((Bk.new _ _ _).alloc _).alloc _).alloc _
    have b0 : Bk w0 (w.heap.size + 1) 47 #[Value.int IntKind.i64 n1, Value.int IntKind.u32 ab, Value.slice A2 n2 c2] := by subst hw0; exact ((Bk.at (by simp)).alloc _).alloc _
    have r0 : Bk w0 (w.heap.size + 1 + 1) 47 #[Value.int IntKind.i64 0, Value.int IntKind.u32 0, Value.slice none 0 0] := by subst hw0; exact (Bk.at (by simp)).alloc _
    have y0 : Bk w0 (w.heap.size + 1 + 1 + 1) 47 #[Value.int IntKind.i64 La, Value.int IntKind.u32 aa, Value.slice none 0 0] := by subst hw0; exact Bk.at (by simp)
    rw [← hw0]
    clear hw0
    have a1 : w0.cell? ⟨w.heap.size, 0, none⟩ = some (.int .i64 La) := a0.cell 0
    have a2 : w0.cell? ⟨w.heap.size, 1, none⟩ = some (.int .u32 aa) := a0.cell 1
    have a3 : w0.cell? ⟨w.heap.size, 2, none⟩ = some (.slice A1 n1 c1) := a0.cell 2
    have b1 : w0.cell? ⟨w.heap.size + 1, 0, none⟩ = some (.int .i64 n1) := b0.cell 0
    have b2 : w0.cell? ⟨w.heap.size + 1, 1, none⟩ = some (.int .u32 ab) := b0.cell 1
    have b3 : w0.cell? ⟨w.heap.size + 1, 2, none⟩ = some (.slice A2 n2 c2) := b0.cell 2
    have r1 : w0.cell? ⟨w.heap.size + 1 + 1, 0, none⟩ = some (.int .i64 0) := r0.cell 0
    have r2 : w0.cell? ⟨w.heap.size + 1 + 1, 1, none⟩ = some (.int .u32 0) := r0.cell 1
    have r3 : w0.cell? ⟨w.heap.size + 1 + 1, 2, none⟩ = some (.slice none 0 0) := r0.cell 2
    have r4 := r0.free 0
    have r5 := r0.free 1
    have r6 := r0.free 2
    have y1 : w0.cell? ⟨w.heap.size + 1 + 1 + 1, 0, none⟩ = some (.int .i64 La) := y0.cell 0
    have y2 : w0.cell? ⟨w.heap.size + 1 + 1 + 1, 1, none⟩ = some (.int .u32 aa) := y0.cell 1
    have y3 : w0.cell? ⟨w.heap.size + 1 + 1 + 1, 2, none⟩ = some (.slice none 0 0) := y0.cell 2
    have y4 := y0.free 0
    have y5 := y0.free 1
    have y6 := y0.free 2
    go_wp2_with (first | (go_at_call 75; refine (rsum_ok _ _ _ haa hab (by omega)).mono ?_; rintro r w1 ⟨rfl, rfl⟩) | (at_builtin; refine wpList_append_gen _ elemWords (w.heap.size + 4) _ _ (by rfl) (by rfl) Option.none 0 0 [] (by rfl) (Own.nil _ _ _ _) A2 n2 c2 (wds l2) (by rfl) (h2.ext (x0.set (by simp; omega) _)) (wds_one _) (by omega) (by omega) (by simp; omega) ?_; intro A' c' w1 ho1 hg1 hk1; have yy := Bk.grown (by exact y0.set 1 _) hg1 (by simp [blk]); have z1 : w1.cell? ⟨w.heap.size + 1 + 1 + 1, 0, none⟩ = some (.int .i64 (La)) := yy.cell 0; have z2 : w1.cell? ⟨w.heap.size + 1 + 1 + 1, 1, none⟩ = some (.int .u32 (aa + ab)) := yy.cell 1; have z3 : w1.cell? ⟨w.heap.size + 1 + 1 + 1, 2, none⟩ = some (.slice none 0 0) := yy.cell 2; have z4 := yy.free 2; have rr := Bk.grown (by exact r0.far (by simp) _) hg1 (by simp [blk]); have u1 : w1.cell? ⟨w.heap.size + 1 + 1, 0, none⟩ = some (.int .i64 0) := rr.cell 0; have u2 : w1.cell? ⟨w.heap.size + 1 + 1, 1, none⟩ = some (.int .u32 0) := rr.cell 1; have u3 : w1.cell? ⟨w.heap.size + 1 + 1, 2, none⟩ = some (.slice none 0 0) := rr.cell 2; have u4 := rr.free 0; have u5 := rr.free 1; have u6 := rr.free 2))
    refine bodyPost_ret (v := .tuple #[.agg #[.int .i64 La, .int .u32 (aa + ab), .slice A' n2 c'], .int .i64 0]) (by simp only [results, Try.results64]; go_simp) rfl ?_
    have hl := h2.wlen
    subst hl
    refine ⟨A', c', rfl, ?_, ?_⟩
    · rw [List.nil_append, Nat.zero_add] at ho1
      have hx : ∀ k, k < w.heap.size + 4 → blk A' c' ≠ some k := fun k hk => ho1.ne hk
      refine Own.far ?_ (hx _ (by simp)) _
      refine Own.far ?_ (hx _ (by simp)) _
      refine Own.far ?_ (hx _ (by simp)) _
      exact Own.far (ho1.mono (by omega)) (hx _ (by simp)) _
    · have e1 : Ext w w1 := (x0.set (p := ⟨w.heap.size + 1 + 1 + 1, 1, none⟩) (by simp; omega) _).grown hg1 (fun k hk => by simp [blk] at hk)
      (repeat' (first | with_reducible exact e1 | with_reducible refine Ext.drew ?_ | with_reducible refine Ext.drewN ?_ _ | with_reducible refine Ext.alloc ?_ _ | with_reducible refine Ext.set ?_ ?_ _ | omega | (simp; done) | (simp; omega)))

set_option maxRecDepth 100000 in
set_option maxHeartbeats 4000000 in
theorem rthen_in (K m : Nat) (hK : 0 < K) (La aa ab : Int) (A1 A2 : Option Addr) (n2 c1 c2 : Nat) (l1 l2 : List Int) (w : World) (h1 : Sl w 1 A1 (K + m) c1 (wds l1)) (h2 : Sl w 1 A2 n2 c2 (wds l2)) (u1 : U32 l1)
    (hab : 0 ≤ ab ∧ ab ≤ 4294967295) (hn1 : K + m ≤ 1000000) (hn2 : n2 ≤ 1000000) :
    Calls Try.prog 64 #[.agg #[.int .i64 La, .int .u32 aa, .slice A1 (K + m : Nat) c1], .agg #[.int .i64 m, .int .u32 ab, .slice A2 n2 c2]] w
      (RWayOut w (if 4294967295 - ab < l1.getD (K - 1) 0 then (⟨0, 0, []⟩, 41) else (⟨La, aa, l1.take (K - 1) ++ [l1.getD (K - 1) 0 + ab] ++ l2⟩, 0))) := by
  have hm := h1.le
  have hc := h1.cap
  have hl1 : K ≤ l1.length := by have := h1.wlen; omega
  obtain ⟨v, hv⟩ : ∃ v, l1.getD (K - 1) 0 = v := ⟨_, rfl⟩
  have uu := u1.getD (K - 1)
  rw [hv] at uu
  have hs : Sl w 1 A1 K c1 (wds (l1.take K)) := by
    have := h1.take (k := K) (by omega)
    rwa [Nat.mul_one, wds_take] at this
  have lt0 : (m : Int) < ((K + m : Nat) : Int) := by omega
  obtain ⟨res, hres⟩ : ∃ res, res = (if 4294967295 - ab < l1.getD (K - 1) 0 then ((⟨0, 0, []⟩, 41) : Way × Int) else (⟨La, aa, l1.take (K - 1) ++ [l1.getD (K - 1) 0 + ab] ++ l2⟩, 0)) := ⟨_, rfl⟩
  rw [← hres]
  rw [hv] at hres
  have HR := Lib.hid hres
  have HVV := Lib.hid hv
  clear hres
  have U1 := Lib.hid u1
  clear u1
  go_enter Try.func64, Try.ntmps64
  go_upto_region 9 with fail
  obtain ⟨w0, hw0⟩ : ∃ w0, w0 = (((w.alloc (Obj.cells #[Value.int IntKind.i64 La, Value.int IntKind.u32 aa, Value.slice A1 (K + m) c1] 47)).alloc (Obj.cells #[Value.int IntKind.i64 m, Value.int IntKind.u32 ab, Value.slice A2 n2 c2] 47)).alloc
      (Obj.cells #[Value.int IntKind.i64 0, Value.int IntKind.u32 0, Value.slice none 0 0] 47)).alloc (Obj.cells #[Value.int IntKind.i64 La, Value.int IntKind.u32 aa, Value.slice none 0 0] 47) := ⟨_, rfl⟩
  have x0 : Ext w w0 := hw0 ▸ ((((Ext.refl w).alloc _).alloc _).alloc _).alloc _
  have s0 : w0.heap.size = w.heap.size + 4 := by subst hw0; simp
  have a0 : Bk w0 w.heap.size 47 #[Value.int IntKind.i64 La, Value.int IntKind.u32 aa, Value.slice A1 (K + m) c1] := by subst hw0; exact (((Bk.new _ _ _).alloc _).alloc _).alloc _
  have b0 : Bk w0 (w.heap.size + 1) 47 #[Value.int IntKind.i64 m, Value.int IntKind.u32 ab, Value.slice A2 n2 c2] := by subst hw0; exact ((Bk.at (by simp)).alloc _).alloc _
  have r0 : Bk w0 (w.heap.size + 1 + 1) 47 #[Value.int IntKind.i64 0, Value.int IntKind.u32 0, Value.slice none 0 0] := by subst hw0; exact (Bk.at (by simp)).alloc _
  have y0 : Bk w0 (w.heap.size + 1 + 1 + 1) 47 #[Value.int IntKind.i64 La, Value.int IntKind.u32 aa, Value.slice none 0 0] := by subst hw0; exact Bk.at (by simp)
  rw [← hw0]
  clear hw0
  have S0 := Lib.hid s0
  clear s0
  have X : Ext w0 w0.drew := (Ext.refl w0).drew
  have q1 : ∀ y : Xt w0.drew, y.W.cell? ⟨w.heap.size, 2, none⟩ = some (.slice A1 (K + m) c1) := fun y => (a0.ext (X.trans y.x)).cell 2
  have q2 : ∀ y : Xt w0.drew, y.W.cell? ⟨w.heap.size + 1 + 1 + 1, 2, none⟩ = some (.slice none 0 0) := fun y => (y0.ext (X.trans y.x)).cell 2
  have q3 : ∀ y : Xt w0.drew, y.W.cell? ⟨w.heap.size + 1, 0, none⟩ = some (.int .i64 m) := fun y => (b0.ext (X.trans y.x)).cell 0
  have i9 : ((K + m : Nat) : Int) - (m : Int) = (K : Int) := by omega
  have i8 : IntKind.i64.wrap (((K + m : Nat) : Int) - (m : Int)) = (K : Int) := by rw [i9]; exact IntWalk.i64_in _ (by omega)
  have i7 : IntKind.i64.wrap ((K : Int) + (m : Int) - (m : Int)) = (K : Int) := by rw [show (K : Int) + (m : Int) - (m : Int) = (K : Int) by omega]; exact IntWalk.i64_in _ (by omega)
  refine wp_region_ord [0,1,0,4,0,0,32,112,252,511,1023,2047] (.flo [0,1,2,3,4,5,6,7,8] (.one 9 (.flo [10] (.one 11 (.fin))))) (by kernel_rfl) (by kernel_rfl) (by intro _ _ d _ _ h; cases d <;> exact h) ?_
  (refine ord_flo (pick_cons rfl (pick_cons rfl (pick_cons rfl (pick_cons rfl (pick_cons rfl (pick_cons rfl (pick_cons rfl (pick_cons rfl (pick_cons rfl pick_nil))))))))) ?_; (repeat (go_big_quiet_step (fail))); refine wpQuiet_nil ?_; show ordWalk _ _ _ _ _ _ _)
  refine ord_one (pick_cons rfl pick_nil) ?_; intro K_ hK_
  go_wp2_with (at_builtin; go_loud (refine wpList_append_two _ elemWords (w.heap.size + 4) _ _ rfl rfl none 0 0 [] rfl (Own.nil _ _ _ _) A1 K c1 (wds (l1.take K)) rfl (hs.ext (x0.trans X)) (wds_one _) (by omega) (by decide) (by have h1 := X.size; have h2 := S0.out; omega) ?_); intro A c w1 o1 g1 z1; clear z1)
  have y1 : Ext w0.drew w1 := Ext.grown (Ext.refl _) g1 (fun k e => nomatch e)
  have Y : Ext w0 w1 := X.trans y1
  have x1 := x0.trans Y
  have b1 := b0.ext Y
  have r1 := r0.ext Y
  have yy1 := y0.ext Y
  have z1 := yy1.cell 2
  have z2 := yy1.free 2
  have O1 : Own w1 (w.heap.size + 4) 45 1 A K c (wds (l1.take K)) := by have := o1; rwa [Nat.zero_add, List.nil_append] at this
  clear q1 q2 q3 o1 g1
  go_simp
  (refine ord_flo (pick_cons rfl pick_nil) ?_; (repeat (go_big_quiet_step (fail))); refine wpQuiet_nil ?_; show ordWalk _ _ _ _ _ _ _)
  refine ord_one (pick_cons rfl pick_nil) ?_; intro K_ hK_
  go_wp2
  refine ord_fin ?_
  obtain ⟨gA, rfl, hbA, hgA, hgA2, hcA, hfA⟩ := O1.form hK
  have i0 : (0 : Int) ≤ (K : Int) - 1 := by omega
  have i1 : (K : Int) - 1 < (K : Int) := by omega
  have i2 : IntKind.i64.wrap ((K : Int) - 1) = (K : Int) - 1 := IntWalk.i64_in _ (by omega)
  have i3 : ((K : Int) - 1).toNat = K - 1 := by omega
  obtain ⟨w2, hw2⟩ : ∃ w2, w2 = w1.setCell ⟨w.heap.size + 1 + 1 + 1, 2, none⟩ (.slice (some ⟨gA, 0, none⟩) K c) := ⟨_, rfl⟩
  rw [← hw2]
  have cA : w2.cell? ⟨gA, K - 1, none⟩ = some (.int .u32 v) := by
    rw [hw2, World.cell?_setCell_other _ _ _ _ (by simp; try omega), ← hv]
    refine hcA _ _ ?_
    simp only [wds, List.getElem?_map, List.getElem?_take, if_pos (show K - 1 < K by omega), List.getD_eq_getElem?_getD, List.getElem?_eq_getElem (show K - 1 < l1.length by omega)]
    rfl
  have fA : w2.frozen? ⟨gA, K - 1, none⟩ = false := by rw [hw2, World.frozen?_setCell]; exact hfA _
  have x2 : Ext w w2 := hw2 ▸ x1.set (by simp; omega) _
  have ho2 : Own w2 (w.heap.size + 4) 45 1 (some ⟨gA, 0, none⟩) K c (wds (l1.take K)) := hw2 ▸ O1.far (O1.ne (show w.heap.size + 1 + 1 + 1 < w.heap.size + 4 by omega)) _
  have yB : Bk w2 (w.heap.size + 1 + 1 + 1) 47 #[.int .i64 La, .int .u32 aa, .slice (some ⟨gA, 0, none⟩) K c] := hw2 ▸ yy1.set 2 _
  have rB : Bk w2 (w.heap.size + 1 + 1) 47 #[.int .i64 0, .int .u32 0, .slice none 0 0] := hw2 ▸ r1.far (by simp) _
  have bB : Bk w2 (w.heap.size + 1) 47 #[.int .i64 m, .int .u32 ab, .slice A2 n2 c2] := hw2 ▸ b1.far (by simp) _
  clear hw2 hcA hfA z1 z2 O1 y1 Y x1 b1 r1 yy1 X x0 a0 b0 r0 y0
  have b2 : w2.cell? ⟨w.heap.size + 1, 1, none⟩ = some (.int .u32 ab) := bB.cell 1
  have b3 : w2.cell? ⟨w.heap.size + 1, 2, none⟩ = some (.slice A2 n2 c2) := bB.cell 2
  have r1 : w2.cell? ⟨w.heap.size + 1 + 1, 0, none⟩ = some (.int .i64 0) := rB.cell 0
  have r2 : w2.cell? ⟨w.heap.size + 1 + 1, 1, none⟩ = some (.int .u32 0) := rB.cell 1
  have r3 : w2.cell? ⟨w.heap.size + 1 + 1, 2, none⟩ = some (.slice none 0 0) := rB.cell 2
  have r4 := rB.free 0
  have r5 := rB.free 1
  have r6 := rB.free 2
  have y1 : w2.cell? ⟨w.heap.size + 1 + 1 + 1, 0, none⟩ = some (.int .i64 La) := yB.cell 0
  have y2 : w2.cell? ⟨w.heap.size + 1 + 1 + 1, 1, none⟩ = some (.int .u32 aa) := yB.cell 1
  have y3 : w2.cell? ⟨w.heap.size + 1 + 1 + 1, 2, none⟩ = some (.slice (some ⟨gA, 0, none⟩) K c) := yB.cell 2
  have y6 := yB.free 2
  have g1 : ¬ gA = w.heap.size + 1 := by omega
  have g2 : ¬ gA = w.heap.size + 1 + 1 := by omega
  have g3 : ¬ gA = w.heap.size + 1 + 1 + 1 := by omega
  have g4 : ¬ w.heap.size + 1 = gA := by omega
  have g5 : ¬ w.heap.size + 1 + 1 = gA := by omega
  have g6 : ¬ w.heap.size + 1 + 1 + 1 = gA := by omega
  have X : Ext w2 w2.drew := (Ext.refl w2).drew
  have d2 : ∀ y : Xt w2.drew, y.W.cell? ⟨w.heap.size + 1, 1, none⟩ = some (.int .u32 ab) := fun y => y.x.cell (X.cell b2)
  have d3 : ∀ y : Xt w2.drew, y.W.cell? ⟨w.heap.size + 1 + 1 + 1, 2, none⟩ = some (.slice (some ⟨gA, 0, none⟩) K c) := fun y => y.x.cell (X.cell y3)
  have dA : ∀ y : Xt w2.drew, y.W.cell? ⟨gA, K - 1, none⟩ = some (.int .u32 v) := fun y => y.x.cell (X.cell cA)
  clear hv
  go_upto_region 11 with fail
  by_cases hov : 4294967295 - ab < v
  · have R0 := HR.out
    rw [if_pos hov] at R0
    have RH := Lib.hid R0
    clear R0
    refine wp_region_ord [0,1,0,0,8,0,56,120,0,256,1016,2040,4088,4088,8191,24575,65535] (.flo [0,1,2,3,4,5,6,7,8,9] (.ext 10 (.flo [11,12,14] (.pur [13] (.one 15 (.flo [16] (.fin))))))) (by kernel_rfl) (by kernel_rfl) (by intro _ _ d _ _ h; cases d <;> exact h) ?_
    (refine ord_flo (pick_cons rfl (pick_cons rfl (pick_cons rfl (pick_cons rfl (pick_cons rfl (pick_cons rfl (pick_cons rfl (pick_cons rfl (pick_cons rfl (pick_cons rfl pick_nil)))))))))) ?_; (repeat (go_big_quiet_step (fail))); refine wpQuiet_nil ?_; show ordWalk _ _ _ _ _ _ _)
    refine ord_ext (pick_cons rfl pick_nil) ?_; intro K_ hK_
    go_wp2_with (refine (rsum_over _ _ _ uu hab hov).mono ?_; rintro r w1' ⟨rfl, rfl⟩)
    refine ordNext.mk (Ext.refl _) ?_
    (refine ord_flo (pick_cons rfl (pick_cons rfl (pick_cons rfl pick_nil))) ?_; (repeat (go_big_quiet_step (fail))); refine wpQuiet_nil ?_; show ordWalk _ _ _ _ _ _ _)
    (refine ord_pur (pick_cons rfl pick_nil) ?_; (repeat (go_big_quiet_step (fail))); refine wpQuiet_nil ?_; show ordWalk _ _ _ _ _ _ _)
    refine ord_one (pick_cons rfl pick_nil) ?_; intro K_ hK_
    go_wp2
    (refine ord_flo (pick_cons rfl pick_nil) ?_; (repeat (go_big_quiet_step (fail))); refine wpQuiet_nil ?_; show ordWalk _ _ _ _ _ _ _)
    refine ord_fin ?_
    go_wp2
    refine bodyPost_ret (v := .tuple #[.agg #[.int .i64 0, .int .u32 0, .slice none 0 0], .int .i64 41]) (by simp only [results, Try.results64]; go_simp) rfl ?_
    rw [RH.out]
    refine rwayNone ?_
    (repeat' (first | with_reducible exact x2 | with_reducible refine Ext.drew ?_ | with_reducible refine Ext.drewN ?_ _ | with_reducible refine Ext.alloc ?_ _ | with_reducible refine Ext.set ?_ ?_ _ | omega | (simp; done) | (simp; omega)))
  · have R0 := HR.out
    rw [if_neg hov] at R0
    have RH := Lib.hid R0
    clear R0
    have uo : v + ab ≤ 4294967295 := by omega
    refine wp_region_ord [0,1,0,0,8,0,56,120,0,256,1016,2040,4088,4088,8191,24575,65535] (.flo [0,1,2,3,4,5,6,7,8,9] (.ext 10 (.flo [11,12,14] (.pur [13] (.one 15 (.flo [16] (.fin))))))) (by kernel_rfl) (by kernel_rfl) (by intro _ _ d _ _ h; cases d <;> exact h) ?_
    (refine ord_flo (pick_cons rfl (pick_cons rfl (pick_cons rfl (pick_cons rfl (pick_cons rfl (pick_cons rfl (pick_cons rfl (pick_cons rfl (pick_cons rfl (pick_cons rfl pick_nil)))))))))) ?_; (repeat (go_big_quiet_step (fail))); refine wpQuiet_nil ?_; show ordWalk _ _ _ _ _ _ _)
    refine ord_ext (pick_cons rfl pick_nil) ?_; intro K_ hK_
    go_wp2_with (refine (rsum_ok _ _ _ uu hab (by omega)).mono ?_; rintro r w1' ⟨rfl, rfl⟩)
    refine ordNext.mk (Ext.refl _) ?_
    (refine ord_flo (pick_cons rfl (pick_cons rfl (pick_cons rfl pick_nil))) ?_; (repeat (go_big_quiet_step (fail))); refine wpQuiet_nil ?_; show ordWalk _ _ _ _ _ _ _)
    (refine ord_pur (pick_cons rfl pick_nil) ?_; (repeat (go_big_quiet_step (fail))); refine wpQuiet_nil ?_; show ordWalk _ _ _ _ _ _ _)
    refine ord_one (pick_cons rfl pick_nil) ?_; intro K_ hK_
    go_wp2
    (refine ord_flo (pick_cons rfl pick_nil) ?_; (repeat (go_big_quiet_step (fail))); refine wpQuiet_nil ?_; show ordWalk _ _ _ _ _ _ _)
    refine ord_fin ?_
    go_wp2_with (at_builtin; refine wpList_append_gen _ elemWords (w.heap.size + 4) _ _ (by rfl) (by rfl) (some ⟨gA, 0, none⟩) K c _ (by rfl) ((ho2.put (K - 1) _).drew) A2 n2 c2 (wds l2) (by rfl) (h2.ext (Ext.drew (x2.set (by simp; omega) _))) (wds_one _) (by omega) (by omega) (by have := x2.size; have := yB.lt; simp; omega) ?_; intro A' c' w1' ho1 hg1 hk1; have yy := Bk.grown (by exact (yB.far (by simpa using g6) _).drew) hg1 (ho2.ne (by omega)); have z1 : w1'.cell? ⟨w.heap.size + 1 + 1 + 1, 0, none⟩ = some (.int .i64 La) := yy.cell 0; have z2 : w1'.cell? ⟨w.heap.size + 1 + 1 + 1, 1, none⟩ = some (.int .u32 aa) := yy.cell 1; have z3 : w1'.cell? ⟨w.heap.size + 1 + 1 + 1, 2, none⟩ = some (.slice (some ⟨gA, 0, none⟩) K c) := yy.cell 2; have z4 := yy.free 2; have rr := Bk.grown (by exact (rB.far (by simpa using g5) _).drew) hg1 (ho2.ne (by omega)); have v1 : w1'.cell? ⟨w.heap.size + 1 + 1, 0, none⟩ = some (.int .i64 0) := rr.cell 0; have v2 : w1'.cell? ⟨w.heap.size + 1 + 1, 1, none⟩ = some (.int .u32 0) := rr.cell 1; have v3 : w1'.cell? ⟨w.heap.size + 1 + 1, 2, none⟩ = some (.slice none 0 0) := rr.cell 2; have v4 := rr.free 0; have v5 := rr.free 1; have v6 := rr.free 2)
    refine bodyPost_ret (v := .tuple #[.agg #[.int .i64 La, .int .u32 aa, .slice A' (K + n2) c'], .int .i64 0]) (by simp only [results, Try.results64]; go_simp) rfl ?_
    rw [RH.out]
    have hl2 := h2.wlen
    have e0 : (l1.take (K - 1) ++ [v + ab] ++ l2).length = K + n2 := by simp; omega
    have e00 : (l1.take (K - 1) ++ [l1.getD (K - 1) 0 + ab] ++ l2).length = K + n2 := by simp; omega
    refine ⟨A', c', by simp only [e0, e00], ?_, ?_⟩
    · have e2 : (wds (l1.take K)).set (K - 1) (.int .u32 (v + ab)) ++ wds l2 = wds (l1.take (K - 1) ++ [l1.getD (K - 1) 0 + ab] ++ l2) := by
        rw [← HVV.out, wds_set_last _ _ _ hK hl1, wds_append]
      rw [e2] at ho1
      have hx : ∀ k, k < w.heap.size + 4 → blk A' c' ≠ some k := fun k hk => ho1.ne hk
      have HV := HVV.out
      simp only [← HV, e00]
      refine Own.far ?_ (hx _ (by simp)) _
      refine Own.far ?_ (hx _ (by simp)) _
      refine Own.far ?_ (hx _ (by simp)) _
      exact Own.far (ho1.mono (by omega)) (hx _ (by simp)) _
    · have e1 : Ext w w1' := (Ext.drew (x2.set (p := ⟨gA, K - 1, none⟩) (by simp; omega) _)).grown hg1 (fun k hk => by have := ho2.lt k hk; omega)
      (repeat' (first | with_reducible exact e1 | with_reducible refine Ext.drew ?_ | with_reducible refine Ext.drewN ?_ _ | with_reducible refine Ext.alloc ?_ _ | with_reducible refine Ext.set ?_ ?_ _ | omega | (simp; done) | (simp; omega)))

set_option maxRecDepth 100000 in
set_option maxHeartbeats 2000000 in
theorem rthen_gt (La aa Lb ab : Int) (A1 A2 : Option Addr) (n1 n2 c1 c2 : Nat) (l2 : List Int) (w : World) (h2 : Sl w 1 A2 n2 c2 (wds l2)) (hn2 : n2 ≤ 1000000) (hn1 : n1 ≤ 1000000) (hLb : (n1 : Int) < Lb) :
    Calls Try.prog 64 #[.agg #[.int .i64 La, .int .u32 aa, .slice A1 n1 c1], .agg #[.int .i64 Lb, .int .u32 ab, .slice A2 n2 c2]] w
      (RWayOut w (⟨wrap64 (wrap64 (La + Lb) - n1), ab, l2⟩, 0)) := by
  have q0 : (Lb == (n1 : Int)) = false := by simp; omega
  go_enter Try.func64, Try.ntmps64
  have WH := Lib.hid (show ∀ (r : Ending) (w' : World), RWayOut w (⟨wrap64 (wrap64 (La + Lb) - n1), ab, l2⟩, 0) r w' → RWayOut w (⟨wrap64 (wrap64 (La + Lb) - n1), ab, l2⟩, 0) r w' from fun _ _ h => h)
  obtain ⟨v, hv⟩ : ∃ v, v = wrap64 (wrap64 (La + Lb) - n1) := ⟨_, rfl⟩
  rw [← hv] at WH
  go_wp2_with (at_builtin; simp only [← hv]; go_loud (refine wpList_append_gen _ elemWords (w.heap.size + 4) _ _ (by rfl) (by rfl) Option.none 0 0 [] (by rfl) (Own.nil _ _ _ _) A2 n2 c2 (wds l2) (by rfl) (h2.ext ((((((Ext.refl w).alloc _).alloc _).alloc _).alloc _))) (wds_one _) (by omega) (by omega) (by simp; try omega) ?_); intro A' c' w1 ho1 hg1 hk1; have yy := Bk.grown (show Bk _ (w.heap.size + 1 + 1 + 1) 47 #[.int .i64 v, .int .u32 ab, .slice Option.none 0 0] from Bk.at (by simp)) hg1 (by simp [blk]); have z1 : w1.cell? ⟨w.heap.size + 1 + 1 + 1, 0, none⟩ = some (.int .i64 v) := yy.cell 0; have z2 : w1.cell? ⟨w.heap.size + 1 + 1 + 1, 1, none⟩ = some (.int .u32 ab) := yy.cell 1; have z3 : w1.cell? ⟨w.heap.size + 1 + 1 + 1, 2, none⟩ = some (.slice none 0 0) := yy.cell 2; have z4 := yy.free 2; have rr := Bk.grown (show Bk _ (w.heap.size + 1 + 1) 47 #[.int .i64 0, .int .u32 0, .slice Option.none 0 0] from (Bk.at (by simp)).alloc _) hg1 (by simp [blk]); have u1 : w1.cell? ⟨w.heap.size + 1 + 1, 0, none⟩ = some (.int .i64 0) := rr.cell 0; have u2 : w1.cell? ⟨w.heap.size + 1 + 1, 1, none⟩ = some (.int .u32 0) := rr.cell 1; have u3 : w1.cell? ⟨w.heap.size + 1 + 1, 2, none⟩ = some (.slice none 0 0) := rr.cell 2; have u4 := rr.free 0; have u5 := rr.free 1; have u6 := rr.free 2)
  refine bodyPost_ret (v := .tuple #[.agg #[.int .i64 v, .int .u32 ab, .slice A' n2 c'], .int .i64 0]) (by simp only [results, Try.results64]; go_simp) rfl ?_
  subst hv
  have hl := h2.wlen
  subst hl
  refine ⟨A', c', rfl, ?_, ?_⟩
  · rw [List.nil_append, Nat.zero_add] at ho1
    have hx : ∀ k, k < w.heap.size + 4 → blk A' c' ≠ some k := fun k hk => ho1.ne hk
    refine Own.far ?_ (hx _ (by simp)) _
    refine Own.far ?_ (hx _ (by simp)) _
    refine Own.far ?_ (hx _ (by simp)) _
    exact Own.far (ho1.mono (by omega)) (hx _ (by simp)) _
  · have e1 : Ext w w1 := ((((((Ext.refl w).alloc _).alloc _).alloc _).alloc _)).grown hg1 (fun k hk => by simp [blk] at hk)
    (repeat' (first | with_reducible exact e1 | with_reducible refine Ext.drew ?_ | with_reducible refine Ext.drewN ?_ _ | with_reducible refine Ext.alloc ?_ _ | with_reducible refine Ext.set ?_ ?_ _ | omega | (simp; done) | (simp; omega)))

theorem rthen_any (La aa Lb ab : Int) (A1 A2 : Option Addr) (n1 n2 c1 c2 : Nat) (l1 l2 : List Int) (w : World) (h1 : Sl w 1 A1 n1 c1 (wds l1)) (h2 : Sl w 1 A2 n2 c2 (wds l2)) (u1 : U32 l1)
    (haa : 0 ≤ aa ∧ aa ≤ 4294967295) (hab : 0 ≤ ab ∧ ab ≤ 4294967295) (hn1 : n1 ≤ 1000000) (hn2 : n2 ≤ 1000000) :
    Calls Try.prog 64 #[.agg #[.int .i64 La, .int .u32 aa, .slice A1 n1 c1], .agg #[.int .i64 Lb, .int .u32 ab, .slice A2 n2 c2]] w (RWayOut w (thenT La aa l1 Lb ab l2)) := by
  have hw1 := h1.wlen
  unfold thenT
  by_cases k1 : Lb < 0
  · rw [if_pos k1]; exact rthen_neg _ _ _ _ _ _ _ _ _ _ _ k1
  rw [if_neg k1]
  by_cases k2 : Lb < l1.length
  · rw [if_pos k2]
    obtain ⟨m, rfl⟩ : ∃ m : Nat, Lb = m := ⟨Lb.toNat, by omega⟩
    obtain ⟨K, rfl⟩ : ∃ K, n1 = K + m := ⟨n1 - m, by omega⟩
    have := rthen_in K m (by omega) La aa ab A1 A2 n2 c1 c2 l1 l2 w h1 h2 u1 hab hn1 hn2
    have e : l1.length - (m : Int).toNat - 1 = K - 1 := by omega
    rw [e]
    exact this
  rw [if_neg k2]
  by_cases k3 : Lb = l1.length
  · rw [if_pos k3]
    have e : Lb = (n1 : Int) := by omega
    rw [e]
    exact rthen_eq La aa ab A1 A2 n1 n2 c1 c2 l2 w h2 haa hab hn2
  rw [if_neg k3]
  have e : (l1.length : Int) = (n1 : Int) := by omega
  rw [e]
  exact rthen_gt La aa Lb ab A1 A2 n1 n2 c1 c2 l2 w h2 hn2 hn1 (by omega)
end Go.Proofs.Yteklohamkmiphaa
namespace Go.Proofs.Yteklohamkmiphaa
open Go.RowKit

theorem rdep_lit {NA : Option Addr} {Nc : Nat} {nodes : List Nm} {EA : Option Addr} {Ec : Nat} {edges : List (Pt × Pt)} {nl el : Nat} {pn : Int} {po : Bool} {pp : Int} {d : Int} (w : World) (h : GrOk w NA Nc nodes EA Ec edges nl el) (hN : ∀ x ∈ nodes, nodeT x.v = true) (hd : (Gm.v ⟨NA, Nc, nodes, EA, Ec, edges⟩).dep ⟨pn, po, pp⟩ = some d) :
    Calls Try.prog 9 #[.agg #[.slice NA nl Nc, .slice EA el Ec], .agg #[.int .i64 pn, .bool po, .int .i64 pp]] w fun e w' => e = .returned (.tuple #[.int .i64 d, .bool true]) ∧ Ext w w' := by
  refine (rdepth_any NA Nc nodes EA Ec edges pn po pp nl el w (Lib.hid h.l) (Lib.hid h.g) (Lib.hid hN)).mono ?_
  rintro e w' ⟨d', rfl, h1, x⟩
  rw [hd] at h1 ⊢
  rw [h1 rfl]
  refine ⟨?_, x⟩
  unfold Gr.dp
  rw [hd]
  rfl
def pmpZ : Pt × Pm := (⟨0, false, 0⟩, Pm.zero)
theorem getD_mapy {α β : Type} (f : α → β) (L : List α) (i : Nat) (a : α) : (L.map f).getD i (f a) = f (L.getD i a) := by
  rw [List.getD_eq_getElem?_getD, List.getD_eq_getElem?_getD, List.getElem?_map]
  cases L[i]? <;> rfl
set_option maxRecDepth 100000 in
set_option maxHeartbeats 8000000 in
theorem rall_any (NA : Option Addr) (Nc : Nat) (nodes : List Nm) (EA : Option Addr) (Ec : Nat) (edges : List (Pt × Pt)) (nl el : Nat) (fn : Int) (fo : Bool) (fp : Int) (st : Bool) (d : Int) (w : World) (hk : Hid (GrOk w NA Nc nodes EA Ec edges nl el)) (hG : Hid (GOK (Gm.v ⟨NA, Nc, nodes, EA, Ec, edges⟩))) (hN : Hid (∀ x ∈ nodes, nodeT x.v = true)) (hd : Hid ((Gm.v ⟨NA, Nc, nodes, EA, Ec, edges⟩).dep ⟨fn, fo, fp⟩ = some d)) :
    Calls Try.prog 37 #[.agg #[.slice NA nl Nc, .slice EA el Ec], .agg #[.int .i64 fn, .bool fo, .int .i64 fp], .bool st] w (RAllOut ⟨NA, Nc, nodes, EA, Ec, edges⟩ ⟨fn, fo, fp⟩ (st = true) w) := by
  obtain ⟨g, hg⟩ : ∃ g : Gm, g = ⟨NA, Nc, nodes, EA, Ec, edges⟩ := ⟨_, rfl⟩
  have HGV := Lib.hid hg
  have G : Hid (GOK g.v) := Lib.hid (by rw [hg]; exact hG.out)
  have F : Hid (GFew g.v) := Lib.hid (by rw [hg]; exact hk.out.f)
  have HDS : Hid ((g.v.dep ⟨fn, fo, fp⟩).isSome) := Lib.hid (by rw [hg, hd.out]; rfl)
  have HDP : Hid (g.v.dp ⟨fn, fo, fp⟩ = d) := Lib.hid (by rw [hg]; unfold Gr.dp; rw [hd.out]; rfl)
  have B9 : Hid ((allS g).length ≤ 1000) := Lib.hid (by rw [hg]; exact hk.out.b)
  obtain ⟨wb0, hwb0⟩ : ∃ w0, w0 = (w.alloc (.cells #[.slice NA nl Nc, .slice EA el Ec] 25)).alloc (.cells #[.int .i64 fn, .bool fo, .int .i64 fp] 27) := ⟨_, rfl⟩
  obtain ⟨b, hb⟩ : ∃ b, b = w.heap.size := ⟨_, rfl⟩
  have XB0 : Hid (Ext w wb0) := Lib.hid (by rw [hwb0]; exact ((Ext.refl w).alloc _).alloc _)
  have BG : Hid (Bk wb0 b 25 #[.slice NA nl Nc, .slice EA el Ec]) := Lib.hid (by rw [hwb0, hb]; exact (Bk.new _ _ _).alloc _)
  have BF : Hid (Bk wb0 (b + 1) 27 #[.int .i64 fn, .bool fo, .int .i64 fp]) := Lib.hid (by rw [hwb0, hb]; exact Bk.at (by simp))
  have HC0 := Lib.hid (rdep_lit wb0 (hk.out.ext XB0.out) hN.out hd.out)
  have g0 := BG.out.cell 0
  have g1 := BG.out.cell 1
  have f0 := BF.out.cell 0
  have f1 := BF.out.cell 1
  have f2 := BF.out.cell 2
  clear hg
  go_enter Try.func37, Try.ntmps37
  go_upto_region 1 with fail
  rw [← hwb0, ← hb]
  clear hwb0 hb
  go_upto_region 3 with (go_at_call 9; go_loud (refine HC0.out.mono ?_); rintro e w0 ⟨rfl, x0⟩; have X0 := Lib.hid (XB0.out.trans x0); have BGW := Lib.hid (BG.out.ext x0); have BFW := Lib.hid (BF.out.ext x0); clear x0)
  clear g0 g1 f0 f1 f2 HC0
  have f0 := BFW.out.cell 0
  have f1 := BFW.out.cell 1
  have f2 := BFW.out.cell 2
  go_upto_if 30 with fail
  clear f0 f1 f2
  obtain ⟨wq, hwq⟩ : ∃ x, x = w0.alloc (.cells #[.int .i64 fn, .bool fo, .int .i64 fp, .int .i64 0, .int .u32 0, .slice none 0 0] 115) := ⟨_, rfl⟩
  have XQ : Hid (Ext w0 wq) := Lib.hid (by rw [hwq]; exact (Ext.refl w0).alloc _)
  have HPI : Hid (pl idW idW (g.v.dp ⟨fn, fo, fp⟩) = true) := Lib.hid (pl_refl (G.out.route (fr := ⟨fn, fo, fp⟩) HDS.out .nil).2)
  have HWQ := Lib.hid hwq
  rw [← hwq]
  clear hwq
  go_cut [9] (fun s9 wx => ∃ (KA : Option Addr) (kn kc : Nat) (KS : List Kw), s9 = .slice KA kn kc ∧ Hid (kn = KS.length) ∧ Hid (RaI w0 wx g ⟨fn, fo, fp⟩ (st = true) [⟨[], ⟨fn, fo, fp⟩, idW, 0, 0⟩] 0 0 0 (some ⟨w0.heap.size, 0, none⟩) 1 [⟨⟨fn, fo, fp⟩, Pm.zero⟩] KA kc KS))
  case first =>
    cases st with
    | false =>
      go_wp2
      go_meet
      case rel => exact ⟨none, 0, 0, [], rfl, Lib.hid rfl, Lib.hid (by rw [HWQ.out]; exact RaI.start_no w0 g ⟨fn, fo, fp⟩ HPI.out)⟩
    | true =>
      have f0 := (BFW.out.ext XQ.out).cell 0
      have f1 := (BFW.out.ext XQ.out).cell 1
      have f2 := (BFW.out.ext XQ.out).cell 2
      have S1 : Hid (Sl ((wq.alloc (.cells #[.int .i64 0, .int .u32 0, .slice none 0 0] 47)).alloc (.cells #[.int .i64 fn, .bool fo, .int .i64 fp, .slice (some ⟨wq.heap.size, 0, none⟩) 1 1] 118)) 4 (some ⟨wq.heap.size + 1, 0, none⟩) 1 1 [.int .i64 fn, .bool fo, .int .i64 fp, .slice (some ⟨wq.heap.size, 0, none⟩) 1 1]) := Lib.hid (by
        have := Sl.one (wq.alloc (.cells #[.int .i64 0, .int .u32 0, .slice none 0 0] 47)) #[.int .i64 fn, .bool fo, .int .i64 fp, .slice (some ⟨wq.heap.size, 0, none⟩) 1 1] 118 4 rfl
        rw [show (wq.alloc (.cells #[.int .i64 0, .int .u32 0, .slice none 0 0] 47)).heap.size = wq.heap.size + 1 by simp] at this
        exact this)
      have hb1 := ((XQ.out.alloc (.cells #[.int .i64 0, .int .u32 0, .slice none 0 0] 47)).alloc (.cells #[.int .i64 fn, .bool fo, .int .i64 fp, .slice (some ⟨wq.heap.size, 0, none⟩) 1 1] 118)).size
      go_wp2_with (at_builtin; go_loud (refine wpList_append_two _ elem_kn w0.heap.size _ _ rfl rfl none 0 0 [] rfl (Own.nil _ _ _ _) (some ⟨wq.heap.size + 1, 0, none⟩) 1 1 [.int .i64 fn, .bool fo, .int .i64 fp, .slice (some ⟨wq.heap.size, 0, none⟩) 1 1] rfl S1.out (by intro u hu; simp only [List.mem_cons, List.not_mem_nil, or_false] at hu; rcases hu with rfl | rfl | rfl | rfl <;> rfl) (by omega) (by decide) hb1 ?_); intro A3 c3 w4 o4 g4 x4; have O4 := Lib.hid o4; have G4 := Lib.hid g4; clear o4 g4 x4)
      go_meet
      case rel => exact ⟨A3, 1, c3, [⟨⟨fn, fo, fp⟩, some ⟨wq.heap.size, 0, none⟩, 1, [Pm.zero]⟩], rfl, Lib.hid rfl, Lib.hid (RaI.start_yes (by trivial) HPI.out HWQ.out G4.out O4.out)⟩
  case rest =>
    obtain ⟨KA, kn, kc, KS, rfl, HKN0, HR0⟩ := hcut
    clear XQ HWQ HPI
    obtain ⟨B, hB⟩ := G.out.ends HDS.out F.out
    have HB := Lib.hid hB
    clear hB
    go_wp2
    go_loopg [9, 10, 11, 12, 13, 14, 15, 16, 17, 18, 19] (B + 1) (fun gg s9 s10 _ _ _ _ _ _ _ _ _ wr => ∃ (Q : List Ent) (i : Nat) (A : Option Addr) (c n : Nat) (P : List Sm) (KA : Option Addr) (kn kc : Nat) (KS : List Kw), s9 = .slice KA kn kc ∧ s10 = .slice A n c ∧ Hid (kn = KS.length) ∧ Hid (n = P.length) ∧ B + 1 - i ≤ gg ∧ Hid (RaI w0 wr g ⟨fn, fo, fp⟩ (st = true) Q i 0 i A c P KA kc KS))
    case atStart => exact ⟨_, 0, _, _, _, _, KA, kn, kc, KS, rfl, rfl, HKN0, Lib.hid rfl, by omega, HR0⟩
    case round =>
      clear HR0 HKN0
      obtain ⟨Q, i, A, c, n, P, KA, kn, kc, KS, rfl, rfl, HKN, HNP, hgg, HI⟩ := hrel
      obtain ⟨wo, hwo⟩ : ∃ wo : World, wo = wr := ⟨_, rfl⟩
      rw [← hwo] at HI ⊢
      clear hwo
      cases P with
      | nil =>
        obtain rfl : n = 0 := HNP.out
        go_wp2
        go_ret
        refine ⟨KA, kn, kc, KS, rfl, ?_⟩
        rw [← HGV.out]
        have q := HI.out.tell G.out F.out HDS.out B9.out X0.out
        rw [← HKN.out] at q
        exact q
      | cons x P =>
        obtain ⟨⟨qn, qo, qp⟩, ⟨xA, xc, ⟨xl, xa, xe⟩⟩⟩ := x
        obtain ⟨I1, f, hf, hq, hw, hy⟩ := HI.out.pop
        obtain ⟨qb, qf, rfl, hPc, hc63, c0, c1, c2, c3, c4, c5⟩ := HI.out.head
        obtain ⟨hdq, gwq⟩ := HI.out.b.good G.out HDS.out hf
        simp only at hq hw
        rw [hq] at hdq
        rw [hq, hw] at gwq
        obtain ⟨nx, hnx⟩ : ∃ n, n = xe.length := ⟨_, rfl⟩
        simp only at c0 c1 c2 c3 c4 c5
        rw [← hnx] at c5
        have hne : n = P.length + 1 := HNP.out
        have hnz : (0 : Int) < (n : Int) := by omega
        have h1n : 1 ≤ n := by omega
        have hnc : n ≤ c := by omega
        have HI1 := Lib.hid I1
        have HF := Lib.hid hf
        have HQ := Lib.hid hq
        have HW := Lib.hid hw
        have HY := Lib.hid hy
        have HGW := Lib.hid gwq
        have HDQ := Lib.hid hdq
        have HNX := Lib.hid hnx
        have HNE := Lib.hid hne
        clear I1 hf hq hw hy gwq hdq hnx hne HNP
        go_upto_region 8 with fail
        obtain ⟨w1, hw1⟩ : ∃ w1, w1 = wo.alloc (.cells #[.int .i64 qn, .bool qo, .int .i64 qp, .int .i64 xl, .int .u32 xa, .slice xA nx xc] 115) := ⟨_, rfl⟩
        have X1 : Hid (Ext wo w1) := Lib.hid (by rw [hw1]; exact (Ext.refl wo).alloc _)
        have B1 : Hid (Bk w1 wo.heap.size 115 #[.int .i64 qn, .bool qo, .int .i64 qp, .int .i64 xl, .int .u32 xa, .slice xA nx xc]) := Lib.hid (by rw [hw1]; exact Bk.new _ _ _)
        have I2 := HI1.out.ext X1.out
        have hbk : ∀ k, blk (some ⟨qb, qf, none⟩) c = some k → k < wo.heap.size := fun k hk => (HI.out.q.lt k hk).2
        rw [← hw1]
        obtain ⟨wb, hwb⟩ : ∃ b, b = wo.heap.size := ⟨_, rfl⟩
        rw [← hwb] at B1 hbk ⊢
        clear hw1 hwb c0 c1 c2 c3 c4 c5
        go_cut [10] from 38 to 126 (fun s10 wx => wx = w1 ∧ ∃ A' c', s10 = .slice A' P.length c' ∧ RaI w0 w1 g ⟨fn, fo, fp⟩ (st = true) Q i 0 (i + 1) A' c' P KA kc KS ∧ ∀ k, blk A' c' = some k → k < wb)
        case first =>
          have hn1 : n - 1 = P.length := by rw [HNE.out]; rfl
          by_cases hc1 : c = 1
          · subst hc1
            rw [if_pos rfl] at I2
            have HI2 := Lib.hid I2
            have HN1 := Lib.hid hn1
            clear I2 hn1 hbk
            go_wp2
            go_meet
            case rel => exact ⟨rfl, _, _, by rw [show P.length = 0 by omega], HI2.out, fun k hk => by rw [Nat.sub_self, blk_zero] at hk; cases hk⟩
          · rw [if_neg hc1, Option.map_some, addr_at] at I2
            have HI2 := Lib.hid I2
            have HN1 := Lib.hid hn1
            have HBK := Lib.hid hbk
            clear I2 hn1 hbk
            go_wp2
            go_meet
            case rel =>
              refine ⟨rfl, _, _, by rw [HN1.out], HI2.out, fun k hk => HBK.out k ?_⟩
              obtain ⟨c', rfl⟩ : ∃ c', c = c' + 1 := ⟨c - 1, by omega⟩
              obtain ⟨c'', rfl⟩ : ∃ c'', c' = c'' + 1 := ⟨c' - 1, by omega⟩
              exact hk
        case rest =>
          obtain ⟨hwc, A', c', rfl, I3, hb3⟩ := hcut
          rw [hwc]
          clear hwc
          have HI3 := Lib.hid I3
          have HB3 : Hid (∀ k, blk A' c' = some k → k ≠ wb) := Lib.hid (fun k hk => Nat.ne_of_lt (hb3 k hk))
          have X01 := Lib.hid (X0.out.trans (HI.out.ex.trans X1.out))
          have e0 := B1.out.cell 0
          have e1 := B1.out.cell 1
          have e2 := B1.out.cell 2
          have g0 := (BGW.out.ext (HI.out.ex.trans X1.out)).cell 0
          have g1 := (BGW.out.ext (HI.out.ex.trans X1.out)).cell 1
          have HST := Lib.hid (rsteps_any NA Nc nodes EA Ec edges nl el qn qo qp w w1 (Lib.hid hk.out.g) (Lib.hid (hk.out.ext X01.out)) hG (Lib.hid (by rw [← HGV.out]; exact HDQ.out)))
          clear I3 hb3 I2 hbk
          go_upto_region 10 with (go_at_call 63; go_loud (refine HST.out.mono ?_); rintro e w2 ⟨nt, t1, t2, A1, A2, L, rfl, tb, hmv, hnt⟩; have TB := Lib.hid tb; have HMV := Lib.hid hmv; clear tb hmv)
          have HRL : Hid (RaL w0 w2 g ⟨fn, fo, fp⟩ (st = true) f wb ⟨qn, qo, qp⟩ ⟨xA, xc, ⟨xl, xa, xe⟩⟩ nt A1 t1 A2 t2 L Q i 0 A' c' P KA kc KS) := Lib.hid ⟨HI3.out.ext TB.out.ex, HF.out, HB3.out, (HY.out.ext X1.out).ext TB.out.ex, by have q := B1.out.ext TB.out.ex; rw [HNX.out] at q; exact q, TB.out.tt.mono (HI.out.ex.trans X1.out).size, TB.out.via.mono (HI.out.ex.trans X1.out).size⟩
          have HNTL := Lib.hid TB.out.ln
          have HTST := Lib.hid TB.out.st
          have HMVL : Hid (∀ jj, jj < nt → ((g.v.mvs f.at').map g.v.mvv)[jj]? = some (stV (L.getD jj pmpZ))) := Lib.hid (fun jj hjj => by
            have hjL : jj < L.length := by rw [← HNTL.out]; exact hjj
            rw [HQ.out, HGV.out, ← HMV.out, List.getElem?_map, List.getD_eq_getElem?_getD, List.getElem?_eq_getElem hjL]; rfl)
          have HNTM : Hid ((g.v.mvs f.at').length = nt) := Lib.hid (by
            have q := congrArg List.length HMV.out
            rw [List.length_map, List.length_map, ← HGV.out, ← HNTL.out] at q
            rw [HQ.out]; exact q.symm)
          have HNTG : Hid (∀ jj, jj < nt → (L.getD jj pmpZ).1 ∈ goals g) := Lib.hid (fun jj hjj => by
            have hjL : jj < L.length := by rw [← HNTL.out]; exact hjj
            have q1 : stV (L.getD jj pmpZ) ∈ L.map stV := List.mem_map.2 ⟨_, getD_mem' pmpZ hjL, rfl⟩
            rw [HMV.out, ← HGV.out, ← steps_mvs g G.out] at q1
            obtain ⟨y, hy, hy2⟩ := List.mem_map.1 q1
            obtain ⟨z, hz, rfl⟩ := List.mem_map.1 hy
            have hz2 := (List.mem_filter.1 hz).1
            have e1 : z.2.q = (L.getD jj pmpZ).1 := congrArg Prod.fst hy2
            rw [← e1]
            exact List.mem_map.2 ⟨z, hz2, rfl⟩)
          obtain ⟨np0, hnp0⟩ : ∃ x, x = P.length := ⟨_, rfl⟩
          rw [← hnp0]
          have HNP0 := Lib.hid hnp0
          clear hnp0 e0 e1 e2 g0 g1 TB HMV HST
          go_wp2
          go_loopg [9, 10, 14, 15, 16, 17, 18, 19] nt (fun gg s9 s10 s14 _ _ _ _ _ wr => ∃ (Q' : List Ent) (j : Nat) (A' : Option Addr) (c' n' : Nat) (P' : List Sm) (KA : Option Addr) (kn kc : Nat) (KS : List Kw), s9 = .slice KA kn kc ∧ s10 = .slice A' n' c' ∧ s14 = .int .i64 j ∧ j ≤ nt ∧ gg = nt - j ∧ Hid (kn = KS.length) ∧ Hid (n' = P'.length) ∧ Hid (RaL w0 wr g ⟨fn, fo, fp⟩ (st = true) f wb ⟨qn, qo, qp⟩ ⟨xA, xc, ⟨xl, xa, xe⟩⟩ nt A1 t1 A2 t2 L Q' i j A' c' P' KA kc KS))
          case atStart => exact ⟨Q, 0, A', c', np0, P, KA, kn, kc, KS, rfl, rfl, rfl, Nat.zero_le _, rfl, HKN, HNP0, HRL⟩
          case round =>
            clear HRL HNP0 HKN HI3 HB3 HI HF HI1
            obtain ⟨Q', j, A', c', n', P', KA, kn, kc, KS, rfl, rfl, rfl, hjs, rfl, HKN, HNP, HR⟩ := hrel
            obtain ⟨wi, hwi⟩ : ∃ x : World, x = wr := ⟨_, rfl⟩
            rw [← hwi] at HR ⊢
            clear hwi
            by_cases hlt : j < nt
            · have hltz : (j : Int) < (nt : Int) := by omega
              have hjL : j < L.length := by rw [← HNTL.out]; exact hlt
              have XW := Lib.hid (X0.out.trans HR.out.ra.ex)
              obtain ⟨pa_, hA2, p0, p1⟩ := els_at pmC 3 pmC_len (Prod.snd pmpZ) HR.out.via.sl (by rw [List.length_map]; exact HNTL.out) (i := j) (by rw [List.length_map]; exact hjL) (by omega)
              obtain ⟨ta_, hA1, t0, t1_⟩ := els_at ptC 3 ptC_len (Prod.fst pmpZ) HR.out.tt.sl (by rw [List.length_map]; exact HNTL.out) (i := j) (by rw [List.length_map]; exact hjL) (by omega)
              subst hA1 hA2
              have hst := HTST.out _ (getD_mem' pmpZ hjL)
              have hmj := HMVL.out j hlt
              have hgo := HNTG.out j hlt
              rw [getD_mapy] at p0 p1 t0 t1_
              obtain ⟨⟨⟨yn, yo, yp⟩, ⟨bA, bc, ⟨bl, ba, be⟩⟩⟩, hLj⟩ : ∃ e, L.getD j pmpZ = e := ⟨_, rfl⟩
              rw [hLj] at p0 p1 t0 t1_ hst hmj hgo
              have p2 := p1 1 _ rfl
              have p1 := p1 0 _ rfl
              have p0 := p0 _ rfl
              have t2_ := t1_ 1 _ rfl
              have t1_ := t1_ 0 _ rfl
              have t0 := t0 _ rfl
              simp only at p0 p1 p2 t0 t1_ t2_ hst hgo
              obtain ⟨bn, hbn⟩ : ∃ x, x = be.length := ⟨_, rfl⟩
              rw [← hbn] at p2
              rw [List.getElem?_map] at hmj
              obtain ⟨m, hm1, hm2⟩ : ∃ m, (g.v.mvs f.at')[j]? = some m ∧ g.v.mvv m = (⟨yn, yo, yp⟩, ⟨bl, ba, be⟩) := by
                cases hmm : (g.v.mvs f.at')[j]? with
                | none => rw [hmm] at hmj; cases hmj
                | some m => rw [hmm] at hmj; injection hmj with hmj; exact ⟨m, rfl, hmj⟩
              have ht : g.v.tgt m = ⟨yn, yo, yp⟩ := congrArg Prod.fst hm2
              have hmw : g.v.mw m = ⟨bl, ba, be⟩ := congrArg Prod.snd hm2
              obtain ⟨gB, gt⟩ := G.out.goodB (List.mem_of_getElem? hm1) (by rw [HQ.out]; exact HDQ.out)
              rw [ht] at gt
              have gW : GoodW (g.v.dp ⟨fn, fo, fp⟩) (g.v.dp f.at') f.w := by rw [HQ.out, HW.out]; exact HGW.out
              have nx3 : nx ≤ 3 := by have h1 := HGW.out.pe; have h2 := HGW.out.p3; have h3 := HGW.out.l1; rw [HNX.out]; simp only at h1 h2 h3; omega
              have nb6 : bn ≤ 6 := by have h1 := gB.qe; have h2 := gB.q3; have h3 := gB.b1; have h4 := (G.out.dp3 f.at').2; have h5 := (G.out.dp3 f.at').1; rw [hmw] at h1 h3; rw [hbn]; simp only at h1 h3; omega
              obtain ⟨⟨⟨vl, va, ve⟩, er⟩, hr⟩ : ∃ r, thenT xl xa xe bl ba be = r := ⟨_, rfl⟩
              obtain ⟨nv, hnv⟩ : ∃ x, x = ve.length := ⟨_, rfl⟩
              have HTN : Hid (∀ W, Ext wi W → Calls Try.prog 64 #[.agg #[.int .i64 xl, .int .u32 xa, .slice xA nx xc], .agg #[.int .i64 bl, .int .u32 ba, .slice bA bn bc]] W fun r w' => ∃ A3 c3, r = .returned (.tuple #[.agg #[.int .i64 vl, .int .u32 va, .slice A3 nv c3], .int .i64 er]) ∧ Own w' W.heap.size 45 1 A3 nv c3 (wds ve) ∧ Ext W w') := Lib.hid (fun W e => by
                have q := rthen_any xl xa bl ba xA bA nx bn xc bc xe be W (by rw [HNX.out]; exact (HR.out.wy.ext e).pmR) (by rw [hbn]; exact hst.2.1.ext (XW.out.trans e)) HGW.out.u ⟨HGW.out.a0, HGW.out.a1⟩ hst.2.2.1 (by omega) (by omega)
                rw [hr] at q
                rw [hnv]
                exact q)
              have HTH : Hid (thn f.w (g.v.mw m) = (⟨vl, va, ve⟩, er)) := Lib.hid (by rw [HW.out, hmw]; exact hr)
              have HM := Lib.hid hm1
              have HTG := Lib.hid ht
              have HLJ : Hid ((L.getD j pmpZ).1 = ⟨yn, yo, yp⟩) := Lib.hid (by rw [hLj])
              have HGB := Lib.hid gB
              have HGF := Lib.hid gW
              have HGO := Lib.hid hgo
              have HNV := Lib.hid hnv
              have T0 := Lib.hid t0
              have T1 := Lib.hid t1_
              have T2 := Lib.hid t2_
              have P0 := Lib.hid p0
              have P1 := Lib.hid p1
              have P2 := Lib.hid p2
              have BX : Hid (Bk wi wb 115 #[.int .i64 qn, .bool qo, .int .i64 qp, .int .i64 xl, .int .u32 xa, .slice xA nx xc]) := Lib.hid (by rw [HNX.out]; exact HR.out.bk)
              clear hst hmj hgo hLj hm1 hm2 ht hmw gB gt gW nx3 nb6 hr hnv hbn p0 p1 p2 t0 t1_ t2_ hjL
              have XE : Ext wi wi.drew := (Ext.refl wi).drew
              have p0 : ∀ y : Xt wi.drew, y.W.cell? (pa_.add (j * 3)) = some (.int .i64 bl) := fun y => (XE.trans y.x).cell P0.out
              have p1 : ∀ y : Xt wi.drew, y.W.cell? ⟨(pa_.add (j * 3)).block, (pa_.add (j * 3)).off + 1, none⟩ = some (.int .u32 ba) := fun y => (XE.trans y.x).cell P1.out
              have p2 : ∀ y : Xt wi.drew, y.W.cell? ⟨(pa_.add (j * 3)).block, (pa_.add (j * 3)).off + 2, none⟩ = some (.slice bA bn bc) := fun y => (XE.trans y.x).cell P2.out
              have q3 : ∀ y : Xt wi.drew, y.W.cell? ⟨wb, 3, none⟩ = some (.int .i64 xl) := fun y => (BX.out.ext (XE.trans y.x)).cell 3
              have q4 : ∀ y : Xt wi.drew, y.W.cell? ⟨wb, 4, none⟩ = some (.int .u32 xa) := fun y => (BX.out.ext (XE.trans y.x)).cell 4
              have q5 : ∀ y : Xt wi.drew, y.W.cell? ⟨wb, 5, none⟩ = some (.slice xA nx xc) := fun y => (BX.out.ext (XE.trans y.x)).cell 5
              go_upto_region 13 with fail
              go_cut [15, 16] from 53 to 126 (fun s15 s16 wx => ∃ (pb : Nat) (A3 : Option Addr) (c3 : Nat), s15 = .pointer (some ⟨pb, 0, none⟩) ∧ s16 = .int .i64 er ∧ Hid (wi.heap.size ≤ pb) ∧ Hid (Ext wi wx) ∧ Hid (Bk wx pb 47 #[.int .i64 vl, .int .u32 va, .slice A3 nv c3]) ∧ Hid (Own wx wi.heap.size 45 1 A3 nv c3 (wds ve)))
              case first =>
                refine wp_region_ord [0,1,0,0,12,28,63,127,255,255,0,1535,4095] (.flo [0,1,2,3,4,5] (.both 6 10 (.flo [7,8] (.pur [9] (.ext 10 (.one 11 (.flo [12] (.fin)))))) (.ext 6 (.flo [7,8] (.pur [9] (.one 11 (.flo [12] (.fin)))))))) (by kernel_rfl) (by kernel_rfl) (by intro _ _ d _ _ h; cases d <;> exact h) ?_
                (refine ord_flo (pick_cons rfl (pick_cons rfl (pick_cons rfl (pick_cons rfl (pick_cons rfl (pick_cons rfl pick_nil)))))) ?_; (repeat (go_big_quiet_step (fail))); refine wpQuiet_nil ?_; show ordWalk _ _ _ _ _ _ _)
                refine ord_both (pick_cons rfl pick_nil) (pick_cons rfl pick_nil) ?_ ?_ <;> intro K_ hK_
                · go_wp2_with (go_at_call 64; go_loud (refine (HTN.out _ XE).mono ?_); rintro r w3 ⟨A3, c3, rfl, o3, x3⟩)
                  refine ordNext.mk x3 ?_
                  (refine ord_flo (pick_cons rfl (pick_cons rfl pick_nil)) ?_; (repeat (go_big_quiet_step (fail))); refine wpQuiet_nil ?_; show ordWalk _ _ _ _ _ _ _)
                  (refine ord_pur (pick_cons rfl pick_nil) ?_; (repeat (go_big_quiet_step (fail))); refine wpQuiet_nil ?_; show ordWalk _ _ _ _ _ _ _)
                  refine ord_ext (pick_cons rfl pick_nil) ?_; intro K_ hK_
                  go_wp2
                  refine ordNext.mk ((Ext.refl _).alloc _) ?_
                  have bz : Bk (w3.alloc (.cells #[.int .i64 0, .int .u32 0, .slice none 0 0] 47)) w3.heap.size 47 #[.int .i64 0, .int .u32 0, .slice none 0 0] := Bk.new _ _ _
                  have d0 := bz.cell 0
                  have d1 := bz.cell 1
                  have d2 := bz.cell 2
                  have d3 := bz.free 0
                  have d4 := bz.free 1
                  have d5 := bz.free 2
                  refine ord_one (pick_cons rfl pick_nil) ?_; intro K_ hK_
                  go_wp2
                  (refine ord_flo (pick_cons rfl pick_nil) ?_; (repeat (go_big_quiet_step (fail))); refine wpQuiet_nil ?_; show ordWalk _ _ _ _ _ _ _)
                  refine ord_fin ?_
                  go_wp2_with fail
                  go_meet
                  case rel => exact ⟨_, A3, c3, rfl, rfl, Lib.hid (Nat.le_trans XE.size x3.size), Lib.hid ((XE.trans x3).alloc _), Lib.hid (Bk.new _ _ _), Lib.hid ((o3.mono XE.size).alloc _)⟩
                · go_wp2
                  refine ordNext.mk ((Ext.refl _).alloc _) ?_
                  obtain ⟨w2_, hw2_⟩ : ∃ w2_, w2_ = (wi.alloc (.cells #[.int .i64 0, .int .u32 0, .slice none 0 0] 47)).drew := ⟨_, rfl⟩
                  have b2 : Bk w2_ wi.heap.size 47 #[.int .i64 0, .int .u32 0, .slice none 0 0] := by subst hw2_; exact (Bk.new _ _ _).drew
                  have x2 : Ext wi.drew w2_ := by subst hw2_; exact (Ext.refl wi.drew).alloc _
                  rw [← hw2_]
                  clear hw2_
                  have hb2 := b2.lt
                  refine ord_ext (pick_cons rfl pick_nil) ?_; intro K_ hK_
                  go_wp2_with (go_at_call 64; go_loud (refine (HTN.out _ (XE.trans x2)).mono ?_); rintro r w3 ⟨A3, c3, rfl, o3, x3⟩)
                  refine ordNext.mk x3 ?_
                  have bz := b2.ext x3
                  have d0 := bz.cell 0
                  have d1 := bz.cell 1
                  have d2 := bz.cell 2
                  have d3 := bz.free 0
                  have d4 := bz.free 1
                  have d5 := bz.free 2
                  (refine ord_flo (pick_cons rfl (pick_cons rfl pick_nil)) ?_; (repeat (go_big_quiet_step (fail))); refine wpQuiet_nil ?_; show ordWalk _ _ _ _ _ _ _)
                  (refine ord_pur (pick_cons rfl pick_nil) ?_; (repeat (go_big_quiet_step (fail))); refine wpQuiet_nil ?_; show ordWalk _ _ _ _ _ _ _)
                  refine ord_one (pick_cons rfl pick_nil) ?_; intro K_ hK_
                  go_wp2
                  (refine ord_flo (pick_cons rfl pick_nil) ?_; (repeat (go_big_quiet_step (fail))); refine wpQuiet_nil ?_; show ordWalk _ _ _ _ _ _ _)
                  refine ord_fin ?_
                  go_wp2_with fail
                  go_meet
                  case rel =>
                    have hgw : wi.heap.size ≤ wi.heap.size := Nat.le_refl _
                    exact ⟨_, A3, c3, rfl, rfl, Lib.hid hgw, Lib.hid (((((XE.trans x2).trans x3).set hgw _).set hgw _).set hgw _), Lib.hid (((bz.set 0 _).set 1 _).set 2 _), Lib.hid ((((o3.far (o3.ne hb2) _).far (o3.ne hb2) _).far (o3.ne hb2) _).mono (Nat.le_trans XE.size x2.size))⟩
              case rest =>
                clear p0 p1 p2 q3 q4 q5 XE
                obtain ⟨pb, A3, c3, rfl, rfl, HPB, XC, BP, OP⟩ := hcut
                by_cases her : ¬ er = 0
                · have hne : (er != 0) = true := by simpa using her
                  have HER := Lib.hid her
                  clear her
                  go_wp2
                  go_roundg (nt - (j + 1))
                  case measure => omega
                  case rel => exact ⟨Q', j + 1, A', c', n', P', KA, kn, kc, KS, rfl, rfl, by go_num, by omega, rfl, HKN, HNP, Lib.hid ((HR.out.ext XC.out).off HM.out (by rw [HTH.out]; exact HER.out))⟩
                obtain rfl : er = 0 := by omega
                clear her
                obtain ⟨w8, hw8⟩ : ∃ x : World, x = wc := ⟨_, rfl⟩
                rw [← hw8] at XC BP OP ⊢
                clear hw8
                have HRC := Lib.hid (HR.out.ext XC.out)
                have HWP : Hid (Wy w0 w8 ⟨A3, c3, ⟨vl, va, ve⟩⟩) := Lib.hid (by
                  have q := Own.mono OP.out HR.out.ra.ex.size
                  rw [HNV.out] at q
                  exact q)
                have hkn9 : kn ≤ 1001 := by have q := HR.out.ra.few B9.out; rw [HKN.out]; exact q
                go_upto_block 4 with fail
                go_cut [17] from 71 to 88 (fun s17 wx => ∃ k : Nat, s17 = .int .i64 k ∧ k ≤ kn ∧ Hid (∀ i, i < k → (KS.getD i Kw.zero).q ≠ ⟨yn, yo, yp⟩) ∧ Hid (k < kn → (KS.getD k Kw.zero).q = ⟨yn, yo, yp⟩) ∧ Hid (Ext w8 wx))
                case first =>
                  go_wp2_with fail
                  go_loopg [17] kn (fun gg s17 wr => ∃ k : Nat, s17 = .int .i64 k ∧ k ≤ kn ∧ gg = kn - k ∧ Hid (∀ i, i < k → (KS.getD i Kw.zero).q ≠ ⟨yn, yo, yp⟩) ∧ Hid (Ext w8 wr))
                  case atStart => exact ⟨0, rfl, Nat.zero_le _, rfl, Lib.hid (fun i h => absurd h (Nat.not_lt_zero _)), Lib.hid (Ext.refl _)⟩
                  case round =>
                    obtain ⟨k, rfl, hk9, rfl, HNE9, XK⟩ := hrel
                    by_cases hkl : k < kn
                    · have hkz : (k : Int) < (kn : Int) := by omega
                      have hkL : k < KS.length := by rw [← HKN.out]; exact hkl
                      obtain ⟨kb, hKA, k0, k1⟩ := els_at knC 4 knC_len Kw.zero (HRC.out.ra.ext XK.out).ks.sl rfl hkL (by omega)
                      subst hKA
                      obtain ⟨⟨⟨un, uo, up⟩, uA, uc, uw⟩, hu⟩ : ∃ e, KS.getD k Kw.zero = e := ⟨_, rfl⟩
                      rw [hu] at k0 k1
                      have k2 := k1 1 _ rfl
                      have k1 := k1 0 _ rfl
                      have k0 := k0 _ rfl
                      simp only at k0 k1 k2
                      have t0 := (XC.out.trans XK.out).cell T0.out
                      have t1_ := (XC.out.trans XK.out).cell T1.out
                      have t2_ := (XC.out.trans XK.out).cell T2.out
                      have HU := Lib.hid hu
                      clear hu hkL
                      by_cases hue : (⟨un, uo, up⟩ : Pt) = ⟨yn, yo, yp⟩
                      · have HUE := Lib.hid hue
                        injection hue with h1 h2 h3
                        subst h1 h2 h3
                        go_upto_region 16 with fail
                        go_quiet (fail)
                        go_wp2_with fail
                        go_meet
                        case rel => exact ⟨k, rfl, hk9, HNE9, Lib.hid (fun _ => by rw [HU.out]), Lib.hid (XK.out.trans ((Ext.refl _).drewN _))⟩
                      · have HUE := Lib.hid hue
                        have hpp := pt_parts hue
                        clear hue
                        have HNE8 : Hid (∀ i, i < k + 1 → (KS.getD i Kw.zero).q ≠ ⟨yn, yo, yp⟩) := Lib.hid (fun i hi e => by
                          by_cases h : i = k
                          · rw [h, HU.out] at e; exact HUE.out e
                          · exact HNE9.out i (by omega) e)
                        rcases hpp with h1 | ⟨h1, h2⟩ | ⟨h1, h2, h3⟩
                        all_goals
                          go_upto_region 16 with fail
                          go_quiet (fail)
                          go_wp2_with fail
                          go_roundg (kn - (k + 1))
                          case measure => omega
                          case rel => exact ⟨k + 1, by go_num, by omega, rfl, HNE8, Lib.hid (XK.out.trans ((Ext.refl _).drewN _))⟩
                    · obtain rfl : kn = k := by omega
                      have hkz : ¬ (kn : Int) < (kn : Int) := by omega
                      go_upto_region 16 with fail
                      go_quiet (fail)
                      go_wp2_with fail
                      go_meet
                      case rel => exact ⟨kn, rfl, Nat.le_refl _, HNE9, Lib.hid (fun h => absurd h (Nat.lt_irrefl _)), Lib.hid (XK.out.trans ((Ext.refl _).drewN _))⟩
                case rest =>
                  obtain ⟨k, rfl, hk9, HNE9, HFD, XK⟩ := hcut
                  obtain ⟨w9, hw9⟩ : ∃ x : World, x = wc := ⟨_, rfl⟩
                  rw [← hw9] at XK ⊢
                  clear hw9
                  go_upto_if 92 with fail
                  go_cut [9] from 53 to 126 (fun s9 wx => ∃ (KA' : Option Addr) (kn' kc' : Nat) (KS' : List Kw), s9 = .slice KA' kn' kc' ∧ k < kn' ∧ kn' ≤ 1001 ∧ Hid (kn' = KS'.length) ∧ Hid ((KS'.getD k Kw.zero).q = ⟨yn, yo, yp⟩) ∧ Hid (Bk wx pb 47 #[.int .i64 vl, .int .u32 va, .slice A3 nv c3]) ∧ Hid (Wy w0 wx ⟨A3, c3, ⟨vl, va, ve⟩⟩) ∧ Hid (RaL w0 wx g ⟨fn, fo, fp⟩ (st = true) f wb ⟨qn, qo, qp⟩ ⟨xA, xc, ⟨xl, xa, xe⟩⟩ nt (some ta_) t1 (some pa_) t2 L Q' i j A' c' P' KA' kc' KS'))
                  case first =>
                    by_cases hkl : k < kn
                    · have hkb : ((k : Int) == (kn : Int)) = false := by simp; omega
                      go_wp2_with fail
                      go_meet
                      case rel => exact ⟨KA, kn, kc, KS, rfl, hkl, hkn9, HKN, Lib.hid (HFD.out hkl), Lib.hid (BP.out.ext XK.out), Lib.hid (HWP.out.ext XK.out), Lib.hid (HRC.out.ext XK.out)⟩
                    · obtain rfl : kn = k := by omega
                      have XCK := Lib.hid (XC.out.trans XK.out)
                      have t0 := XCK.out.cell T0.out
                      have t1_ := XCK.out.cell T1.out
                      have t2_ := XCK.out.cell T2.out
                      have HRA := Lib.hid ((HRC.out.ext XK.out).ext ((Ext.refl w9).alloc (.cells #[.int .i64 yn, .bool yo, .int .i64 yp, .slice none 0 0] 118)))
                      have HO : Hid (Own (w9.alloc (.cells #[.int .i64 yn, .bool yo, .int .i64 yp, .slice none 0 0] 118)) w0.heap.size 118 4 KA kn kc (KS.flatMap knC)) := Lib.hid (by rw [HKN.out]; exact HRA.out.ra.ks)
                      have S1 := Lib.hid (Sl.one w9 #[.int .i64 yn, .bool yo, .int .i64 yp, .slice none 0 0] 118 4 rfl)
                      have hb1 := HRA.out.ra.ex.size
                      go_wp2_with (at_builtin; go_loud (refine wpList_append_two _ elem_kn w0.heap.size _ _ rfl rfl KA kn kc (KS.flatMap knC) rfl HO.out (some ⟨w9.heap.size, 0, none⟩) 1 1 [.int .i64 yn, .bool yo, .int .i64 yp, .slice none 0 0] rfl S1.out (by intro u hu; simp only [List.mem_cons, List.not_mem_nil, or_false] at hu; rcases hu with rfl | rfl | rfl | rfl <;> rfl) (by omega) (by decide) hb1 ?_); intro A6 c6 w6_ o6 g6 x6; have O6 := Lib.hid o6; have G6 := Lib.hid g6; clear o6 g6 x6)
                      go_meet
                      case rel =>
                        have hpl := HRA.out.place (t := ⟨yn, yo, yp⟩) (fun x hx e => by
                          obtain ⟨q, hq, rfl⟩ := List.getElem_of_mem hx
                          have := HNE9.out q (by rw [HKN.out]; exact hq)
                          rw [List.getD_eq_getElem?_getD, List.getElem?_eq_getElem hq] at this
                          exact this e) (.inr HGO.out) G6.out (by rw [← HKN.out]; exact O6.out)
                        have u6 : Upd (fun b => blk KA kc = some b) (w9.alloc (.cells #[.int .i64 yn, .bool yo, .int .i64 yp, .slice none 0 0] 118)) w6_ := (Upd.refl _ _).grown G6.out (fun b hb => .inl hb)
                        have bp := (BP.out.ext XK.out).ext ((Ext.refl w9).alloc (.cells #[.int .i64 yn, .bool yo, .int .i64 yp, .slice none 0 0] 118))
                        refine ⟨A6, kn + 1, c6, KS ++ [⟨⟨yn, yo, yp⟩, none, 0, []⟩], rfl, by omega, ?_, Lib.hid (by rw [List.length_append, ← HKN.out]; rfl), Lib.hid ?_, Lib.hid (bp.updB u6 (fun e => absurd ((HRA.out.ra.ks.ty e).ne bp.ty) (by decide))), Lib.hid (((HWP.out.ext XK.out).ext ((Ext.refl w9).alloc _)).upd u6 (fun b hb e => absurd (e.ne (HRA.out.ra.ks.ty hb)) (by decide))), Lib.hid hpl⟩
                        · have q := hpl.ra.few B9.out
                          rw [List.length_append, ← HKN.out] at q
                          exact q
                        · rw [List.getD_eq_getElem?_getD, List.getElem?_append_right (by rw [HKN.out]; exact Nat.le_refl _), HKN.out, Nat.sub_self]; rfl
                  case rest =>
                    clear HRC HWP BP HKN hkn9 hk9 HNE9 HFD
                    obtain ⟨KA', kn', kc', KS', rfl, hkk, hkn', HKN', HKQ, BP', WP, HR'⟩ := hcut
                    obtain ⟨w10, hw10⟩ : ∃ x : World, x = wc := ⟨_, rfl⟩
                    rw [← hw10] at BP' WP HR' ⊢
                    clear hw10
                    have hkL : k < KS'.length := by rw [← HKN'.out]; exact hkk
                    have hkz : (k : Int) < (kn' : Int) := by omega
                    obtain ⟨gk, hKA, hgk, hg0, hg1, hcell, hfree⟩ := HR'.out.ra.ks.form (by omega)
                    have k3 := hcell (k * 4 + 3) _ (by rw [els_get knC 4 knC_len Kw.zero KS' k 3 hkL (by omega)]; rfl)
                    have kf := hfree (k * 4 + 3)
                    have hmm := getD_mem' Kw.zero hkL
                    have hwys := HR'.out.ra.wys G.out HDS.out hmm
                    have hfew := HR'.out.ra.fewK G.out F.out HDS.out hmm
                    have hkw := kw_at KS' k hkL HR'.out.ra.kd
                    have hkq := HKQ.out
                    obtain ⟨⟨uq, uA, uc, uw⟩, hu⟩ : ∃ e, KS'.getD k Kw.zero = e := ⟨_, rfl⟩
                    rw [hu] at k3 hwys hfew hkw hkq
                    simp only at k3 hwys hfew hkw hkq
                    obtain ⟨un, hun⟩ : ∃ x, x = uw.length := ⟨_, rfl⟩
                    rw [← hun] at k3 hwys hfew
                    rw [hkq] at hkw
                    have HU := Lib.hid hu
                    have HUQ := Lib.hid hkq
                    have HUN := Lib.hid hun
                    have HKW := Lib.hid hkw
                    have HKA := Lib.hid hKA
                    have HGK := Lib.hid hgk
                    have HKL := Lib.hid hkL
                    have K3 := Lib.hid k3
                    have KF := Lib.hid kf
                    have HWS := Lib.hid hwys
                    have HTGW : GoodW (g.v.dp ⟨fn, fo, fp⟩) (g.v.dp (g.v.tgt m)) ⟨vl, va, ve⟩ := HGB.out.goes HGF.out HTH.out
                    have HTGG := Lib.hid HTGW
                    have hpbg : pb ≠ gk := fun e => absurd ((HR'.out.ra.ks.ty hgk).ne (e ▸ BP'.out.ty)) (by decide)
                    have HPG := Lib.hid hpbg
                    have htag : ta_.block ≠ gk := fun e => by
                      have hle := HR'.out.tt.le.1
                      obtain ⟨t9, rfl⟩ : ∃ t9, t1 = t9 + 1 := ⟨t1 - 1, by omega⟩
                      have hty := HR'.out.tt.ty (k := ta_.block) rfl
                      exact absurd ((HR'.out.ra.ks.ty hgk).ne (e ▸ hty)) (by decide)
                    have htab : ∀ z, (ta_.add z).block ≠ gk := fun z e => htag (by rw [← e]; unfold Addr.add; split <;> rfl)
                    have HTA := Lib.hid htab
                    have HT0 := Lib.hid (show ∃ z, HR'.out.tt.sl = z from ⟨_, rfl⟩)
                    obtain ⟨ta2, hta2, s0, s1⟩ := els_at ptC 3 ptC_len (Prod.fst pmpZ) HR'.out.tt.sl (by rw [List.length_map]; exact HNTL.out) (i := j) (by rw [List.length_map, ← HNTL.out]; exact hlt) (by omega)
                    injection hta2 with hta2
                    subst hta2
                    rw [getD_mapy] at s0 s1
                    have HLJ2 : Hid ((L.getD j pmpZ).1 = ⟨yn, yo, yp⟩) := HLJ
                    rw [HLJ2.out] at s0 s1
                    have s2 := s1 1 _ rfl
                    have s1 := s1 0 _ rfl
                    have s0 := s0 _ rfl
                    simp only at s0 s1 s2
                    have S0 := Lib.hid s0
                    have S1 := Lib.hid s1
                    have S2 := Lib.hid s2
                    clear HT0 HLJ2 hcell hfree hmm hwys hkw hkq hu hun k3 kf HTGW hpbg htag htab s0 s1 s2
                    subst hKA
                    have XE : Ext w10 w10.drew := (Ext.refl w10).drew
                    have k3 : ∀ y : Xt w10.drew, y.W.cell? ⟨gk, k * 4 + 3, none⟩ = some (.slice uA un uc) := fun y => (XE.trans y.x).cell K3.out
                    have r0 : ∀ y : Xt w10.drew, y.W.cell? ⟨pb, 0, none⟩ = some (.int .i64 vl) := fun y => (BP'.out.ext (XE.trans y.x)).cell 0
                    have r1 : ∀ y : Xt w10.drew, y.W.cell? ⟨pb, 1, none⟩ = some (.int .u32 va) := fun y => (BP'.out.ext (XE.trans y.x)).cell 1
                    have r2 : ∀ y : Xt w10.drew, y.W.cell? ⟨pb, 2, none⟩ = some (.slice A3 nv c3) := fun y => (BP'.out.ext (XE.trans y.x)).cell 2
                    have hve : nv ≤ 1000000 := by have h1 := HTGG.out.pe; have h2 := HTGG.out.p3; have h3 := HTGG.out.l1; rw [HNV.out]; simp only at h1 h2 h3; omega
                    have HSV : Hid (∀ W, Ext w10 W → Sl W 1 A3 nv c3 (wds ve)) := Lib.hid (fun W e => by rw [HNV.out]; exact (WP.out.ext e).pmR)
                    by_cases hcov : ∃ x ∈ uw, pl x.w ⟨vl, va, ve⟩ d = true
                    · have HCV := Lib.hid hcov
                      have HWT := Lib.hid (fun W (e : Ext w10 W) => rwith_no vl va A3 nv c3 ve d uA un uc uw W (Lib.hid (HWS.out.ext e)) (Lib.hid (HSV.out W e)) (Lib.hid HTGG.out.u) hve (Lib.hid hcov))
                      clear hcov
                      go_upto_region 20 with fail
                      refine wp_region_ord [0,0,3,7,15,0,0,127,255,511,511,1023,4095] (.flo [0,1,2,3,4,5,6] (.one 7 (.flo [8,9,10,11,12] (.fin)))) (by kernel_rfl) (by kernel_rfl) (by intro _ _ d _ _ h; cases d <;> exact h) ?_
                      (refine ord_flo (pick_cons rfl (pick_cons rfl (pick_cons rfl (pick_cons rfl (pick_cons rfl (pick_cons rfl (pick_cons rfl pick_nil))))))) ?_; (repeat (go_big_quiet_step (fail))); refine wpQuiet_nil ?_; show ordWalk _ _ _ _ _ _ _)
                      refine ord_one (pick_cons rfl pick_nil) ?_; intro K_ hK_
                      go_wp2_with (go_at_call 65; go_loud (refine (HWT.out _ XE).mono ?_); rintro r w11 ⟨rfl, x11⟩; have X11 := Lib.hid (XE.trans x11); clear x11)
                      (refine ord_flo (pick_cons rfl (pick_cons rfl (pick_cons rfl (pick_cons rfl (pick_cons rfl pick_nil))))) ?_; (repeat (go_big_quiet_step (fail))); refine wpQuiet_nil ?_; show ordWalk _ _ _ _ _ _ _)
                      refine ord_fin ?_
                      clear k3 r0 r1 r2 XE
                      have kz := X11.out.cell K3.out
                      have kz2 : w11.frozen? ⟨gk, k * 4 + 3, none⟩ = false := own_free (HR'.out.ra.ext X11.out).ks (by omega) _
                      go_wp2
                      go_roundg (nt - (j + 1))
                      case measure => omega
                      case rel =>
                        have hr := (HR'.out.ext X11.out).same rfl HKL.out HGK.out
                        rw [HU.out] at hr
                        obtain ⟨y, hy, hy2⟩ := HCV.out
                        have hr2 := hr.skip HM.out HTH.out (y := y) (by rw [HTG.out, HKW.out]; exact hy) (by rw [HDP.out]; exact hy2)
                        rw [← HUN.out] at hr2
                        exact ⟨Q', j + 1, A', c', n', P', some ⟨gk, 0, none⟩, kn', kc', KS', rfl, rfl, by go_num, by omega, rfl, HKN', HNP, Lib.hid hr2⟩
                    · have hno : ∀ x ∈ uw, pl x.w ⟨vl, va, ve⟩ d = false := fun x hx => by
                        cases e : pl x.w ⟨vl, va, ve⟩ d with
                        | false => rfl
                        | true => exact absurd ⟨x, hx, e⟩ hcov
                      have HNO := Lib.hid hno
                      have HWT := Lib.hid (fun W (e : Ext w10 W) => rwith_yes vl va A3 nv c3 ve d uA un uc uw W (Lib.hid (HWS.out.ext e)) (Lib.hid (HSV.out W e)) (Lib.hid HTGG.out.u) hve HNV (Lib.hid hno) hfew)
                      clear hcov hno
                      go_upto_region 20 with fail
                      refine wp_region_ord [0,0,3,7,15,0,0,127,255,511,511,1023,4095] (.flo [0,1,2,3,4,5,6] (.one 7 (.flo [8,9,10,11,12] (.fin)))) (by kernel_rfl) (by kernel_rfl) (by intro _ _ d _ _ h; cases d <;> exact h) ?_
                      (refine ord_flo (pick_cons rfl (pick_cons rfl (pick_cons rfl (pick_cons rfl (pick_cons rfl (pick_cons rfl (pick_cons rfl pick_nil))))))) ?_; (repeat (go_big_quiet_step (fail))); refine wpQuiet_nil ?_; show ordWalk _ _ _ _ _ _ _)
                      refine ord_one (pick_cons rfl pick_nil) ?_; intro K_ hK_
                      go_wp2_with (go_at_call 65; go_loud (refine (HWT.out _ XE).mono ?_); rintro r w11 ⟨B2, bn2, d2, M2, rfl, hbn2, ow2, hm2, hlo2, hb9, x11⟩; have X11 := Lib.hid (XE.trans x11); have HBN := Lib.hid hbn2; have HOW := Lib.hid (ow2.mono (Nat.le_trans HR'.out.ra.ex.size XE.size)); have HM2 := Lib.hid hm2; have HLO := Lib.hid hlo2; clear x11 hbn2 ow2 hm2 hlo2 hb9)
                      (refine ord_flo (pick_cons rfl (pick_cons rfl (pick_cons rfl (pick_cons rfl (pick_cons rfl pick_nil))))) ?_; (repeat (go_big_quiet_step (fail))); refine wpQuiet_nil ?_; show ordWalk _ _ _ _ _ _ _)
                      refine ord_fin ?_
                      clear k3 r0 r1 r2 XE
                      have kz := X11.out.cell K3.out
                      have kz2 : w11.frozen? ⟨gk, k * 4 + 3, none⟩ = false := own_free (HR'.out.ra.ext X11.out).ks (by omega) _
                      go_upto_region 23 with fail
                      obtain ⟨wS, hwS⟩ : ∃ x, x = w11.setCell ⟨gk, k * 4 + 3, none⟩ (.slice B2 bn2 d2) := ⟨_, rfl⟩
                      rw [← hwS]
                      have u1 : Upd (fun b => b = gk) w11 wS := by rw [hwS]; exact Upd.setCell (S := fun b => b = gk) (Upd.refl _ w11) (p := ⟨gk, k * 4 + 3, none⟩) (.inl rfl) _
                      have BPS := Lib.hid ((BP'.out.ext X11.out).updB u1 (fun e => HPG.out e))
                      have E0 := Lib.hid (u1.cell (p := ta_.add (j * 3)) (fun e => HTA.out _ e) (X11.out.cell S0.out))
                      have E1 := Lib.hid (u1.cell (p := ⟨(ta_.add (j * 3)).block, (ta_.add (j * 3)).off + 1, none⟩) (fun e => HTA.out _ e) (X11.out.cell S1.out))
                      have E2 := Lib.hid (u1.cell (p := ⟨(ta_.add (j * 3)).block, (ta_.add (j * 3)).off + 2, none⟩) (fun e => HTA.out _ e) (X11.out.cell S2.out))
                      have hq1 := (HR'.out.ra.ext X11.out).q
                      have HQS := Lib.hid (hq1.upd u1 (fun b hb e => absurd ((hq1.ty hb).ne (e ▸ (HR'.out.ra.ext X11.out).ks.ty HGK.out)) (by decide)))
                      have HWSE := Lib.hid hwS
                      have hsz : w0.heap.size ≤ wS.heap.size := Nat.le_trans (HR'.out.ra.ex.trans X11.out).size u1.size
                      have hwait : n' ≤ 3462030453680 := by
                        have h1 := congrArg List.length HR'.out.ra.pv
                        rw [List.length_map, List.length_map, List.length_drop] at h1
                        have h2 := HR'.out.ra.b.waits G.out HDS.out F.out (List.getElem?_eq_some_iff.1 HR'.out.qi).1
                        rw [HNP.out]; omega
                      clear hq1 hwS u1 kz kz2
                      have XE : Ext wS wS.drew := (Ext.refl wS).drew
                      have s0 : ∀ y : Xt wS.drew, y.W.cell? (ta_.add (j * 3)) = some (.int .i64 yn) := fun y => (XE.trans y.x).cell E0.out
                      have s1 : ∀ y : Xt wS.drew, y.W.cell? ⟨(ta_.add (j * 3)).block, (ta_.add (j * 3)).off + 1, none⟩ = some (.bool yo) := fun y => (XE.trans y.x).cell E1.out
                      have s2 : ∀ y : Xt wS.drew, y.W.cell? ⟨(ta_.add (j * 3)).block, (ta_.add (j * 3)).off + 2, none⟩ = some (.int .i64 yp) := fun y => (XE.trans y.x).cell E2.out
                      have r0 : ∀ y : Xt wS.drew, y.W.cell? ⟨pb, 0, none⟩ = some (.int .i64 vl) := fun y => (BPS.out.ext (XE.trans y.x)).cell 0
                      have r1 : ∀ y : Xt wS.drew, y.W.cell? ⟨pb, 1, none⟩ = some (.int .u32 va) := fun y => (BPS.out.ext (XE.trans y.x)).cell 1
                      have r2 : ∀ y : Xt wS.drew, y.W.cell? ⟨pb, 2, none⟩ = some (.slice A3 nv c3) := fun y => (BPS.out.ext (XE.trans y.x)).cell 2
                      refine wp_region_ord [0,0,0,6,14,0,62,126,255,511] (.pur [0] (.flo [1,2,3,4,5,6] (.one 7 (.one 8 (.flo [9] (.fin)))))) (by kernel_rfl) (by kernel_rfl) (by intro _ _ d _ _ h; cases d <;> exact h) ?_
                      (refine ord_pur (pick_cons rfl pick_nil) ?_; (repeat (go_big_quiet_step (fail))); refine wpQuiet_nil ?_; show ordWalk _ _ _ _ _ _ _)
                      (refine ord_flo (pick_cons rfl (pick_cons rfl (pick_cons rfl (pick_cons rfl (pick_cons rfl (pick_cons rfl pick_nil)))))) ?_; (repeat (go_big_quiet_step (fail))); refine wpQuiet_nil ?_; show ordWalk _ _ _ _ _ _ _)
                      refine ord_one (pick_cons rfl pick_nil) ?_; intro K_ hK_
                      go_wp2
                      clear s0 s1 s2 r0 r1 r2 XE
                      obtain ⟨wE, hwE⟩ : ∃ x, x = (wS.alloc (.cells #[.int .i64 yn, .bool yo, .int .i64 yp, .int .i64 vl, .int .u32 va, .slice A3 nv c3] 115)).drew := ⟨_, rfl⟩
                      have xE : Ext wS wE := by rw [hwE]; exact ((Ext.refl _).alloc _).drew
                      have XSE := Lib.hid xE
                      have HQA : Hid (OwnQ wE w0.heap.size 115 6 A' n' c' (P'.flatMap spC)) := Lib.hid (by rw [HNP.out]; exact HQS.out.ext xE)
                      have SE : Hid (Sl wE 6 (some ⟨wS.heap.size, 0, none⟩) 1 1 [.int .i64 yn, .bool yo, .int .i64 yp, .int .i64 vl, .int .u32 va, .slice A3 nv c3]) := Lib.hid (by rw [hwE]; exact (Sl.one wS #[.int .i64 yn, .bool yo, .int .i64 yp, .int .i64 vl, .int .u32 va, .slice A3 nv c3] 115 6 rfl).ext (Ext.refl _).drew)
                      have hbE : w0.heap.size ≤ wE.heap.size := Nat.le_trans hsz xE.size
                      rw [← hwE]
                      clear hwE xE
                      refine ord_one (pick_cons rfl pick_nil) ?_; intro K_ hK_
                      go_wp2_with (at_builtin; go_loud (refine wpList_append_q _ elem_wk w0.heap.size _ _ rfl rfl A' n' c' (P'.flatMap spC) rfl HQA.out (some ⟨wS.heap.size, 0, none⟩) 1 1 [.int .i64 yn, .bool yo, .int .i64 yp, .int .i64 vl, .int .u32 va, .slice A3 nv c3] rfl SE.out (by intro u hu; simp only [List.mem_cons, List.not_mem_nil, or_false] at hu; rcases hu with rfl | rfl | rfl | rfl | rfl | rfl <;> rfl) (by omega) (by omega) (by decide) hbE ?_); intro A9 c9 w12 o9 g9 x9; have HO9 := Lib.hid o9; have HG9 := Lib.hid g9; have HX9 := Lib.hid x9; clear o9 g9 x9)
                      go_simp
                      (refine ord_flo (pick_cons rfl pick_nil) ?_; (repeat (go_big_quiet_step (fail))); refine wpQuiet_nil ?_; show ordWalk _ _ _ _ _ _ _)
                      refine ord_fin ?_
                      go_wp2
                      go_roundg (nt - (j + 1))
                      case measure => omega
                      case rel =>
                        have u3 : Upd (fun b => blk A' c' = some b) wS w12 := (Upd.ext (S := fun b => blk A' c' = some b) XSE.out).grown HG9.out (fun b hb => .inl hb)
                        have hr11 := HR'.out.ext X11.out
                        have hp := hr11.push (p := ⟨A3, c3, ⟨vl, va, ve⟩⟩) (t := ⟨yn, yo, yp⟩) (k := k) (g := gk) (l := M2) (B2 := B2) (d2 := d2) (w3 := w12) (A3 := A9) (c3 := c9) G.out HDS.out HM.out HTH.out HTGG.out HTG.out (WP.out.ext X11.out) HKL.out (by rw [HU.out]; exact HUQ.out) (fun x hx => by rw [HKW.out] at hx; rw [HDP.out]; exact HNO.out x hx) (by rw [HKW.out, HDP.out]; exact HM2.out) (fun x hx => by rw [HKW.out]; exact HLO.out x hx) (by rw [← HBN.out]; exact HOW.out) rfl HGK.out (by have q := HO9.out; rw [HNP.out, HNV.out] at q; exact q) (by rw [← HBN.out, ← HWSE.out]; exact u3) (fun b hb => by
                          rcases HX9.out with ⟨e1, e2⟩ | ⟨e1, _⟩
                          · rw [e1, e2] at hb; exact HR'.out.nb b hb
                          · rw [e1] at hb
                            rw [← Option.some.inj hb]
                            have h1 := HR'.out.bk.lt
                            have h2 := X11.out.size
                            have h3 : w11.heap.size ≤ wS.heap.size := by rw [HWSE.out]; simp
                            have h4 := XSE.out.size
                            omega)
                        exact ⟨_, j + 1, A9, c9, n' + 1, _, some ⟨gk, 0, none⟩, kn', kc', _, rfl, rfl, by go_num, by omega, rfl, Lib.hid (by rw [List.length_set]; exact HKN'.out), Lib.hid (by rw [List.length_append, ← HNP.out]; rfl), Lib.hid hp⟩
            · obtain rfl : nt = j := by omega
              have hltz : ¬ (nt : Int) < (nt : Int) := by omega
              have hiQ : i < Q'.length := (List.getElem?_eq_some_iff.1 HR.out.qi).1
              have hQB := HB.out _ _ _ _ HR.out.ra.b
              have HNX9 := Lib.hid (HR.out.ra.next HR.out.qi (by rw [HNTM.out]; exact Nat.le_refl _))
              go_wp2
              go_roundg (B + 1 - (i + 1))
              case measure => omega
              case rel => exact ⟨Q', i + 1, A', c', n', P', KA, kn, kc, KS, rfl, rfl, HKN, HNP, Nat.le_refl _, HNX9⟩
end Go.Proofs.Yteklohamkmiphaa
namespace Go.Proofs.Yteklohamkmiphaa
open Go.RowKit

def RToOut (w : World) (M : List Pm) (e : Ending) (w' : World) : Prop := ∃ (A : Option Addr) (n c : Nat), e = .returned (.slice A n c) ∧ WysR w' A n c M ∧ WysT w' A c M ∧ Ext w w'
theorem WysR.nil (w : World) : WysR w none 0 0 [] := ⟨rfl, Sl.nil _ _, fun x hx => (nomatch hx)⟩
theorem WysT.nil (w : World) : WysT w none 0 [] := ⟨fun k hk => (nomatch hk), fun x hx => (nomatch hx)⟩
theorem kw_first {q : Pt} : ∀ (l : List Kw) (k : Nat), k < l.length → (∀ i, i < k → (l.getD i Kw.zero).q ≠ q) → (l.getD k Kw.zero).q = q → kw l q = (l.getD k Kw.zero).ws
  | [], k, h, _, _ => absurd h (Nat.not_lt_zero _)
  | x :: l, 0, _, _, e => by rw [List.getD_cons_zero] at e ⊢; rw [kw, if_pos e]
  | x :: l, k + 1, h, n, e => by
    have h0 := n 0 (by omega)
    rw [List.getD_cons_zero] at h0
    rw [List.getD_cons_succ] at e ⊢
    rw [kw, if_neg h0]
    exact kw_first l k (by simpa using h) (fun i hi => by have := n (i + 1) (by omega); rw [List.getD_cons_succ] at this; exact this) e
set_option maxRecDepth 100000 in
set_option maxHeartbeats 2000000 in
theorem rto_any (KA : Option Addr) (kn kc : Nat) (KS : List Kw) (qn : Int) (qo : Bool) (qp : Int) (w : World) (hn : Hid (kn = KS.length)) (hs : Hid (Sl w 4 KA kn kc (KS.flatMap knC))) (hl : Hid (∀ x ∈ KS, WysR w x.A x.ws.length x.c x.ws)) (ht : Hid (∀ x ∈ KS, WysT w x.A x.c x.ws)) (hn9 : kn ≤ 1001) :
    Calls Try.prog 38 #[.slice KA kn kc, .agg #[.int .i64 qn, .bool qo, .int .i64 qp]] w (RToOut w (kw KS ⟨qn, qo, qp⟩)) := by
  obtain ⟨w0, hw0⟩ : ∃ w0, w0 = w.alloc (.cells #[.int .i64 qn, .bool qo, .int .i64 qp] 27) := ⟨_, rfl⟩
  obtain ⟨b, hb⟩ : ∃ b, b = w.heap.size := ⟨_, rfl⟩
  have X0 : Hid (Ext w w0) := Lib.hid (by rw [hw0]; exact (Ext.refl w).alloc _)
  have BQ : Hid (Bk w0 b 27 #[.int .i64 qn, .bool qo, .int .i64 qp]) := Lib.hid (by rw [hw0, hb]; exact Bk.new _ _ _)
  go_enter Try.func38, Try.ntmps38
  go_upto_region 1 with fail
  rw [← hw0, ← hb]
  clear hw0 hb
  go_wp2
  go_loopg [5] kn (fun z v5 wr => ∃ k : Nat, v5 = .int .i64 k ∧ k ≤ kn ∧ z = kn - k ∧ Hid (∀ i, i < k → (KS.getD i Kw.zero).q ≠ ⟨qn, qo, qp⟩) ∧ Hid (Ext w0 wr))
  case atStart => exact ⟨0, rfl, Nat.zero_le _, rfl, Lib.hid (fun i h => absurd h (Nat.not_lt_zero _)), Lib.hid (Ext.refl _)⟩
  case round =>
    obtain ⟨k, rfl, hk, rfl, HNE, XR⟩ := hrel
    by_cases hkl : k < kn
    · have hkz : (k : Int) < (kn : Int) := by omega
      have hkL : k < KS.length := by rw [← hn.out]; exact hkl
      obtain ⟨kb, hKA, k0, k1⟩ := els_at knC 4 knC_len Kw.zero (hs.out.ext (X0.out.trans XR.out)) hn.out hkL (by omega)
      subst hKA
      have hws := hl.out _ (getD_mem' Kw.zero hkL)
      have hwt := ht.out _ (getD_mem' Kw.zero hkL)
      have hfs := kw_first (q := ⟨qn, qo, qp⟩) KS k hkL HNE.out
      obtain ⟨⟨⟨un, uo, up⟩, uA, uc, uw⟩, hu⟩ : ∃ e, KS.getD k Kw.zero = e := ⟨_, rfl⟩
      rw [hu] at k0 k1 hws hwt hfs
      have k3 := k1 2 _ rfl
      have k2 := k1 1 _ rfl
      have k1 := k1 0 _ rfl
      have k0 := k0 _ rfl
      simp only at k0 k1 k2 k3 hws hwt hfs
      obtain ⟨nw, hnw⟩ : ∃ x, x = uw.length := ⟨_, rfl⟩
      rw [← hnw] at k3 hws
      have HWS := Lib.hid hws
      have HFS := Lib.hid hfs
      have HWT := Lib.hid hwt
      have HU := Lib.hid hu
      have K3 := Lib.hid k3
      have a0 := (BQ.out.ext XR.out).cell 0
      have a1 := (BQ.out.ext XR.out).cell 1
      have a2 := (BQ.out.ext XR.out).cell 2
      clear hu hkL hws hwt hfs hnw k3
      by_cases hue : (⟨un, uo, up⟩ : Pt) = ⟨qn, qo, qp⟩
      · have HKW := Lib.hid (HFS.out hue)
        injection hue with h1 h2 h3
        subst h1 h2 h3
        go_upto_region 4 with fail
        go_quiet (fail)
        go_upto_region 5 with fail
        have k3 := ((Ext.refl wr).drewN nq).cell K3.out
        go_wp2
        go_ret
        have x9 := (X0.out.trans XR.out).trans ((Ext.refl wr).drewN nq)
        exact ⟨uA, nw, uc, rfl, by rw [HKW.out]; exact HWS.out.ext x9, by rw [HKW.out]; exact HWT.out.ext x9, x9⟩
      · have HUE := Lib.hid hue
        have hpp := pt_parts hue
        clear hue
        have HNE8 : Hid (∀ i, i < k + 1 → (KS.getD i Kw.zero).q ≠ ⟨qn, qo, qp⟩) := Lib.hid (fun i hi e => by
          by_cases h : i = k
          · rw [h, HU.out] at e; exact HUE.out e
          · exact HNE.out i (by omega) e)
        rcases hpp with h1 | ⟨h1, h2⟩ | ⟨h1, h2, h3⟩
        all_goals
          go_upto_region 4 with fail
          go_quiet (fail)
          go_wp2
          go_roundg (kn - (k + 1))
          case measure => omega
          case rel => exact ⟨k + 1, by go_num, by omega, rfl, HNE8, Lib.hid (XR.out.trans ((Ext.refl _).drewN _))⟩
    · obtain rfl : kn = k := by omega
      have hkz : ¬ (kn : Int) < (kn : Int) := by omega
      go_wp2
      go_ret
      refine ⟨none, 0, 0, rfl, ?_⟩
      rw [kw_none KS (fun x hx e => by
        obtain ⟨i, hi, rfl⟩ := List.getElem_of_mem hx
        have := HNE.out i (by rw [hn.out]; exact hi)
        rw [List.getD_eq_getElem?_getD, List.getElem?_eq_getElem hi] at this
        exact this e)]
      exact ⟨WysR.nil _, WysT.nil _, X0.out.trans XR.out⟩
end Go.Proofs.Yteklohamkmiphaa
