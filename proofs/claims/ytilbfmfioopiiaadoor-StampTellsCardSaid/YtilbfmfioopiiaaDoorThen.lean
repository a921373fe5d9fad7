/- stamp.Then: the way that is first one, then another one. Conditions: the slices are as readings give them, and not too long. -/
import Derived.Test.YtilbfmfioopiiaaDoorSmall
import Derived.BigRegion
namespace Go.Proofs.YtilbfmfioopiiaaDoor
open Go.RowKit

structure Way where
  leave : Int
  add : Int
  enter : List Int
/-- what Then answers: the way and the error's number -/
def thenT (La aa : Int) (la : List Int) (Lb ab : Int) (lb : List Int) : Way × Int :=
  if Lb < 0 then (⟨0, 0, []⟩, 40)
  else if Lb < la.length then
    (if 4294967295 - ab < la.getD (la.length - Lb.toNat - 1) 0 then (⟨0, 0, []⟩, 41) else (⟨La, aa, la.take (la.length - Lb.toNat - 1) ++ [la.getD (la.length - Lb.toNat - 1) 0 + ab] ++ lb⟩, 0))
  else if Lb = la.length then (if 4294967295 - ab < aa then (⟨0, 0, []⟩, 41) else (⟨La, aa + ab, lb⟩, 0))
  else (⟨wrap64 (wrap64 (La + Lb) - la.length), ab, lb⟩, 0)
def WayOut (w : World) (r : Way × Int) (e : Ending) (w' : World) : Prop :=
  ∃ A c, e = .returned (.tuple #[.agg #[.int .i64 r.1.leave, .int .u32 r.1.add, .slice A r.1.enter.length c], .int .u16 r.2]) ∧ Own w' w.heap.size 22 1 A r.1.enter.length c (wds r.1.enter) ∧ Ext w w'

theorem wayNone {w w' : World} {n : Int} (x : Ext w w') : WayOut w (⟨0, 0, []⟩, n) (.returned (.tuple #[.agg #[.int .i64 0, .int .u32 0, .slice none 0 0], .int .u16 n])) w' := ⟨Option.none, 0, rfl, Own.nil _ _ _ _, x⟩

set_option maxRecDepth 100000 in
set_option maxHeartbeats 400000 in
theorem then_neg (La aa Lb ab : Int) (A1 A2 : Option Addr) (n1 n2 c1 c2 : Nat) (w : World) (hL : Lb < 0) :
    Calls Tryd.prog 9 #[.agg #[.int .i64 La, .int .u32 aa, .slice A1 n1 c1], .agg #[.int .i64 Lb, .int .u32 ab, .slice A2 n2 c2]] w (WayOut w (⟨0, 0, []⟩, 40)) := by
  go_enter Tryd.func9, Tryd.ntmps9
  go_wp2
  refine bodyPost_ret (v := .tuple #[.agg #[.int .i64 0, .int .u32 0, .slice none 0 0], .int .u16 40]) (by simp only [results, Tryd.results9]; go_simp) rfl ?_
  exact wayNone ((((Ext.refl w).alloc _).alloc _).alloc _ |>.alloc _)
set_option maxRecDepth 100000 in
set_option maxHeartbeats 2000000 in
theorem then_eq (La aa ab : Int) (A1 A2 : Option Addr) (n1 n2 c1 c2 : Nat) (l2 : List Int) (w : World) (h2 : Sl w 1 A2 n2 c2 (wds l2)) (haa : 0 ≤ aa ∧ aa ≤ 4294967295) (hab : 0 ≤ ab ∧ ab ≤ 4294967295) (hn2 : n2 ≤ 1000000) :
    Calls Tryd.prog 9 #[.agg #[.int .i64 La, .int .u32 aa, .slice A1 n1 c1], .agg #[.int .i64 n1, .int .u32 ab, .slice A2 n2 c2]] w
      (WayOut w (if 4294967295 - ab < aa then (⟨0, 0, []⟩, 41) else (⟨La, aa + ab, l2⟩, 0))) := by
  have q0 : ((n1 : Int) == (n1 : Int)) = true := by simp
  by_cases hov : 4294967295 - ab < aa
  · rw [if_pos hov]
    go_enter Tryd.func9, Tryd.ntmps9
    go_wp2_with (refine (sum_over _ _ _ haa hab hov).mono ?_; rintro r w1 ⟨rfl, rfl⟩)
    refine bodyPost_ret (v := .tuple #[.agg #[.int .i64 0, .int .u32 0, .slice none 0 0], .int .u16 41]) (by simp only [results, Tryd.results9]; go_simp) rfl ?_
    exact wayNone ((((Ext.refl w).alloc _).alloc _).alloc _ |>.alloc _)
  · rw [if_neg hov]
    have WH := Lib.hid (show ∀ (r : Ending) (w' : World), WayOut w (⟨La, aa + ab, l2⟩, 0) r w' → WayOut w (⟨La, aa + ab, l2⟩, 0) r w' from fun _ _ h => h)
    go_enter Tryd.func9, Tryd.ntmps9
    go_upto_region 3 with fail
    obtain ⟨w0, hw0⟩ : ∃ w0, w0 = (((w.alloc (Obj.cells #[Value.int IntKind.i64 La, Value.int IntKind.u32 aa, Value.slice A1 n1 c1] 25)).alloc (Obj.cells #[Value.int IntKind.i64 n1, Value.int IntKind.u32 ab, Value.slice A2 n2 c2] 25)).alloc
        (Obj.cells #[Value.int IntKind.i64 0, Value.int IntKind.u32 0, Value.slice none 0 0] 25)).alloc (Obj.cells #[Value.int IntKind.i64 La, Value.int IntKind.u32 aa, Value.slice none 0 0] 25) := ⟨_, rfl⟩
    have x0 : Ext w w0 := hw0 ▸ ((((Ext.refl w).alloc _).alloc _).alloc _).alloc _
    have s0 : w0.heap.size = w.heap.size + 4 := by subst hw0; simp
    have a0 : Bk w0 w.heap.size 25 #[Value.int IntKind.i64 La, Value.int IntKind.u32 aa, Value.slice A1 n1 c1] := by subst hw0; exact (((Bk.new _ _ _).alloc _).alloc _).alloc _
    have b0 : Bk w0 (w.heap.size + 1) 25 #[Value.int IntKind.i64 n1, Value.int IntKind.u32 ab, Value.slice A2 n2 c2] := by subst hw0; exact ((Bk.at (by simp)).alloc _).alloc _
    have r0 : Bk w0 (w.heap.size + 1 + 1) 25 #[Value.int IntKind.i64 0, Value.int IntKind.u32 0, Value.slice none 0 0] := by subst hw0; exact (Bk.at (by simp)).alloc _
    have y0 : Bk w0 (w.heap.size + 1 + 1 + 1) 25 #[Value.int IntKind.i64 La, Value.int IntKind.u32 aa, Value.slice none 0 0] := by subst hw0; exact Bk.at (by simp)
    rw [← hw0]
    clear hw0
    have a1 : w0.cell? ⟨w.heap.size, 0, none⟩ = some (.int .i64 La) := a0.cell 0
    have a2 : w0.cell? ⟨w.heap.size, 1, none⟩ = some (.int .u32 aa) := a0.cell 1
    have a3 : w0.cell? ⟨w.heap.size, 2, none⟩ = some (.slice A1 n1 c1) := a0.cell 2
    have b1 : w0.cell? ⟨w.heap.size + 1, 0, none⟩ = some (.int .i64 n1) := b0.cell 0
    have b2 : w0.cell? ⟨w.heap.size + 1, 1, none⟩ = some (.int .u32 ab) := b0.cell 1
    have b3 : w0.cell? ⟨w.heap.size + 1, 2, none⟩ = some (.slice A2 n2 c2) := b0.cell 2
    have r1 : w0.cell? ⟨w.heap.size + 1 + 1, 0, none⟩ = some (.int .i64 0) := r0.cell 0
    have r2 : w0.cell? ⟨w.heap.size + 1 + 1, 1, none⟩ = some (.int .u32 0) := r0.cell 1
    have r3 : w0.cell? ⟨w.heap.size + 1 + 1, 2, none⟩ = some (.slice none 0 0) := r0.cell 2
    have r4 := r0.free 0
    have r5 := r0.free 1
    have r6 := r0.free 2
    have y1 : w0.cell? ⟨w.heap.size + 1 + 1 + 1, 0, none⟩ = some (.int .i64 La) := y0.cell 0
    have y2 : w0.cell? ⟨w.heap.size + 1 + 1 + 1, 1, none⟩ = some (.int .u32 aa) := y0.cell 1
    have y3 : w0.cell? ⟨w.heap.size + 1 + 1 + 1, 2, none⟩ = some (.slice none 0 0) := y0.cell 2
    have y4 := y0.free 0
    have y5 := y0.free 1
    have y6 := y0.free 2
    go_wp2_with (first | (go_at_call 36; refine (sum_ok _ _ _ haa hab (by omega)).mono ?_; rintro r w1 ⟨rfl, rfl⟩) | (at_builtin; refine wpList_append_gen _ elemWords (w.heap.size + 4) _ _ (by rfl) (by rfl) Option.none 0 0 [] (by rfl) (Own.nil _ _ _ _) A2 n2 c2 (wds l2) (by rfl) (h2.ext (x0.set (by simp; omega) _)) (wds_one _) (by omega) (by omega) (by simp; omega) ?_; intro A' c' w1 ho1 hg1 hk1; have yy := Bk.grown (by exact y0.set 1 _) hg1 (by simp [blk]); have z1 : w1.cell? ⟨w.heap.size + 1 + 1 + 1, 0, none⟩ = some (.int .i64 (La)) := yy.cell 0; have z2 : w1.cell? ⟨w.heap.size + 1 + 1 + 1, 1, none⟩ = some (.int .u32 (aa + ab)) := yy.cell 1; have z3 : w1.cell? ⟨w.heap.size + 1 + 1 + 1, 2, none⟩ = some (.slice none 0 0) := yy.cell 2; have z4 := yy.free 2; have rr := Bk.grown (by exact r0.far (by simp) _) hg1 (by simp [blk]); have u1 : w1.cell? ⟨w.heap.size + 1 + 1, 0, none⟩ = some (.int .i64 0) := rr.cell 0; have u2 : w1.cell? ⟨w.heap.size + 1 + 1, 1, none⟩ = some (.int .u32 0) := rr.cell 1; have u3 : w1.cell? ⟨w.heap.size + 1 + 1, 2, none⟩ = some (.slice none 0 0) := rr.cell 2; have u4 := rr.free 0; have u5 := rr.free 1; have u6 := rr.free 2))
    refine bodyPost_ret (v := .tuple #[.agg #[.int .i64 La, .int .u32 (aa + ab), .slice A' n2 c'], .int .u16 0]) (by simp only [results, Tryd.results9]; go_simp) rfl ?_
    have hl := h2.wlen
    subst hl
    refine ⟨A', c', rfl, ?_, ?_⟩
    · rw [List.nil_append, Nat.zero_add] at ho1
      have hx : ∀ k, k < w.heap.size + 4 → blk A' c' ≠ some k := fun k hk => ho1.ne hk
      refine Own.far ?_ (hx _ (by simp)) _
      refine Own.far ?_ (hx _ (by simp)) _
      refine Own.far ?_ (hx _ (by simp)) _
      exact Own.far (ho1.mono (by omega)) (hx _ (by simp)) _
    · have e1 : Ext w w1 := (x0.set (p := ⟨w.heap.size + 1 + 1 + 1, 1, none⟩) (by simp; omega) _).grown hg1 (fun k hk => by simp [blk] at hk)
      (repeat' (first | with_reducible exact e1 | with_reducible refine Ext.drew ?_ | with_reducible refine Ext.drewN ?_ _ | with_reducible refine Ext.alloc ?_ _ | with_reducible refine Ext.set ?_ ?_ _ | omega | (simp; done) | (simp; omega)))

set_option maxRecDepth 100000 in
set_option maxHeartbeats 4000000 in
theorem then_in (K m : Nat) (hK : 0 < K) (La aa ab : Int) (A1 A2 : Option Addr) (n2 c1 c2 : Nat) (l1 l2 : List Int) (w : World) (h1 : Sl w 1 A1 (K + m) c1 (wds l1)) (h2 : Sl w 1 A2 n2 c2 (wds l2)) (u1 : U32 l1)
    (hab : 0 ≤ ab ∧ ab ≤ 4294967295) (hn1 : K + m ≤ 1000000) (hn2 : n2 ≤ 1000000) :
    Calls Tryd.prog 9 #[.agg #[.int .i64 La, .int .u32 aa, .slice A1 (K + m : Nat) c1], .agg #[.int .i64 m, .int .u32 ab, .slice A2 n2 c2]] w
      (WayOut w (if 4294967295 - ab < l1.getD (K - 1) 0 then (⟨0, 0, []⟩, 41) else (⟨La, aa, l1.take (K - 1) ++ [l1.getD (K - 1) 0 + ab] ++ l2⟩, 0))) := by
  have hm := h1.le
  have hc := h1.cap
  have hl1 : K ≤ l1.length := by have := h1.wlen; omega
  have uu := u1.getD (K - 1)
  have hs : Sl w 1 A1 K c1 (wds (l1.take K)) := by
    have := h1.take (k := K) (by omega)
    rwa [Nat.mul_one, wds_take] at this
  have lt0 : (m : Int) < ((K + m : Nat) : Int) := by omega
  obtain ⟨res, hres⟩ : ∃ res, res = (if 4294967295 - ab < l1.getD (K - 1) 0 then ((⟨0, 0, []⟩, 41) : Way × Int) else (⟨La, aa, l1.take (K - 1) ++ [l1.getD (K - 1) 0 + ab] ++ l2⟩, 0)) := ⟨_, rfl⟩
  rw [← hres]
  have HR := Lib.hid hres
  clear hres
  have U1 := Lib.hid u1
  clear u1
  go_enter Tryd.func9, Tryd.ntmps9
  go_upto_region 3 with fail
  obtain ⟨w0, hw0⟩ : ∃ w0, w0 = (((w.alloc (Obj.cells #[Value.int IntKind.i64 La, Value.int IntKind.u32 aa, Value.slice A1 (K + m) c1] 25)).alloc (Obj.cells #[Value.int IntKind.i64 m, Value.int IntKind.u32 ab, Value.slice A2 n2 c2] 25)).alloc
      (Obj.cells #[Value.int IntKind.i64 0, Value.int IntKind.u32 0, Value.slice none 0 0] 25)).alloc (Obj.cells #[Value.int IntKind.i64 La, Value.int IntKind.u32 aa, Value.slice none 0 0] 25) := ⟨_, rfl⟩
  have x0 : Ext w w0 := hw0 ▸ ((((Ext.refl w).alloc _).alloc _).alloc _).alloc _
  have s0 : w0.heap.size = w.heap.size + 4 := by subst hw0; simp
  have a0 : Bk w0 w.heap.size 25 #[Value.int IntKind.i64 La, Value.int IntKind.u32 aa, Value.slice A1 (K + m) c1] := by subst hw0; exact (((Bk.new _ _ _).alloc _).alloc _).alloc _
  have b0 : Bk w0 (w.heap.size + 1) 25 #[Value.int IntKind.i64 m, Value.int IntKind.u32 ab, Value.slice A2 n2 c2] := by subst hw0; exact ((Bk.at (by simp)).alloc _).alloc _
  have r0 : Bk w0 (w.heap.size + 1 + 1) 25 #[Value.int IntKind.i64 0, Value.int IntKind.u32 0, Value.slice none 0 0] := by subst hw0; exact (Bk.at (by simp)).alloc _
  have y0 : Bk w0 (w.heap.size + 1 + 1 + 1) 25 #[Value.int IntKind.i64 La, Value.int IntKind.u32 aa, Value.slice none 0 0] := by subst hw0; exact Bk.at (by simp)
  rw [← hw0]
  clear hw0
  have a1 : w0.cell? ⟨w.heap.size, 0, none⟩ = some (.int .i64 La) := a0.cell 0
  have a2 : w0.cell? ⟨w.heap.size, 1, none⟩ = some (.int .u32 aa) := a0.cell 1
  have a3 : w0.cell? ⟨w.heap.size, 2, none⟩ = some (.slice A1 (K + m) c1) := a0.cell 2
  have b1 : w0.cell? ⟨w.heap.size + 1, 0, none⟩ = some (.int .i64 m) := b0.cell 0
  have b2 : w0.cell? ⟨w.heap.size + 1, 1, none⟩ = some (.int .u32 ab) := b0.cell 1
  have b3 : w0.cell? ⟨w.heap.size + 1, 2, none⟩ = some (.slice A2 n2 c2) := b0.cell 2
  have r1 : w0.cell? ⟨w.heap.size + 1 + 1, 0, none⟩ = some (.int .i64 0) := r0.cell 0
  have r2 : w0.cell? ⟨w.heap.size + 1 + 1, 1, none⟩ = some (.int .u32 0) := r0.cell 1
  have r3 : w0.cell? ⟨w.heap.size + 1 + 1, 2, none⟩ = some (.slice none 0 0) := r0.cell 2
  have r4 := r0.free 0
  have r5 := r0.free 1
  have r6 := r0.free 2
  have y1 : w0.cell? ⟨w.heap.size + 1 + 1 + 1, 0, none⟩ = some (.int .i64 La) := y0.cell 0
  have y2 : w0.cell? ⟨w.heap.size + 1 + 1 + 1, 1, none⟩ = some (.int .u32 aa) := y0.cell 1
  have y3 : w0.cell? ⟨w.heap.size + 1 + 1 + 1, 2, none⟩ = some (.slice none 0 0) := y0.cell 2
  have y4 := y0.free 0
  have y5 := y0.free 1
  have y6 := y0.free 2
  have i0 : (0 : Int) ≤ (K : Int) - 1 := by omega
  have i1 : (K : Int) - 1 < (K : Int) := by omega
  have i2 : IntKind.i64.wrap ((K : Int) - 1) = (K : Int) - 1 := IntWalk.i64_in _ (by omega)
  have i3 : ((K : Int) - 1).toNat = K - 1 := by omega
  go_upto_region 10 with (go_at_call 35; refine (clone_words A1 K c1 (wds (l1.take K)) _ (hs.ext x0) (wds_one _) (by omega)).mono ?_; rintro r w1 ⟨A, c, rfl, ho, x1⟩; obtain ⟨gA, rfl, hbA, hgA, hgA2, hcA, hfA⟩ := ho.form hK; have y31 : w1.cell? ⟨w.heap.size + 1 + 1 + 1, 2, none⟩ = some (.slice none 0 0) := x1.cell y3; have y61 := (y0.ext x1).free 2)
  obtain ⟨w2, hw2⟩ : ∃ w2, w2 = w1.setCell ⟨w.heap.size + 1 + 1 + 1, 2, none⟩ (.slice (some ⟨gA, 0, none⟩) K c) := ⟨_, rfl⟩
  rw [← hw2]
  have cA : w2.cell? ⟨gA, K - 1, none⟩ = some (.int .u32 (l1.getD (K - 1) 0)) := by
    rw [hw2, World.cell?_setCell_other _ _ _ _ (by simp)]
    refine hcA _ _ ?_
    simp only [wds, List.getElem?_map, List.getElem?_take, if_pos (show K - 1 < K by omega), List.getD_eq_getElem?_getD, List.getElem?_eq_getElem (show K - 1 < l1.length by omega)]
    rfl
  have fA : w2.frozen? ⟨gA, K - 1, none⟩ = false := by rw [hw2, World.frozen?_setCell]; exact hfA _
  have x2 : Ext w w2 := hw2 ▸ (x0.trans x1).set (by simp; omega) _
  have ho2 : Own w2 (w.heap.size + 4) 22 1 (some ⟨gA, 0, none⟩) K c (wds (l1.take K)) := hw2 ▸ (ho.mono (by omega)).far (ho.ne (by simp [s0])) _
  have yB : Bk w2 (w.heap.size + 1 + 1 + 1) 25 #[.int .i64 La, .int .u32 aa, .slice (some ⟨gA, 0, none⟩) K c] := hw2 ▸ (y0.ext x1).set 2 _
  have rB : Bk w2 (w.heap.size + 1 + 1) 25 #[.int .i64 0, .int .u32 0, .slice none 0 0] := hw2 ▸ (r0.ext x1).far (by simp) _
  have bB : Bk w2 (w.heap.size + 1) 25 #[.int .i64 m, .int .u32 ab, .slice A2 n2 c2] := hw2 ▸ (b0.ext x1).far (by simp) _
  clear hw2 hcA hfA y31 y61 a1 a2 a3 b1 b2 b3 r1 r2 r3 r4 r5 r6 y1 y2 y3 y4 y5 y6
  have b2 : w2.cell? ⟨w.heap.size + 1, 1, none⟩ = some (.int .u32 ab) := bB.cell 1
  have b3 : w2.cell? ⟨w.heap.size + 1, 2, none⟩ = some (.slice A2 n2 c2) := bB.cell 2
  have r1 : w2.cell? ⟨w.heap.size + 1 + 1, 0, none⟩ = some (.int .i64 0) := rB.cell 0
  have r2 : w2.cell? ⟨w.heap.size + 1 + 1, 1, none⟩ = some (.int .u32 0) := rB.cell 1
  have r3 : w2.cell? ⟨w.heap.size + 1 + 1, 2, none⟩ = some (.slice none 0 0) := rB.cell 2
  have r4 := rB.free 0
  have r5 := rB.free 1
  have r6 := rB.free 2
  have y1 : w2.cell? ⟨w.heap.size + 1 + 1 + 1, 0, none⟩ = some (.int .i64 La) := yB.cell 0
  have y2 : w2.cell? ⟨w.heap.size + 1 + 1 + 1, 1, none⟩ = some (.int .u32 aa) := yB.cell 1
  have y3 : w2.cell? ⟨w.heap.size + 1 + 1 + 1, 2, none⟩ = some (.slice (some ⟨gA, 0, none⟩) K c) := yB.cell 2
  have y6 := yB.free 2
  have g1 : ¬ gA = w.heap.size + 1 := by omega
  have g2 : ¬ gA = w.heap.size + 1 + 1 := by omega
  have g3 : ¬ gA = w.heap.size + 1 + 1 + 1 := by omega
  have g4 : ¬ w.heap.size + 1 = gA := by omega
  have g5 : ¬ w.heap.size + 1 + 1 = gA := by omega
  have g6 : ¬ w.heap.size + 1 + 1 + 1 = gA := by omega
  have X : Ext w2 w2.drew := (Ext.refl w2).drew
  have d2 : ∀ y : Xt w2.drew, y.W.cell? ⟨w.heap.size + 1, 1, none⟩ = some (.int .u32 ab) := fun y => y.x.cell (X.cell b2)
  have dA : ∀ y : Xt w2.drew, y.W.cell? ⟨gA, K - 1, none⟩ = some (.int .u32 (l1.getD (K - 1) 0)) := fun y => y.x.cell (X.cell cA)
  by_cases hov : 4294967295 - ab < l1.getD (K - 1) 0
  · have R0 := HR.out
    rw [if_pos hov] at R0
    have RH := Lib.hid R0
    clear R0
    refine wp_region_ord [0,0,2,6,0,16,62,126,254,254,511,1535,4095] (.pur [0] (.flo [1,2,3,4,5] (.one 6 (.flo [7,8,10] (.pur [9] (.one 11 (.flo [12] (.fin)))))))) (by kernel_rfl) (by kernel_rfl) (by intro _ _ d _ _ h; cases d <;> exact h) ?_
    (refine ord_pur (pick_cons rfl pick_nil) ?_; (repeat (go_big_quiet_step (fail))); refine wpQuiet_nil ?_; show ordWalk _ _ _ _ _ _ _)
    (refine ord_flo (pick_cons rfl (pick_cons rfl (pick_cons rfl (pick_cons rfl (pick_cons rfl pick_nil))))) ?_; (repeat (go_big_quiet_step (fail))); refine wpQuiet_nil ?_; show ordWalk _ _ _ _ _ _ _)
    refine ord_one (pick_cons rfl pick_nil) ?_; intro K_ hK_
    go_wp2_with (refine (sum_over _ _ _ uu hab hov).mono ?_; rintro r w1' ⟨rfl, rfl⟩)
    (refine ord_flo (pick_cons rfl (pick_cons rfl (pick_cons rfl pick_nil))) ?_; (repeat (go_big_quiet_step (fail))); refine wpQuiet_nil ?_; show ordWalk _ _ _ _ _ _ _)
    (refine ord_pur (pick_cons rfl pick_nil) ?_; (repeat (go_big_quiet_step (fail))); refine wpQuiet_nil ?_; show ordWalk _ _ _ _ _ _ _)
    refine ord_one (pick_cons rfl pick_nil) ?_; intro K_ hK_
    go_wp2
    (refine ord_flo (pick_cons rfl pick_nil) ?_; (repeat (go_big_quiet_step (fail))); refine wpQuiet_nil ?_; show ordWalk _ _ _ _ _ _ _)
    refine ord_fin ?_
    go_wp2
    refine bodyPost_ret (v := .tuple #[.agg #[.int .i64 0, .int .u32 0, .slice none 0 0], .int .u16 41]) (by simp only [results, Tryd.results9]; go_simp) rfl ?_
    rw [RH.out]
    refine wayNone ?_
    (repeat' (first | with_reducible exact x2 | with_reducible refine Ext.drew ?_ | with_reducible refine Ext.drewN ?_ _ | with_reducible refine Ext.alloc ?_ _ | with_reducible refine Ext.set ?_ ?_ _ | omega | (simp; done) | (simp; omega)))
  · have R0 := HR.out
    rw [if_neg hov] at R0
    have RH := Lib.hid R0
    clear R0
    have uo : l1.getD (K - 1) 0 + ab ≤ 4294967295 := by omega
    refine wp_region_ord [0,0,2,6,0,16,62,126,254,254,511,1535,4095] (.pur [0] (.flo [1,2,3,4,5] (.one 6 (.flo [7,8,10] (.pur [9] (.one 11 (.flo [12] (.fin)))))))) (by kernel_rfl) (by kernel_rfl) (by intro _ _ d _ _ h; cases d <;> exact h) ?_
    (refine ord_pur (pick_cons rfl pick_nil) ?_; (repeat (go_big_quiet_step (fail))); refine wpQuiet_nil ?_; show ordWalk _ _ _ _ _ _ _)
    (refine ord_flo (pick_cons rfl (pick_cons rfl (pick_cons rfl (pick_cons rfl (pick_cons rfl pick_nil))))) ?_; (repeat (go_big_quiet_step (fail))); refine wpQuiet_nil ?_; show ordWalk _ _ _ _ _ _ _)
    refine ord_one (pick_cons rfl pick_nil) ?_; intro K_ hK_
    go_wp2_with (refine (sum_ok _ _ _ uu hab (by omega)).mono ?_; rintro r w1' ⟨rfl, rfl⟩)
    (refine ord_flo (pick_cons rfl (pick_cons rfl (pick_cons rfl pick_nil))) ?_; (repeat (go_big_quiet_step (fail))); refine wpQuiet_nil ?_; show ordWalk _ _ _ _ _ _ _)
    (refine ord_pur (pick_cons rfl pick_nil) ?_; (repeat (go_big_quiet_step (fail))); refine wpQuiet_nil ?_; show ordWalk _ _ _ _ _ _ _)
    refine ord_one (pick_cons rfl pick_nil) ?_; intro K_ hK_
    go_wp2
    (refine ord_flo (pick_cons rfl pick_nil) ?_; (repeat (go_big_quiet_step (fail))); refine wpQuiet_nil ?_; show ordWalk _ _ _ _ _ _ _)
    refine ord_fin ?_
    go_wp2_with (at_builtin; refine wpList_append_gen _ elemWords (w.heap.size + 4) _ _ (by rfl) (by rfl) (some ⟨gA, 0, none⟩) K c _ (by rfl) ((ho2.put (K - 1) _).drew) A2 n2 c2 (wds l2) (by rfl) (h2.ext (Ext.drew (x2.set (by simp; omega) _))) (wds_one _) (by omega) (by omega) (by have := x2.size; have := yB.lt; simp; omega) ?_; intro A' c' w1' ho1 hg1 hk1; have yy := Bk.grown (by exact (yB.far (by simpa using g6) _).drew) hg1 (ho2.ne (by omega)); have z1 : w1'.cell? ⟨w.heap.size + 1 + 1 + 1, 0, none⟩ = some (.int .i64 La) := yy.cell 0; have z2 : w1'.cell? ⟨w.heap.size + 1 + 1 + 1, 1, none⟩ = some (.int .u32 aa) := yy.cell 1; have z3 : w1'.cell? ⟨w.heap.size + 1 + 1 + 1, 2, none⟩ = some (.slice (some ⟨gA, 0, none⟩) K c) := yy.cell 2; have z4 := yy.free 2; have rr := Bk.grown (by exact (rB.far (by simpa using g5) _).drew) hg1 (ho2.ne (by omega)); have v1 : w1'.cell? ⟨w.heap.size + 1 + 1, 0, none⟩ = some (.int .i64 0) := rr.cell 0; have v2 : w1'.cell? ⟨w.heap.size + 1 + 1, 1, none⟩ = some (.int .u32 0) := rr.cell 1; have v3 : w1'.cell? ⟨w.heap.size + 1 + 1, 2, none⟩ = some (.slice none 0 0) := rr.cell 2; have v4 := rr.free 0; have v5 := rr.free 1; have v6 := rr.free 2)
    refine bodyPost_ret (v := .tuple #[.agg #[.int .i64 La, .int .u32 aa, .slice A' (K + n2) c'], .int .u16 0]) (by simp only [results, Tryd.results9]; go_simp) rfl ?_
    rw [RH.out]
    have hl2 := h2.wlen
    have e0 : (l1.take (K - 1) ++ [l1.getD (K - 1) 0 + ab] ++ l2).length = K + n2 := by simp; omega
    refine ⟨A', c', by simp only [e0], ?_, ?_⟩
    · have e2 : (wds (l1.take K)).set (K - 1) (.int .u32 (l1[K - 1]?.getD 0 + ab)) ++ wds l2 = wds (l1.take (K - 1) ++ [l1.getD (K - 1) 0 + ab] ++ l2) := by
        rw [← List.getD_eq_getElem?_getD, wds_set_last _ _ _ hK hl1, wds_append]
      rw [e2] at ho1
      have hx : ∀ k, k < w.heap.size + 4 → blk A' c' ≠ some k := fun k hk => ho1.ne hk
      simp only [e0]
      refine Own.far ?_ (hx _ (by simp)) _
      refine Own.far ?_ (hx _ (by simp)) _
      refine Own.far ?_ (hx _ (by simp)) _
      exact Own.far (ho1.mono (by omega)) (hx _ (by simp)) _
    · have e1 : Ext w w1' := (Ext.drew (x2.set (p := ⟨gA, K - 1, none⟩) (by simp; omega) _)).grown hg1 (fun k hk => by have := ho2.lt k hk; omega)
      (repeat' (first | with_reducible exact e1 | with_reducible refine Ext.drew ?_ | with_reducible refine Ext.drewN ?_ _ | with_reducible refine Ext.alloc ?_ _ | with_reducible refine Ext.set ?_ ?_ _ | omega | (simp; done) | (simp; omega)))

set_option maxRecDepth 100000 in
set_option maxHeartbeats 2000000 in
theorem then_gt (La aa Lb ab : Int) (A1 A2 : Option Addr) (n1 n2 c1 c2 : Nat) (l2 : List Int) (w : World) (h2 : Sl w 1 A2 n2 c2 (wds l2)) (hn2 : n2 ≤ 1000000) (hn1 : n1 ≤ 1000000) (hLb : (n1 : Int) < Lb) :
    Calls Tryd.prog 9 #[.agg #[.int .i64 La, .int .u32 aa, .slice A1 n1 c1], .agg #[.int .i64 Lb, .int .u32 ab, .slice A2 n2 c2]] w
      (WayOut w (⟨wrap64 (wrap64 (La + Lb) - n1), ab, l2⟩, 0)) := by
  have q0 : (Lb == (n1 : Int)) = false := by simp; omega
  go_enter Tryd.func9, Tryd.ntmps9
  have WH := Lib.hid (show ∀ (r : Ending) (w' : World), WayOut w (⟨wrap64 (wrap64 (La + Lb) - n1), ab, l2⟩, 0) r w' → WayOut w (⟨wrap64 (wrap64 (La + Lb) - n1), ab, l2⟩, 0) r w' from fun _ _ h => h)
  go_upto_region 4 with fail
  go_region
  obtain ⟨v, hv⟩ : ∃ v, v = wrap64 (wrap64 (La + Lb) - n1) := ⟨_, rfl⟩
  rw [← hv] at WH
  go_wp2_with (at_builtin; simp only [← hv]; refine wpList_append_gen _ elemWords (w.heap.size + 4) _ _ (by rfl) (by rfl) Option.none 0 0 [] (by rfl) (Own.nil _ _ _ _) A2 n2 c2 (wds l2) (by rfl) (h2.ext (Ext.drew (((((Ext.refl w).alloc _).alloc _).alloc _).alloc _))) (wds_one _) (by omega) (by omega) (by simp) ?_; intro A' c' w1 ho1 hg1 hk1; have yy := Bk.grown (show Bk _ (w.heap.size + 1 + 1 + 1) 25 #[.int .i64 v, .int .u32 ab, .slice Option.none 0 0] from (Bk.at (by simp)).drew) hg1 (by simp [blk]); have z1 : w1.cell? ⟨w.heap.size + 1 + 1 + 1, 0, none⟩ = some (.int .i64 v) := yy.cell 0; have z2 : w1.cell? ⟨w.heap.size + 1 + 1 + 1, 1, none⟩ = some (.int .u32 ab) := yy.cell 1; have z3 : w1.cell? ⟨w.heap.size + 1 + 1 + 1, 2, none⟩ = some (.slice none 0 0) := yy.cell 2; have z4 := yy.free 2; have rr := Bk.grown (show Bk _ (w.heap.size + 1 + 1) 25 #[.int .i64 0, .int .u32 0, .slice Option.none 0 0] from ((Bk.at (by simp)).alloc _).drew) hg1 (by simp [blk]); have u1 : w1.cell? ⟨w.heap.size + 1 + 1, 0, none⟩ = some (.int .i64 0) := rr.cell 0; have u2 : w1.cell? ⟨w.heap.size + 1 + 1, 1, none⟩ = some (.int .u32 0) := rr.cell 1; have u3 : w1.cell? ⟨w.heap.size + 1 + 1, 2, none⟩ = some (.slice none 0 0) := rr.cell 2; have u4 := rr.free 0; have u5 := rr.free 1; have u6 := rr.free 2)
  refine bodyPost_ret (v := .tuple #[.agg #[.int .i64 v, .int .u32 ab, .slice A' n2 c'], .int .u16 0]) (by simp only [results, Tryd.results9]; go_simp) rfl ?_
  subst hv
  have hl := h2.wlen
  subst hl
  refine ⟨A', c', rfl, ?_, ?_⟩
  · rw [List.nil_append, Nat.zero_add] at ho1
    have hx : ∀ k, k < w.heap.size + 4 → blk A' c' ≠ some k := fun k hk => ho1.ne hk
    refine Own.far ?_ (hx _ (by simp)) _
    refine Own.far ?_ (hx _ (by simp)) _
    refine Own.far ?_ (hx _ (by simp)) _
    exact Own.far (ho1.mono (by omega)) (hx _ (by simp)) _
  · have e1 : Ext w w1 := (Ext.drew (((((Ext.refl w).alloc _).alloc _).alloc _).alloc _)).grown hg1 (fun k hk => by simp [blk] at hk)
    (repeat' (first | with_reducible exact e1 | with_reducible refine Ext.drew ?_ | with_reducible refine Ext.drewN ?_ _ | with_reducible refine Ext.alloc ?_ _ | with_reducible refine Ext.set ?_ ?_ _ | omega | (simp; done) | (simp; omega)))

theorem then_any (La aa Lb ab : Int) (A1 A2 : Option Addr) (n1 n2 c1 c2 : Nat) (l1 l2 : List Int) (w : World) (h1 : Sl w 1 A1 n1 c1 (wds l1)) (h2 : Sl w 1 A2 n2 c2 (wds l2)) (u1 : U32 l1)
    (haa : 0 ≤ aa ∧ aa ≤ 4294967295) (hab : 0 ≤ ab ∧ ab ≤ 4294967295) (hn1 : n1 ≤ 1000000) (hn2 : n2 ≤ 1000000) :
    Calls Tryd.prog 9 #[.agg #[.int .i64 La, .int .u32 aa, .slice A1 n1 c1], .agg #[.int .i64 Lb, .int .u32 ab, .slice A2 n2 c2]] w (WayOut w (thenT La aa l1 Lb ab l2)) := by
  have hw1 := h1.wlen
  unfold thenT
  by_cases k1 : Lb < 0
  · rw [if_pos k1]; exact then_neg _ _ _ _ _ _ _ _ _ _ _ k1
  rw [if_neg k1]
  by_cases k2 : Lb < l1.length
  · rw [if_pos k2]
    obtain ⟨m, rfl⟩ : ∃ m : Nat, Lb = m := ⟨Lb.toNat, by omega⟩
    obtain ⟨K, rfl⟩ : ∃ K, n1 = K + m := ⟨n1 - m, by omega⟩
    have := then_in K m (by omega) La aa ab A1 A2 n2 c1 c2 l1 l2 w h1 h2 u1 hab hn1 hn2
    have e : l1.length - (m : Int).toNat - 1 = K - 1 := by omega
    rw [e]
    exact this
  rw [if_neg k2]
  by_cases k3 : Lb = l1.length
  · rw [if_pos k3]
    have e : Lb = (n1 : Int) := by omega
    rw [e]
    exact then_eq La aa ab A1 A2 n1 n2 c1 c2 l2 w h2 haa hab hn2
  rw [if_neg k3]
  have e : (l1.length : Int) = (n1 : Int) := by omega
  rw [e]
  exact then_gt La aa Lb ab A1 A2 n1 n2 c1 c2 l2 w h2 hn2 hn1 (by omega)
end Go.Proofs.YtilbfmfioopiiaaDoor
