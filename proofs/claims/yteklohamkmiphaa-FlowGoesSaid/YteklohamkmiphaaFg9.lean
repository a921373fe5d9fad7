/- flow.node: whether a node may be. flow.node, whole. flow.Check$1. flow.edge. As OrdR, with the facts laid anew behind each operation that may write. flow.Check, plainly. flow.Check. flow.copied. Conditions: each theorem states its own. -/
import Derived.Test.YteklohamkmiphaaFg5
import Derived.Test.YteklohamkmiphaaFg8
import Derived.Laws.EntriesVeiled
import Derived.Test.YteklohamkmiphaaFg6
import Derived.Test.YteklohamkmiphaaFg7
import Derived.Test.YteklohamkmiphaaFg2
import Derived.Deep.LoopGhost
namespace Go.Proofs.Yteklohamkmiphaa
open Go.RowKit

set_option maxRecDepth 100000 in
set_option maxHeartbeats 400000 in
theorem within_any (x m : Int) (w : World) : Calls Try.prog 40 #[.int .i64 x, .int .i64 m] w fun e w' => e = .returned (.bool (decide (0 ≤ x ∧ x ≤ m))) ∧ w = w' := by
  go_enter Try.func40, Try.ntmps40
  by_cases h1 : x ≥ 0
  · by_cases h2 : x ≤ m
    · go_wp2
      go_ret
      exact ⟨by simp [h2, show 0 ≤ x from h1], rfl⟩
    · go_wp2
      go_ret
      exact ⟨by simp [h2], rfl⟩
  · go_wp2
    go_ret
    exact ⟨by simp [show ¬ 0 ≤ x by omega], rfl⟩
theorem made_at {d L a M : Int} {A : Option Addr} {n c : Nat} (w : World) (h : Hid (madeI d L n = M)) : Calls Try.prog 43 #[.int .i64 d, .agg #[.int .i64 L, .int .u32 a, .slice A n c]] w fun e w' => e = .returned (.int .i64 M) ∧ Ext w w' := by
  have := made_any d L a A n c w
  rw [h.out] at this
  exact this
theorem within_at {x m : Int} {b : Bool} (w : World) (h : Hid (decide (0 ≤ x ∧ x ≤ m) = b)) : Calls Try.prog 40 #[.int .i64 x, .int .i64 m] w fun e w' => e = .returned (.bool b) ∧ w = w' := by
  have := within_any x m w
  rw [h.out] at this
  exact this

/-- what the last test of an inner way sees -/
structure InnW (w : World) (ins outs depth : Int) (A : Option Addr) (n c b1 b2 : Nat) : Prop where
  c0 : w.cell? ⟨b1, 0, none⟩ = some (.int .i64 ins)
  c1 : w.cell? ⟨b1, 1, none⟩ = some (.int .i64 outs)
  c2 : w.cell? ⟨b1, 2, none⟩ = some (.int .i64 depth)
  c3 : w.cell? ⟨b1, 3, none⟩ = some (.slice A n c)
  f : w.cell? ⟨b2, 0, none⟩ = some (.func (.func 40) #[] #[])
theorem InnW.ext {w w' : World} {ins outs depth : Int} {A : Option Addr} {n c b1 b2 : Nat} (h : InnW w ins outs depth A n c b1 b2) (x : Ext w w') : InnW w' ins outs depth A n c b1 b2 := ⟨x.cell h.c0, x.cell h.c1, x.cell h.c2, x.cell h.c3, x.cell h.f⟩

set_option maxRecDepth 100000 in
set_option maxHeartbeats 4000000 in
theorem inn_any (ins outs depth : Int) (A : Option Addr) (n c g1 g2 : Nat) (i o L a : Int) (B : Option Addr) (m d : Nat) (w : World) (h : Hid (InnW w ins outs depth A n c g1 g2)) (hi : 0 ≤ ins ∧ ins ≤ 8) (ho : 0 ≤ outs ∧ outs ≤ 8) (hd : 0 ≤ depth ∧ depth ≤ 3) (ha : 0 ≤ a) :
    Calls Try.prog 42 #[.agg #[.int .i64 i, .int .i64 o, .int .i64 L, .int .u32 a, .slice B m d], .pointer (some ⟨g1, 0, none⟩), .pointer (some ⟨g2, 0, none⟩)] w fun e w' =>
      e = .returned (.bool (! decide (0 ≤ i ∧ i ≤ ins - 1) || ! decide (0 ≤ o ∧ o ≤ outs - 1) || ! decide (0 ≤ L ∧ L ≤ depth) || (decide (L = depth) && decide (0 < a)) || decide (3 < madeI depth L m) || (! turnsI ins outs n && decide (madeI depth L m ≠ depth)))) ∧ Ext w w' := by
  have i1 : IntKind.i64.wrap (ins - 1) = ins - 1 := IntWalk.i64_in _ (by omega)
  have o1 : IntKind.i64.wrap (outs - 1) = outs - 1 := IntWalk.i64_in _ (by omega)
  have HI := h
  have A0 := h.out.ext ((Ext.refl w).alloc (Obj.cells #[.int .i64 i, .int .i64 o, .int .i64 L, .int .u32 a, .slice B m d] 52))
  have q0 := A0.c0
  have q1 := A0.c1
  have q2 := A0.c2
  have q3 := A0.c3
  have qf := A0.f
  clear A0
  obtain ⟨M, hM⟩ : ∃ M, madeI depth L m = M := ⟨_, rfl⟩
  rw [hM]
  have HM := Lib.hid hM
  clear hM
  obtain ⟨T, hT⟩ : ∃ T, turnsI ins outs n = T := ⟨_, rfl⟩
  rw [hT]
  have HTT := Lib.hid hT
  clear hT
  -- LEAVES
  by_cases h1 : 0 ≤ i ∧ i ≤ ins - 1
  rotate_left
  · have b1 := decide_eq_false h1
    have B1 : Hid (decide (0 ≤ i ∧ i ≤ ins - 1) = false) := Lib.hid b1
    have e : (! decide (0 ≤ i ∧ i ≤ ins - 1) || ! decide (0 ≤ o ∧ o ≤ outs - 1) || ! decide (0 ≤ L ∧ L ≤ depth) || (decide (L = depth) && decide (0 < a)) || decide (3 < M) || (! T && decide (M ≠ depth))) = true := by rw [b1]; simp
    rw [e]
    clear e
    go_enter Try.func42, Try.ntmps42
    go_wp2_with (first | (go_at_call 43; refine (made_at _ HM).mono ?_; rintro r w1 ⟨rfl, x1⟩; have XX : Ext w w1 := Ext.trans ((Ext.refl w).alloc _) x1; have K := HI.out.ext XX; have k0 := K.c0; have k1 := K.c1; have k2 := K.c2; have k3 := K.c3; have kf := K.f; have y0 : w1.cell? ⟨w.heap.size, 0, none⟩ = some (.int .i64 i) := x1.cell (by go_simp); have y1 : w1.cell? ⟨w.heap.size, 1, none⟩ = some (.int .i64 o) := x1.cell (by go_simp); have y2 : w1.cell? ⟨w.heap.size, 2, none⟩ = some (.int .i64 L) := x1.cell (by go_simp); have y3 : w1.cell? ⟨w.heap.size, 3, none⟩ = some (.int .u32 a) := x1.cell (by go_simp); clear K x1; have HX := Lib.hid XX; clear XX) | (go_at_call 40; (first | (with_reducible refine (within_at _ B1).mono ?_)); rintro e w' ⟨rfl, rfl⟩))
    go_returns
    exact ⟨rfl, by have e1 := HX.out; (repeat' (first | with_reducible exact e1 | with_reducible refine Ext.drew ?_ | with_reducible refine Ext.drewN ?_ _ | with_reducible refine Ext.alloc ?_ _ | with_reducible refine Ext.set ?_ ?_ _ | omega | (simp; done) | (simp; omega)))⟩
  have b1 := decide_eq_true h1
  have B1 : Hid (decide (0 ≤ i ∧ i ≤ ins - 1) = true) := Lib.hid b1
  by_cases h2 : 0 ≤ o ∧ o ≤ outs - 1
  rotate_left
  · have b2 := decide_eq_false h2
    have B2 : Hid (decide (0 ≤ o ∧ o ≤ outs - 1) = false) := Lib.hid b2
    have e : (! decide (0 ≤ i ∧ i ≤ ins - 1) || ! decide (0 ≤ o ∧ o ≤ outs - 1) || ! decide (0 ≤ L ∧ L ≤ depth) || (decide (L = depth) && decide (0 < a)) || decide (3 < M) || (! T && decide (M ≠ depth))) = true := by rw [b1, b2]; simp
    rw [e]
    clear e
    go_enter Try.func42, Try.ntmps42
    go_wp2_with (first | (go_at_call 43; refine (made_at _ HM).mono ?_; rintro r w1 ⟨rfl, x1⟩; have XX : Ext w w1 := Ext.trans ((Ext.refl w).alloc _) x1; have K := HI.out.ext XX; have k0 := K.c0; have k1 := K.c1; have k2 := K.c2; have k3 := K.c3; have kf := K.f; have y0 : w1.cell? ⟨w.heap.size, 0, none⟩ = some (.int .i64 i) := x1.cell (by go_simp); have y1 : w1.cell? ⟨w.heap.size, 1, none⟩ = some (.int .i64 o) := x1.cell (by go_simp); have y2 : w1.cell? ⟨w.heap.size, 2, none⟩ = some (.int .i64 L) := x1.cell (by go_simp); have y3 : w1.cell? ⟨w.heap.size, 3, none⟩ = some (.int .u32 a) := x1.cell (by go_simp); clear K x1; have HX := Lib.hid XX; clear XX) | (go_at_call 40; (first | (with_reducible refine (within_at _ B1).mono ?_) | (with_reducible refine (within_at _ B2).mono ?_)); rintro e w' ⟨rfl, rfl⟩))
    go_returns
    exact ⟨rfl, by have e1 := HX.out; (repeat' (first | with_reducible exact e1 | with_reducible refine Ext.drew ?_ | with_reducible refine Ext.drewN ?_ _ | with_reducible refine Ext.alloc ?_ _ | with_reducible refine Ext.set ?_ ?_ _ | omega | (simp; done) | (simp; omega)))⟩
  have b2 := decide_eq_true h2
  have B2 : Hid (decide (0 ≤ o ∧ o ≤ outs - 1) = true) := Lib.hid b2
  by_cases h3 : 0 ≤ L ∧ L ≤ depth
  rotate_left
  · have b3 := decide_eq_false h3
    have B3 : Hid (decide (0 ≤ L ∧ L ≤ depth) = false) := Lib.hid b3
    have e : (! decide (0 ≤ i ∧ i ≤ ins - 1) || ! decide (0 ≤ o ∧ o ≤ outs - 1) || ! decide (0 ≤ L ∧ L ≤ depth) || (decide (L = depth) && decide (0 < a)) || decide (3 < M) || (! T && decide (M ≠ depth))) = true := by rw [b1, b2, b3]; simp
    rw [e]
    clear e
    go_enter Try.func42, Try.ntmps42
    go_wp2_with (first | (go_at_call 43; refine (made_at _ HM).mono ?_; rintro r w1 ⟨rfl, x1⟩; have XX : Ext w w1 := Ext.trans ((Ext.refl w).alloc _) x1; have K := HI.out.ext XX; have k0 := K.c0; have k1 := K.c1; have k2 := K.c2; have k3 := K.c3; have kf := K.f; have y0 : w1.cell? ⟨w.heap.size, 0, none⟩ = some (.int .i64 i) := x1.cell (by go_simp); have y1 : w1.cell? ⟨w.heap.size, 1, none⟩ = some (.int .i64 o) := x1.cell (by go_simp); have y2 : w1.cell? ⟨w.heap.size, 2, none⟩ = some (.int .i64 L) := x1.cell (by go_simp); have y3 : w1.cell? ⟨w.heap.size, 3, none⟩ = some (.int .u32 a) := x1.cell (by go_simp); clear K x1; have HX := Lib.hid XX; clear XX) | (go_at_call 40; (first | (with_reducible refine (within_at _ B1).mono ?_) | (with_reducible refine (within_at _ B2).mono ?_) | (with_reducible refine (within_at _ B3).mono ?_)); rintro e w' ⟨rfl, rfl⟩))
    go_returns
    exact ⟨rfl, by have e1 := HX.out; (repeat' (first | with_reducible exact e1 | with_reducible refine Ext.drew ?_ | with_reducible refine Ext.drewN ?_ _ | with_reducible refine Ext.alloc ?_ _ | with_reducible refine Ext.set ?_ ?_ _ | omega | (simp; done) | (simp; omega)))⟩
  have b3 := decide_eq_true h3
  have B3 : Hid (decide (0 ≤ L ∧ L ≤ depth) = true) := Lib.hid b3
  clear h1 h2 h3
  have key : ∀ eq : Bool, (decide (L = depth) && decide (0 < a)) = false → decide (L = depth) = eq → True := fun _ _ _ => trivial
  clear key
  by_cases h4 : L = depth
  · have b4 : (L == depth) = true := by simp [h4]
    have b9 := decide_eq_true h4
    by_cases h6 : 0 < a
    · have b6 := decide_eq_true h6
      have e : (! decide (0 ≤ i ∧ i ≤ ins - 1) || ! decide (0 ≤ o ∧ o ≤ outs - 1) || ! decide (0 ≤ L ∧ L ≤ depth) || (decide (L = depth) && decide (0 < a)) || decide (3 < M) || (! T && decide (M ≠ depth))) = true := by rw [b1, b2, b3, b9, b6]; simp
      rw [e]
      clear e h4 b9
      go_enter Try.func42, Try.ntmps42
      go_wp2_with (first | (go_at_call 43; refine (made_at _ HM).mono ?_; rintro r w1 ⟨rfl, x1⟩; have XX : Ext w w1 := Ext.trans ((Ext.refl w).alloc _) x1; have K := HI.out.ext XX; have k0 := K.c0; have k1 := K.c1; have k2 := K.c2; have k3 := K.c3; have kf := K.f; have y0 : w1.cell? ⟨w.heap.size, 0, none⟩ = some (.int .i64 i) := x1.cell (by go_simp); have y1 : w1.cell? ⟨w.heap.size, 1, none⟩ = some (.int .i64 o) := x1.cell (by go_simp); have y2 : w1.cell? ⟨w.heap.size, 2, none⟩ = some (.int .i64 L) := x1.cell (by go_simp); have y3 : w1.cell? ⟨w.heap.size, 3, none⟩ = some (.int .u32 a) := x1.cell (by go_simp); clear K x1; have HX := Lib.hid XX; clear XX) | (go_at_call 40; (first | (with_reducible refine (within_at _ B1).mono ?_) | (with_reducible refine (within_at _ B2).mono ?_) | (with_reducible refine (within_at _ B3).mono ?_)); rintro e w' ⟨rfl, rfl⟩))
      go_returns
      exact ⟨rfl, by have e1 := HX.out; (repeat' (first | with_reducible exact e1 | with_reducible refine Ext.drew ?_ | with_reducible refine Ext.drewN ?_ _ | with_reducible refine Ext.alloc ?_ _ | with_reducible refine Ext.set ?_ ?_ _ | omega | (simp; done) | (simp; omega)))⟩
    have b6 := decide_eq_false h6
    by_cases h5 : 3 < M
    · have b5 := decide_eq_true h5
      have e : (! decide (0 ≤ i ∧ i ≤ ins - 1) || ! decide (0 ≤ o ∧ o ≤ outs - 1) || ! decide (0 ≤ L ∧ L ≤ depth) || (decide (L = depth) && decide (0 < a)) || decide (3 < M) || (! T && decide (M ≠ depth))) = true := by rw [b1, b2, b3, b9, b6, b5]; simp
      rw [e]
      clear e h4 b9
      go_enter Try.func42, Try.ntmps42
      go_wp2_with (first | (go_at_call 43; refine (made_at _ HM).mono ?_; rintro r w1 ⟨rfl, x1⟩; have XX : Ext w w1 := Ext.trans ((Ext.refl w).alloc _) x1; have K := HI.out.ext XX; have k0 := K.c0; have k1 := K.c1; have k2 := K.c2; have k3 := K.c3; have kf := K.f; have y0 : w1.cell? ⟨w.heap.size, 0, none⟩ = some (.int .i64 i) := x1.cell (by go_simp); have y1 : w1.cell? ⟨w.heap.size, 1, none⟩ = some (.int .i64 o) := x1.cell (by go_simp); have y2 : w1.cell? ⟨w.heap.size, 2, none⟩ = some (.int .i64 L) := x1.cell (by go_simp); have y3 : w1.cell? ⟨w.heap.size, 3, none⟩ = some (.int .u32 a) := x1.cell (by go_simp); clear K x1; have HX := Lib.hid XX; clear XX) | (go_at_call 40; (first | (with_reducible refine (within_at _ B1).mono ?_) | (with_reducible refine (within_at _ B2).mono ?_) | (with_reducible refine (within_at _ B3).mono ?_)); rintro e w' ⟨rfl, rfl⟩))
      go_returns
      exact ⟨rfl, by have e1 := HX.out; (repeat' (first | with_reducible exact e1 | with_reducible refine Ext.drew ?_ | with_reducible refine Ext.drewN ?_ _ | with_reducible refine Ext.alloc ?_ _ | with_reducible refine Ext.set ?_ ?_ _ | omega | (simp; done) | (simp; omega)))⟩
    have b5 := decide_eq_false h5
    rcases Bool.eq_false_or_eq_true T with ht | ht
    · have HT := Lib.hid (HTT.out.trans ht)
      have e : (! decide (0 ≤ i ∧ i ≤ ins - 1) || ! decide (0 ≤ o ∧ o ≤ outs - 1) || ! decide (0 ≤ L ∧ L ≤ depth) || (decide (L = depth) && decide (0 < a)) || decide (3 < M) || (! T && decide (M ≠ depth))) = false := by rw [b1, b2, b3, b9, b6, b5, ht]; simp
      rw [e]
      clear e h4 b9
      go_enter Try.func42, Try.ntmps42
      go_wp2_with (first | (go_at_call 43; refine (made_at _ HM).mono ?_; rintro r w1 ⟨rfl, x1⟩; have XX : Ext w w1 := Ext.trans ((Ext.refl w).alloc _) x1; have K := HI.out.ext XX; have k0 := K.c0; have k1 := K.c1; have k2 := K.c2; have k3 := K.c3; have kf := K.f; have y0 : w1.cell? ⟨w.heap.size, 0, none⟩ = some (.int .i64 i) := x1.cell (by go_simp); have y1 : w1.cell? ⟨w.heap.size, 1, none⟩ = some (.int .i64 o) := x1.cell (by go_simp); have y2 : w1.cell? ⟨w.heap.size, 2, none⟩ = some (.int .i64 L) := x1.cell (by go_simp); have y3 : w1.cell? ⟨w.heap.size, 3, none⟩ = some (.int .u32 a) := x1.cell (by go_simp); clear K x1; have HX := Lib.hid XX; clear XX) | (go_at_call 40; (first | (with_reducible refine (within_at _ B1).mono ?_) | (with_reducible refine (within_at _ B2).mono ?_) | (with_reducible refine (within_at _ B3).mono ?_)); rintro e w' ⟨rfl, rfl⟩) | (go_at_call 44; refine (turns_at _ HT).mono ?_; rintro r w2 ⟨rfl, x2⟩; have XX : Ext w w2 := HX.out.trans x2; have K := HI.out.ext XX; have z2 := K.c2; clear K; have HY := Lib.hid XX; clear XX x2))
      go_returns
      exact ⟨rfl, by have e1 := HY.out; (repeat' (first | with_reducible exact e1 | with_reducible refine Ext.drew ?_ | with_reducible refine Ext.drewN ?_ _ | with_reducible refine Ext.alloc ?_ _ | with_reducible refine Ext.set ?_ ?_ _ | omega | (simp; done) | (simp; omega)))⟩
    · have HT := Lib.hid (HTT.out.trans ht)
      by_cases h7 : M = depth
      · have b7 : (M != depth) = false := by simp [h7]
        have b8 : decide (M ≠ depth) = false := decide_eq_false (fun q => q h7)
        have e : (! decide (0 ≤ i ∧ i ≤ ins - 1) || ! decide (0 ≤ o ∧ o ≤ outs - 1) || ! decide (0 ≤ L ∧ L ≤ depth) || (decide (L = depth) && decide (0 < a)) || decide (3 < M) || (! T && decide (M ≠ depth))) = false := by rw [b1, b2, b3, b9, b6, b5, ht, b8]; simp
        rw [e]
        clear e h4 b9 h7 b8
        go_enter Try.func42, Try.ntmps42
        go_wp2_with (first | (go_at_call 43; refine (made_at _ HM).mono ?_; rintro r w1 ⟨rfl, x1⟩; have XX : Ext w w1 := Ext.trans ((Ext.refl w).alloc _) x1; have K := HI.out.ext XX; have k0 := K.c0; have k1 := K.c1; have k2 := K.c2; have k3 := K.c3; have kf := K.f; have y0 : w1.cell? ⟨w.heap.size, 0, none⟩ = some (.int .i64 i) := x1.cell (by go_simp); have y1 : w1.cell? ⟨w.heap.size, 1, none⟩ = some (.int .i64 o) := x1.cell (by go_simp); have y2 : w1.cell? ⟨w.heap.size, 2, none⟩ = some (.int .i64 L) := x1.cell (by go_simp); have y3 : w1.cell? ⟨w.heap.size, 3, none⟩ = some (.int .u32 a) := x1.cell (by go_simp); clear K x1; have HX := Lib.hid XX; clear XX) | (go_at_call 40; (first | (with_reducible refine (within_at _ B1).mono ?_) | (with_reducible refine (within_at _ B2).mono ?_) | (with_reducible refine (within_at _ B3).mono ?_)); rintro e w' ⟨rfl, rfl⟩) | (go_at_call 44; refine (turns_at _ HT).mono ?_; rintro r w2 ⟨rfl, x2⟩; have XX : Ext w w2 := HX.out.trans x2; have K := HI.out.ext XX; have z2 := K.c2; clear K; have HY := Lib.hid XX; clear XX x2))
        go_returns
        exact ⟨rfl, by have e1 := HY.out; (repeat' (first | with_reducible exact e1 | with_reducible refine Ext.drew ?_ | with_reducible refine Ext.drewN ?_ _ | with_reducible refine Ext.alloc ?_ _ | with_reducible refine Ext.set ?_ ?_ _ | omega | (simp; done) | (simp; omega)))⟩
      · have b7 : (M != depth) = true := by simp [h7]
        have b8 : decide (M ≠ depth) = true := decide_eq_true h7
        have e : (! decide (0 ≤ i ∧ i ≤ ins - 1) || ! decide (0 ≤ o ∧ o ≤ outs - 1) || ! decide (0 ≤ L ∧ L ≤ depth) || (decide (L = depth) && decide (0 < a)) || decide (3 < M) || (! T && decide (M ≠ depth))) = true := by rw [b1, b2, b3, b9, b6, b5, ht, b8]; simp
        rw [e]
        clear e h4 b9 h7 b8
        go_enter Try.func42, Try.ntmps42
        go_wp2_with (first | (go_at_call 43; refine (made_at _ HM).mono ?_; rintro r w1 ⟨rfl, x1⟩; have XX : Ext w w1 := Ext.trans ((Ext.refl w).alloc _) x1; have K := HI.out.ext XX; have k0 := K.c0; have k1 := K.c1; have k2 := K.c2; have k3 := K.c3; have kf := K.f; have y0 : w1.cell? ⟨w.heap.size, 0, none⟩ = some (.int .i64 i) := x1.cell (by go_simp); have y1 : w1.cell? ⟨w.heap.size, 1, none⟩ = some (.int .i64 o) := x1.cell (by go_simp); have y2 : w1.cell? ⟨w.heap.size, 2, none⟩ = some (.int .i64 L) := x1.cell (by go_simp); have y3 : w1.cell? ⟨w.heap.size, 3, none⟩ = some (.int .u32 a) := x1.cell (by go_simp); clear K x1; have HX := Lib.hid XX; clear XX) | (go_at_call 40; (first | (with_reducible refine (within_at _ B1).mono ?_) | (with_reducible refine (within_at _ B2).mono ?_) | (with_reducible refine (within_at _ B3).mono ?_)); rintro e w' ⟨rfl, rfl⟩) | (go_at_call 44; refine (turns_at _ HT).mono ?_; rintro r w2 ⟨rfl, x2⟩; have XX : Ext w w2 := HX.out.trans x2; have K := HI.out.ext XX; have z2 := K.c2; clear K; have HY := Lib.hid XX; clear XX x2))
        go_returns
        exact ⟨rfl, by have e1 := HY.out; (repeat' (first | with_reducible exact e1 | with_reducible refine Ext.drew ?_ | with_reducible refine Ext.drewN ?_ _ | with_reducible refine Ext.alloc ?_ _ | with_reducible refine Ext.set ?_ ?_ _ | omega | (simp; done) | (simp; omega)))⟩
  · have b4 : (L == depth) = false := by simp [h4]
    have b9 := decide_eq_false h4
    by_cases h5 : 3 < M
    · have b5 := decide_eq_true h5
      have e : (! decide (0 ≤ i ∧ i ≤ ins - 1) || ! decide (0 ≤ o ∧ o ≤ outs - 1) || ! decide (0 ≤ L ∧ L ≤ depth) || (decide (L = depth) && decide (0 < a)) || decide (3 < M) || (! T && decide (M ≠ depth))) = true := by rw [b1, b2, b3, b9, b5]; simp
      rw [e]
      clear e h4 b9
      go_enter Try.func42, Try.ntmps42
      go_wp2_with (first | (go_at_call 43; refine (made_at _ HM).mono ?_; rintro r w1 ⟨rfl, x1⟩; have XX : Ext w w1 := Ext.trans ((Ext.refl w).alloc _) x1; have K := HI.out.ext XX; have k0 := K.c0; have k1 := K.c1; have k2 := K.c2; have k3 := K.c3; have kf := K.f; have y0 : w1.cell? ⟨w.heap.size, 0, none⟩ = some (.int .i64 i) := x1.cell (by go_simp); have y1 : w1.cell? ⟨w.heap.size, 1, none⟩ = some (.int .i64 o) := x1.cell (by go_simp); have y2 : w1.cell? ⟨w.heap.size, 2, none⟩ = some (.int .i64 L) := x1.cell (by go_simp); have y3 : w1.cell? ⟨w.heap.size, 3, none⟩ = some (.int .u32 a) := x1.cell (by go_simp); clear K x1; have HX := Lib.hid XX; clear XX) | (go_at_call 40; (first | (with_reducible refine (within_at _ B1).mono ?_) | (with_reducible refine (within_at _ B2).mono ?_) | (with_reducible refine (within_at _ B3).mono ?_)); rintro e w' ⟨rfl, rfl⟩))
      go_returns
      exact ⟨rfl, by have e1 := HX.out; (repeat' (first | with_reducible exact e1 | with_reducible refine Ext.drew ?_ | with_reducible refine Ext.drewN ?_ _ | with_reducible refine Ext.alloc ?_ _ | with_reducible refine Ext.set ?_ ?_ _ | omega | (simp; done) | (simp; omega)))⟩
    have b5 := decide_eq_false h5
    rcases Bool.eq_false_or_eq_true T with ht | ht
    · have HT := Lib.hid (HTT.out.trans ht)
      have e : (! decide (0 ≤ i ∧ i ≤ ins - 1) || ! decide (0 ≤ o ∧ o ≤ outs - 1) || ! decide (0 ≤ L ∧ L ≤ depth) || (decide (L = depth) && decide (0 < a)) || decide (3 < M) || (! T && decide (M ≠ depth))) = false := by rw [b1, b2, b3, b9, b5, ht]; simp
      rw [e]
      clear e h4 b9
      go_enter Try.func42, Try.ntmps42
      go_wp2_with (first | (go_at_call 43; refine (made_at _ HM).mono ?_; rintro r w1 ⟨rfl, x1⟩; have XX : Ext w w1 := Ext.trans ((Ext.refl w).alloc _) x1; have K := HI.out.ext XX; have k0 := K.c0; have k1 := K.c1; have k2 := K.c2; have k3 := K.c3; have kf := K.f; have y0 : w1.cell? ⟨w.heap.size, 0, none⟩ = some (.int .i64 i) := x1.cell (by go_simp); have y1 : w1.cell? ⟨w.heap.size, 1, none⟩ = some (.int .i64 o) := x1.cell (by go_simp); have y2 : w1.cell? ⟨w.heap.size, 2, none⟩ = some (.int .i64 L) := x1.cell (by go_simp); have y3 : w1.cell? ⟨w.heap.size, 3, none⟩ = some (.int .u32 a) := x1.cell (by go_simp); clear K x1; have HX := Lib.hid XX; clear XX) | (go_at_call 40; (first | (with_reducible refine (within_at _ B1).mono ?_) | (with_reducible refine (within_at _ B2).mono ?_) | (with_reducible refine (within_at _ B3).mono ?_)); rintro e w' ⟨rfl, rfl⟩) | (go_at_call 44; refine (turns_at _ HT).mono ?_; rintro r w2 ⟨rfl, x2⟩; have XX : Ext w w2 := HX.out.trans x2; have K := HI.out.ext XX; have z2 := K.c2; clear K; have HY := Lib.hid XX; clear XX x2))
      go_returns
      exact ⟨rfl, by have e1 := HY.out; (repeat' (first | with_reducible exact e1 | with_reducible refine Ext.drew ?_ | with_reducible refine Ext.drewN ?_ _ | with_reducible refine Ext.alloc ?_ _ | with_reducible refine Ext.set ?_ ?_ _ | omega | (simp; done) | (simp; omega)))⟩
    · have HT := Lib.hid (HTT.out.trans ht)
      by_cases h7 : M = depth
      · have b7 : (M != depth) = false := by simp [h7]
        have b8 : decide (M ≠ depth) = false := decide_eq_false (fun q => q h7)
        have e : (! decide (0 ≤ i ∧ i ≤ ins - 1) || ! decide (0 ≤ o ∧ o ≤ outs - 1) || ! decide (0 ≤ L ∧ L ≤ depth) || (decide (L = depth) && decide (0 < a)) || decide (3 < M) || (! T && decide (M ≠ depth))) = false := by rw [b1, b2, b3, b9, b5, ht, b8]; simp
        rw [e]
        clear e h4 b9 h7 b8
        go_enter Try.func42, Try.ntmps42
        go_wp2_with (first | (go_at_call 43; refine (made_at _ HM).mono ?_; rintro r w1 ⟨rfl, x1⟩; have XX : Ext w w1 := Ext.trans ((Ext.refl w).alloc _) x1; have K := HI.out.ext XX; have k0 := K.c0; have k1 := K.c1; have k2 := K.c2; have k3 := K.c3; have kf := K.f; have y0 : w1.cell? ⟨w.heap.size, 0, none⟩ = some (.int .i64 i) := x1.cell (by go_simp); have y1 : w1.cell? ⟨w.heap.size, 1, none⟩ = some (.int .i64 o) := x1.cell (by go_simp); have y2 : w1.cell? ⟨w.heap.size, 2, none⟩ = some (.int .i64 L) := x1.cell (by go_simp); have y3 : w1.cell? ⟨w.heap.size, 3, none⟩ = some (.int .u32 a) := x1.cell (by go_simp); clear K x1; have HX := Lib.hid XX; clear XX) | (go_at_call 40; (first | (with_reducible refine (within_at _ B1).mono ?_) | (with_reducible refine (within_at _ B2).mono ?_) | (with_reducible refine (within_at _ B3).mono ?_)); rintro e w' ⟨rfl, rfl⟩) | (go_at_call 44; refine (turns_at _ HT).mono ?_; rintro r w2 ⟨rfl, x2⟩; have XX : Ext w w2 := HX.out.trans x2; have K := HI.out.ext XX; have z2 := K.c2; clear K; have HY := Lib.hid XX; clear XX x2))
        go_returns
        exact ⟨rfl, by have e1 := HY.out; (repeat' (first | with_reducible exact e1 | with_reducible refine Ext.drew ?_ | with_reducible refine Ext.drewN ?_ _ | with_reducible refine Ext.alloc ?_ _ | with_reducible refine Ext.set ?_ ?_ _ | omega | (simp; done) | (simp; omega)))⟩
      · have b7 : (M != depth) = true := by simp [h7]
        have b8 : decide (M ≠ depth) = true := decide_eq_true h7
        have e : (! decide (0 ≤ i ∧ i ≤ ins - 1) || ! decide (0 ≤ o ∧ o ≤ outs - 1) || ! decide (0 ≤ L ∧ L ≤ depth) || (decide (L = depth) && decide (0 < a)) || decide (3 < M) || (! T && decide (M ≠ depth))) = true := by rw [b1, b2, b3, b9, b5, ht, b8]; simp
        rw [e]
        clear e h4 b9 h7 b8
        go_enter Try.func42, Try.ntmps42
        go_wp2_with (first | (go_at_call 43; refine (made_at _ HM).mono ?_; rintro r w1 ⟨rfl, x1⟩; have XX : Ext w w1 := Ext.trans ((Ext.refl w).alloc _) x1; have K := HI.out.ext XX; have k0 := K.c0; have k1 := K.c1; have k2 := K.c2; have k3 := K.c3; have kf := K.f; have y0 : w1.cell? ⟨w.heap.size, 0, none⟩ = some (.int .i64 i) := x1.cell (by go_simp); have y1 : w1.cell? ⟨w.heap.size, 1, none⟩ = some (.int .i64 o) := x1.cell (by go_simp); have y2 : w1.cell? ⟨w.heap.size, 2, none⟩ = some (.int .i64 L) := x1.cell (by go_simp); have y3 : w1.cell? ⟨w.heap.size, 3, none⟩ = some (.int .u32 a) := x1.cell (by go_simp); clear K x1; have HX := Lib.hid XX; clear XX) | (go_at_call 40; (first | (with_reducible refine (within_at _ B1).mono ?_) | (with_reducible refine (within_at _ B2).mono ?_) | (with_reducible refine (within_at _ B3).mono ?_)); rintro e w' ⟨rfl, rfl⟩) | (go_at_call 44; refine (turns_at _ HT).mono ?_; rintro r w2 ⟨rfl, x2⟩; have XX : Ext w w2 := HX.out.trans x2; have K := HI.out.ext XX; have z2 := K.c2; clear K; have HY := Lib.hid XX; clear XX x2))
        go_returns
        exact ⟨rfl, by have e1 := HY.out; (repeat' (first | with_reducible exact e1 | with_reducible refine Ext.drew ?_ | with_reducible refine Ext.drewN ?_ _ | with_reducible refine Ext.alloc ?_ _ | with_reducible refine Ext.set ?_ ?_ _ | omega | (simp; done) | (simp; omega)))⟩
-- END
end Go.Proofs.Yteklohamkmiphaa
namespace Go.Proofs.Yteklohamkmiphaa
open Go.RowKit

/-- what the code's last test asks of an inner way -/
def badI (ins outs depth : Int) (n : Nat) (x : Im) : Bool := (! decide (0 ≤ x.i ∧ x.i ≤ ins - 1) || ! decide (0 ≤ x.o ∧ x.o ≤ outs - 1) || ! decide (0 ≤ x.p.w.leave ∧ x.p.w.leave ≤ depth) || (decide (x.p.w.leave = depth) && decide (0 < x.p.w.add)) || decide (3 < madeI depth x.p.w.leave x.p.w.enter.length) || (! turnsI ins outs n && decide (madeI depth x.p.w.leave x.p.w.enter.length ≠ depth)))
theorem badI_eq (n : Nm) (x : Im) (hd : 0 ≤ n.depth ∧ n.depth ≤ 3) (hl : x.p.w.enter.length ≤ 1000000) : badI n.ins n.outs n.depth n.inner.length x = ! innT n.v x.v := by
  by_cases hw : 0 ≤ x.p.w.leave ∧ x.p.w.leave ≤ n.depth
  · have e : madeI n.depth x.p.w.leave x.p.w.enter.length = madeT n.depth x.p.w := madeI_eq ⟨hw.1, by omega⟩ ⟨hd.1, by omega⟩ hl
    unfold badI innT
    rw [e, turnsI_eq]
    show _ = ! decide (0 ≤ x.i ∧ x.i < n.ins ∧ 0 ≤ x.o ∧ x.o < n.outs ∧ 0 ≤ x.p.w.leave ∧ x.p.w.leave ≤ n.depth ∧ ¬ (x.p.w.leave = n.depth ∧ 0 < x.p.w.add) ∧ madeT n.depth x.p.w ≤ 3 ∧ (n.v.turns = true ∨ madeT n.depth x.p.w = n.depth))
    generalize madeT n.depth x.p.w = M
    generalize x.p.w.leave = L at *
    generalize x.p.w.add = a
    generalize n.ins = ins
    generalize n.outs = outs
    generalize n.depth = d at *
    rw [Bool.eq_iff_iff]
    cases n.v.turns <;> simp only [Bool.or_eq_true, Bool.and_eq_true, Bool.not_eq_true', decide_eq_false_iff_not, decide_eq_true_eq, Bool.not_true, Bool.not_false, Bool.false_eq_true, true_and, false_and, or_false, false_or, true_or, and_true, true_iff, false_iff, iff_true, iff_false, ne_eq] <;> omega
  · have e1 : innT n.v x.v = false := decide_eq_false (fun h => hw ⟨h.2.2.2.2.1, h.2.2.2.2.2.1⟩)
    have e2 : decide (0 ≤ x.p.w.leave ∧ x.p.w.leave ≤ n.depth) = false := decide_eq_false hw
    rw [e1]
    unfold badI
    rw [e2]
    simp
theorem badI_pred (ins outs depth : Int) (A : Option Addr) (n c g1 g2 : Nat) (L : List Im) (w : World) (h : InnW w ins outs depth A n c g1 g2) (hi : 0 ≤ ins ∧ ins ≤ 8) (ho : 0 ≤ outs ∧ outs ≤ 8) (hd : 0 ≤ depth ∧ depth ≤ 3) (h64 : ∀ y ∈ L, W64 y.p.w) :
    Pred_im 42 (.pointer (some ⟨g1, 0, none⟩)) (.pointer (some ⟨g2, 0, none⟩)) (badI ins outs depth n) L w := by
  intro W x hx hw
  exact inn_any ins outs depth A n c g1 g2 x.i x.o x.p.w.leave x.p.w.add x.p.A x.p.w.enter.length x.p.c W (Lib.hid (h.ext hw)) hi ho hd (h64 x hx).2.1.1

theorem nodeT_bad {x : Nm} (h : ¬ (0 ≤ x.depth ∧ x.depth ≤ 3) ∨ ¬ (0 ≤ x.ins ∧ x.ins ≤ 8) ∨ ¬ (0 ≤ x.outs ∧ x.outs ≤ 8) ∨ ¬ x.inner.length ≤ 64) : nodeT x.v = false := by
  unfold nodeT
  rw [Bool.and_eq_false_iff]
  left
  refine decide_eq_false (fun q => ?_)
  have q8 : x.inner.length ≤ 64 := by have := q.2.2.2.2.2.2; unfold Nm.v at this; simpa using this
  have q : 0 ≤ x.depth ∧ x.depth ≤ 3 ∧ 0 ≤ x.ins ∧ x.ins ≤ 8 ∧ 0 ≤ x.outs ∧ x.outs ≤ 8 ∧ _ := q
  omega
theorem nodeT_good {x : Nm} (h1 : 0 ≤ x.depth ∧ x.depth ≤ 3) (h2 : 0 ≤ x.ins ∧ x.ins ≤ 8) (h3 : 0 ≤ x.outs ∧ x.outs ≤ 8) (h4 : x.inner.length ≤ 64) (h64 : N64 x) : nodeT x.v = ! x.inner.any (badI x.ins x.outs x.depth x.inner.length) := by
  unfold nodeT
  have e : decide (0 ≤ x.v.depth ∧ x.v.depth ≤ 3 ∧ 0 ≤ x.v.ins ∧ x.v.ins ≤ 8 ∧ 0 ≤ x.v.outs ∧ x.v.outs ≤ 8 ∧ x.v.inner.length ≤ 64) = true := decide_eq_true ⟨h1.1, h1.2, h2.1, h2.2, h3.1, h3.2, by unfold Nm.v; simpa using h4⟩
  rw [e, Bool.true_and]
  show (x.inner.map Im.v).all (innT x.v) = _
  rw [List.all_map, List.any_eq_not_all_not, Bool.not_not, Bool.eq_iff_iff, List.all_eq_true, List.all_eq_true]
  constructor
  · intro h y hy
    rw [badI_eq x y h1 ((h64.inn y hy).2.2.2.2.2), Bool.not_not]
    exact h y hy
  · intro h y hy
    have := h y hy
    rw [badI_eq x y h1 ((h64.inn y hy).2.2.2.2.2), Bool.not_not] at this
    exact this

set_option maxRecDepth 100000 in
set_option maxHeartbeats 2000000 in
theorem node_any (ins outs depth : Int) (A : Option Addr) (n c : Nat) (inner : List Im) (w : World) (hn : Hid (n = inner.length)) (hr : Hid (NmR w ⟨ins, outs, depth, A, c, inner⟩)) (h64 : Hid (N64 ⟨ins, outs, depth, A, c, inner⟩)) :
    Calls Try.prog 20 #[.agg #[.int .i64 ins, .int .i64 outs, .int .i64 depth, .slice A n c]] w fun e w' => e = .returned (.bool (nodeT (Nm.v ⟨ins, outs, depth, A, c, inner⟩))) ∧ Ext w w' := by
  have hle : Hid (n ≤ 9223372036854775807) := Lib.hid (by rw [hn.out]; exact hr.out.sl.le)
  by_cases h1 : 0 ≤ depth ∧ depth ≤ 3
  rotate_left
  · have B1 : Hid (decide (0 ≤ depth ∧ depth ≤ 3) = false) := Lib.hid (decide_eq_false h1)
    have e := nodeT_bad (x := ⟨ins, outs, depth, A, c, inner⟩) (.inl h1)
    clear h1
    rw [e]
    clear e
    go_enter Try.func20, Try.ntmps20
    go_wp2_with (go_at_call 40; with_reducible refine (within_at _ B1).mono ?_; rintro e w' ⟨rfl, rfl⟩)
    go_returns
    exact ⟨rfl, by have e1 := Ext.refl w; (repeat' (first | with_reducible exact e1 | with_reducible refine Ext.drew ?_ | with_reducible refine Ext.drewN ?_ _ | with_reducible refine Ext.alloc ?_ _ | with_reducible refine Ext.set ?_ ?_ _ | omega | (simp; done) | (simp; omega)))⟩
  have B1 : Hid (decide (0 ≤ depth ∧ depth ≤ 3) = true) := Lib.hid (decide_eq_true h1)
  by_cases h2 : 0 ≤ ins ∧ ins ≤ 8
  rotate_left
  · have B2 : Hid (decide (0 ≤ ins ∧ ins ≤ 8) = false) := Lib.hid (decide_eq_false h2)
    have e := nodeT_bad (x := ⟨ins, outs, depth, A, c, inner⟩) (.inr (.inl h2))
    clear h1 h2
    rw [e]
    clear e
    go_enter Try.func20, Try.ntmps20
    go_wp2_with (go_at_call 40; (first | (with_reducible refine (within_at _ B1).mono ?_) | (with_reducible refine (within_at _ B2).mono ?_)); rintro e w' ⟨rfl, rfl⟩)
    go_returns
    exact ⟨rfl, by have e1 := Ext.refl w; (repeat' (first | with_reducible exact e1 | with_reducible refine Ext.drew ?_ | with_reducible refine Ext.drewN ?_ _ | with_reducible refine Ext.alloc ?_ _ | with_reducible refine Ext.set ?_ ?_ _ | omega | (simp; done) | (simp; omega)))⟩
  have B2 : Hid (decide (0 ≤ ins ∧ ins ≤ 8) = true) := Lib.hid (decide_eq_true h2)
  by_cases h3 : 0 ≤ outs ∧ outs ≤ 8
  rotate_left
  · have B3 : Hid (decide (0 ≤ outs ∧ outs ≤ 8) = false) := Lib.hid (decide_eq_false h3)
    have e := nodeT_bad (x := ⟨ins, outs, depth, A, c, inner⟩) (.inr (.inr (.inl h3)))
    clear h1 h2 h3
    rw [e]
    clear e
    go_enter Try.func20, Try.ntmps20
    go_wp2_with (go_at_call 40; (first | (with_reducible refine (within_at _ B1).mono ?_) | (with_reducible refine (within_at _ B2).mono ?_) | (with_reducible refine (within_at _ B3).mono ?_)); rintro e w' ⟨rfl, rfl⟩)
    go_returns
    exact ⟨rfl, by have e1 := Ext.refl w; (repeat' (first | with_reducible exact e1 | with_reducible refine Ext.drew ?_ | with_reducible refine Ext.drewN ?_ _ | with_reducible refine Ext.alloc ?_ _ | with_reducible refine Ext.set ?_ ?_ _ | omega | (simp; done) | (simp; omega)))⟩
  have B3 : Hid (decide (0 ≤ outs ∧ outs ≤ 8) = true) := Lib.hid (decide_eq_true h3)
  by_cases h4 : inner.length ≤ 64
  rotate_left
  · have b4 : decide ((64 : Int) < (n : Int)) = true := decide_eq_true (by rw [hn.out]; omega)
    have e := nodeT_bad (x := ⟨ins, outs, depth, A, c, inner⟩) (.inr (.inr (.inr h4)))
    clear h1 h2 h3 h4
    rw [e]
    clear e
    go_enter Try.func20, Try.ntmps20
    go_wp2_with (go_at_call 40; (first | (with_reducible refine (within_at _ B1).mono ?_) | (with_reducible refine (within_at _ B2).mono ?_) | (with_reducible refine (within_at _ B3).mono ?_)); rintro e w' ⟨rfl, rfl⟩)
    go_returns
    exact ⟨rfl, by have e1 := Ext.refl w; (repeat' (first | with_reducible exact e1 | with_reducible refine Ext.drew ?_ | with_reducible refine Ext.drewN ?_ _ | with_reducible refine Ext.alloc ?_ _ | with_reducible refine Ext.set ?_ ?_ _ | omega | (simp; done) | (simp; omega)))⟩
  have b4 : decide ((64 : Int) < (n : Int)) = false := decide_eq_false (by rw [hn.out]; omega)
  have e := nodeT_good (x := ⟨ins, outs, depth, A, c, inner⟩) h1 h2 h3 h4 h64.out
  rw [e]
  clear e
  have HI := Lib.hid h1
  have HJ := Lib.hid h2
  have HK := Lib.hid h3
  clear h1 h2 h3 h4
  obtain ⟨P, hP⟩ : ∃ P : Im → Bool, P = badI ins outs depth n := ⟨_, rfl⟩
  show Calls Try.prog 20 _ w fun e w' => e = .returned (.bool (! inner.any (badI ins outs depth inner.length))) ∧ Ext w w'
  rw [← hn.out, ← hP]
  have HP := Lib.hid hP
  clear hP
  go_enter Try.func20, Try.ntmps20
  go_wp2_with (first | (go_at_call 40; (first | (with_reducible refine (within_at _ B1).mono ?_) | (with_reducible refine (within_at _ B2).mono ?_) | (with_reducible refine (within_at _ B3).mono ?_)); rintro e w' ⟨rfl, rfl⟩) | (go_at_call 41; refine (contains_im P 42 (.pointer (some ⟨w.heap.size, 0, none⟩)) (.pointer (some ⟨w.heap.size + 1, 0, none⟩)) (fun _ _ => rfl) A c n inner _ hn (Lib.hid (hr.out.sl.ext (((Ext.refl w).alloc _).alloc _))) (Lib.hid (by rw [HP.out]; exact badI_pred ins outs depth A n c _ _ inner _ ⟨(by go_simp), (by go_simp), (by go_simp), (by go_simp), (by go_simp)⟩ HJ.out HK.out HI.out (fun y hy => (h64.out.inn y hy).2.2)))).mono ?_; rintro e w1 ⟨rfl, x1⟩; have HX : Hid (Ext w w1) := Lib.hid (Ext.trans (((Ext.refl w).alloc _).alloc _) x1); clear x1))
  go_returns
  exact ⟨rfl, by have e1 := HX.out; (repeat' (first | with_reducible exact e1 | with_reducible refine Ext.drew ?_ | with_reducible refine Ext.drewN ?_ _ | with_reducible refine Ext.alloc ?_ _ | with_reducible refine Ext.set ?_ ?_ _ | omega | (simp; done) | (simp; omega)))⟩
end Go.Proofs.Yteklohamkmiphaa
namespace Go.Proofs.Yteklohamkmiphaa
open Go.RowKit

set_option maxRecDepth 100000 in
set_option maxHeartbeats 800000 in
theorem check1_any (ins outs depth : Int) (A : Option Addr) (n c : Nat) (inner : List Im) (w : World) (hn : Hid (n = inner.length)) (hr : Hid (NmR w ⟨ins, outs, depth, A, c, inner⟩)) (h64 : Hid (N64 ⟨ins, outs, depth, A, c, inner⟩)) :
    Calls Try.prog 19 #[.agg #[.int .i64 ins, .int .i64 outs, .int .i64 depth, .slice A n c]] w fun e w' => e = .returned (.bool (! nodeT (Nm.v ⟨ins, outs, depth, A, c, inner⟩))) ∧ Ext w w' := by
  have XA : Hid (Ext w (w.alloc (Obj.cells #[.int .i64 ins, .int .i64 outs, .int .i64 depth, .slice A n c] 50))) := Lib.hid ((Ext.refl w).alloc _)
  have hE := node_any ins outs depth A n c inner _ hn (Lib.hid (hr.out.ext XA.out)) h64
  obtain ⟨B, hB⟩ : ∃ B, nodeT (Nm.v ⟨ins, outs, depth, A, c, inner⟩) = B := ⟨_, rfl⟩
  rw [hB] at hE ⊢
  clear hB
  go_enter Try.func19, Try.ntmps19
  go_wp2_with (go_at_call 20; refine hE.mono ?_; rintro e w1 ⟨rfl, x1⟩; have HX : Hid (Ext w w1) := Lib.hid (XA.out.trans x1); clear x1)
  go_returns
  exact ⟨rfl, by have e1 := HX.out; (repeat' (first | with_reducible exact e1 | with_reducible refine Ext.drew ?_ | with_reducible refine Ext.drewN ?_ _ | with_reducible refine Ext.alloc ?_ _ | with_reducible refine Ext.set ?_ ?_ _ | omega | (simp; done) | (simp; omega)))⟩
end Go.Proofs.Yteklohamkmiphaa
namespace Go.Proofs.Yteklohamkmiphaa
open Go.RowKit

theorem depth_some {NA : Option Addr} {Nc : Nat} {nodes : List Nm} {EA : Option Addr} {Ec : Nat} {edges : List (Pt × Pt)} {pn : Int} {po : Bool} {pp : Int} {nl el : Nat} {d : Int} (w : World) (hl : Hid (nl = nodes.length)) (hG : Hid (GmR w ⟨NA, Nc, nodes, EA, Ec, edges⟩)) (hN : Hid (∀ x ∈ nodes, nodeT x.v = true)) (hd : Hid ((Gm.v ⟨NA, Nc, nodes, EA, Ec, edges⟩).dep ⟨pn, po, pp⟩ = some d)) :
    Calls Try.prog 32 #[.agg #[.slice NA nl Nc, .slice EA el Ec], .agg #[.int .i64 pn, .bool po, .int .i64 pp]] w fun e w' => e = .returned (.tuple #[.int .i64 d, .bool true]) ∧ Ext w w' := by
  refine (depth_any NA Nc nodes EA Ec edges pn po pp nl el w hl hG hN).mono ?_
  rintro e w' ⟨d', rfl, h, x⟩
  have t : ((Gm.v ⟨NA, Nc, nodes, EA, Ec, edges⟩).dep ⟨pn, po, pp⟩).isSome = true := by rw [hd.out]; rfl
  refine ⟨?_, x⟩
  rw [h t, t]
  unfold Gr.dp
  rw [hd.out]; rfl
theorem depth_none {NA : Option Addr} {Nc : Nat} {nodes : List Nm} {EA : Option Addr} {Ec : Nat} {edges : List (Pt × Pt)} {pn : Int} {po : Bool} {pp : Int} {nl el : Nat} (w : World) (hl : Hid (nl = nodes.length)) (hG : Hid (GmR w ⟨NA, Nc, nodes, EA, Ec, edges⟩)) (hN : Hid (∀ x ∈ nodes, nodeT x.v = true)) (hd : Hid ((Gm.v ⟨NA, Nc, nodes, EA, Ec, edges⟩).dep ⟨pn, po, pp⟩ = none)) :
    Calls Try.prog 32 #[.agg #[.slice NA nl Nc, .slice EA el Ec], .agg #[.int .i64 pn, .bool po, .int .i64 pp]] w fun e w' => ∃ d, e = .returned (.tuple #[.int .i64 d, .bool false]) ∧ Ext w w' := by
  refine (depth_any NA Nc nodes EA Ec edges pn po pp nl el w hl hG hN).mono ?_
  rintro e w' ⟨d', rfl, h, x⟩
  have t : ((Gm.v ⟨NA, Nc, nodes, EA, Ec, edges⟩).dep ⟨pn, po, pp⟩).isSome = false := by rw [hd.out]; rfl
  exact ⟨d', by rw [t], x⟩

set_option maxRecDepth 100000 in
set_option maxHeartbeats 2000000 in
theorem edge_any (NA : Option Addr) (Nc : Nat) (nodes : List Nm) (EA : Option Addr) (Ec : Nat) (edges : List (Pt × Pt)) (fn : Int) (fo : Bool) (fp : Int) (tn : Int) (too : Bool) (tp : Int) (nl el : Nat) (w : World) (hl : Hid (nl = nodes.length)) (hG : Hid (GmR w ⟨NA, Nc, nodes, EA, Ec, edges⟩)) (hN : Hid (∀ x ∈ nodes, nodeT x.v = true)) :
    Calls Try.prog 23 #[.agg #[.slice NA nl Nc, .slice EA el Ec], .agg #[.int .i64 fn, .bool fo, .int .i64 fp, .int .i64 tn, .bool too, .int .i64 tp]] w fun e w' => e = .returned (.bool (edgeT (Gm.v ⟨NA, Nc, nodes, EA, Ec, edges⟩) (⟨fn, fo, fp⟩, ⟨tn, too, tp⟩))) ∧ Ext w w' := by
  have XA : Hid (Ext w ((w.alloc (Obj.cells #[.slice NA nl Nc, .slice EA el Ec] 25)).alloc (Obj.cells #[.int .i64 fn, .bool fo, .int .i64 fp, .int .i64 tn, .bool too, .int .i64 tp] 44))) := Lib.hid (((Ext.refl w).alloc _).alloc _)
  obtain ⟨W, hW⟩ : ∃ W, W = ((w.alloc (Obj.cells #[.slice NA nl Nc, .slice EA el Ec] 25)).alloc (Obj.cells #[.int .i64 fn, .bool fo, .int .i64 fp, .int .i64 tn, .bool too, .int .i64 tp] 44)) := ⟨_, rfl⟩
  have c1 : W.cell? ⟨w.heap.size, 0, none⟩ = some (.slice NA nl Nc) := by rw [hW]; go_simp
  have c2 : W.cell? ⟨w.heap.size, 1, none⟩ = some (.slice EA el Ec) := by rw [hW]; go_simp
  have c3 : W.cell? ⟨w.heap.size + 1, 0, none⟩ = some (.int .i64 fn) := by rw [hW]; go_simp
  have c4 : W.cell? ⟨w.heap.size + 1, 1, none⟩ = some (.bool fo) := by rw [hW]; go_simp
  have c5 : W.cell? ⟨w.heap.size + 1, 2, none⟩ = some (.int .i64 fp) := by rw [hW]; go_simp
  have c6 : W.cell? ⟨w.heap.size + 1, 3, none⟩ = some (.int .i64 tn) := by rw [hW]; go_simp
  have c7 : W.cell? ⟨w.heap.size + 1, 4, none⟩ = some (.bool too) := by rw [hW]; go_simp
  have c8 : W.cell? ⟨w.heap.size + 1, 5, none⟩ = some (.int .i64 tp) := by rw [hW]; go_simp
  rw [hW] at c1 c2 c3 c4 c5 c6 c7 c8
  clear hW W
  cases hf : (Gm.v ⟨NA, Nc, nodes, EA, Ec, edges⟩).dep ⟨fn, fo, fp⟩ with
  | none =>
    have Hf := Lib.hid hf
    cases ht : (Gm.v ⟨NA, Nc, nodes, EA, Ec, edges⟩).dep ⟨tn, too, tp⟩ with
    | none =>
      have Ht := Lib.hid ht
      have e : edgeT (Gm.v ⟨NA, Nc, nodes, EA, Ec, edges⟩) (⟨fn, fo, fp⟩, ⟨tn, too, tp⟩) = false := by unfold edgeT; simp only [hf, ht]; simp
      rw [e]
      clear e hf ht
      go_enter Try.func23, Try.ntmps23
      go_wp2_with (first | (go_at_call 32; have mk := HX; refine (depth_none _ hl (Lib.hid (hG.out.ext HX.out)) hN Ht).mono ?_; rintro e w2 ⟨d2, rfl, x2⟩; have HY : Hid (Ext w w2) := Lib.hid (HX.out.trans x2); have z3 := x2.cell y3; have z4 := x2.cell y4; have z5 := x2.cell y5; have z6 := x2.cell y6; have z7 := x2.cell y7; have z8 := x2.cell y8; clear x2) | (go_at_call 32; refine (depth_none _ hl (Lib.hid (hG.out.ext XA.out)) hN Hf).mono ?_; rintro e w1 ⟨d1, rfl, x1⟩; have HX : Hid (Ext w w1) := Lib.hid (XA.out.trans x1); have y1 := x1.cell c1; have y2 := x1.cell c2; have y3 := x1.cell c3; have y4 := x1.cell c4; have y5 := x1.cell c5; have y6 := x1.cell c6; have y7 := x1.cell c7; have y8 := x1.cell c8; clear x1))
      go_returns
      exact ⟨rfl, by have e1 := HY.out; (repeat' (first | with_reducible exact e1 | with_reducible refine Ext.drew ?_ | with_reducible refine Ext.drewN ?_ _ | with_reducible refine Ext.alloc ?_ _ | with_reducible refine Ext.set ?_ ?_ _ | omega | (simp; done) | (simp; omega)))⟩
    | some b =>
      have Ht := Lib.hid ht
      have e : edgeT (Gm.v ⟨NA, Nc, nodes, EA, Ec, edges⟩) (⟨fn, fo, fp⟩, ⟨tn, too, tp⟩) = false := by unfold edgeT; simp only [hf, ht]; simp
      rw [e]
      clear e hf ht
      go_enter Try.func23, Try.ntmps23
      go_wp2_with (first | (go_at_call 32; have mk := HX; refine (depth_some _ hl (Lib.hid (hG.out.ext HX.out)) hN Ht).mono ?_; rintro e w2 ⟨rfl, x2⟩; have HY : Hid (Ext w w2) := Lib.hid (HX.out.trans x2); have z3 := x2.cell y3; have z4 := x2.cell y4; have z5 := x2.cell y5; have z6 := x2.cell y6; have z7 := x2.cell y7; have z8 := x2.cell y8; clear x2) | (go_at_call 32; refine (depth_none _ hl (Lib.hid (hG.out.ext XA.out)) hN Hf).mono ?_; rintro e w1 ⟨d1, rfl, x1⟩; have HX : Hid (Ext w w1) := Lib.hid (XA.out.trans x1); have y1 := x1.cell c1; have y2 := x1.cell c2; have y3 := x1.cell c3; have y4 := x1.cell c4; have y5 := x1.cell c5; have y6 := x1.cell c6; have y7 := x1.cell c7; have y8 := x1.cell c8; clear x1))
      go_returns
      exact ⟨rfl, by have e1 := HY.out; (repeat' (first | with_reducible exact e1 | with_reducible refine Ext.drew ?_ | with_reducible refine Ext.drewN ?_ _ | with_reducible refine Ext.alloc ?_ _ | with_reducible refine Ext.set ?_ ?_ _ | omega | (simp; done) | (simp; omega)))⟩
  | some a =>
    have Hf := Lib.hid hf
    cases ht : (Gm.v ⟨NA, Nc, nodes, EA, Ec, edges⟩).dep ⟨tn, too, tp⟩ with
    | none =>
      have Ht := Lib.hid ht
      have e : edgeT (Gm.v ⟨NA, Nc, nodes, EA, Ec, edges⟩) (⟨fn, fo, fp⟩, ⟨tn, too, tp⟩) = false := by unfold edgeT; simp only [hf, ht]; simp
      rw [e]
      clear e hf ht
      go_enter Try.func23, Try.ntmps23
      go_wp2_with (first | (go_at_call 32; have mk := HX; refine (depth_none _ hl (Lib.hid (hG.out.ext HX.out)) hN Ht).mono ?_; rintro e w2 ⟨d2, rfl, x2⟩; have HY : Hid (Ext w w2) := Lib.hid (HX.out.trans x2); have z3 := x2.cell y3; have z4 := x2.cell y4; have z5 := x2.cell y5; have z6 := x2.cell y6; have z7 := x2.cell y7; have z8 := x2.cell y8; clear x2) | (go_at_call 32; refine (depth_some _ hl (Lib.hid (hG.out.ext XA.out)) hN Hf).mono ?_; rintro e w1 ⟨rfl, x1⟩; have HX : Hid (Ext w w1) := Lib.hid (XA.out.trans x1); have y1 := x1.cell c1; have y2 := x1.cell c2; have y3 := x1.cell c3; have y4 := x1.cell c4; have y5 := x1.cell c5; have y6 := x1.cell c6; have y7 := x1.cell c7; have y8 := x1.cell c8; clear x1))
      go_returns
      exact ⟨rfl, by have e1 := HY.out; (repeat' (first | with_reducible exact e1 | with_reducible refine Ext.drew ?_ | with_reducible refine Ext.drewN ?_ _ | with_reducible refine Ext.alloc ?_ _ | with_reducible refine Ext.set ?_ ?_ _ | omega | (simp; done) | (simp; omega)))⟩
    | some b =>
      have Ht := Lib.hid ht
      cases fo with
      | false =>
        have e : edgeT (Gm.v ⟨NA, Nc, nodes, EA, Ec, edges⟩) (⟨fn, false, fp⟩, ⟨tn, too, tp⟩) = false := by unfold edgeT; simp
        rw [e]
        clear e hf ht
        go_enter Try.func23, Try.ntmps23
        go_wp2_with (first | (go_at_call 32; have mk := HX; refine (depth_some _ hl (Lib.hid (hG.out.ext HX.out)) hN Ht).mono ?_; rintro e w2 ⟨rfl, x2⟩; have HY : Hid (Ext w w2) := Lib.hid (HX.out.trans x2); have z3 := x2.cell y3; have z4 := x2.cell y4; have z5 := x2.cell y5; have z6 := x2.cell y6; have z7 := x2.cell y7; have z8 := x2.cell y8; clear x2) | (go_at_call 32; refine (depth_some _ hl (Lib.hid (hG.out.ext XA.out)) hN Hf).mono ?_; rintro e w1 ⟨rfl, x1⟩; have HX : Hid (Ext w w1) := Lib.hid (XA.out.trans x1); have y1 := x1.cell c1; have y2 := x1.cell c2; have y3 := x1.cell c3; have y4 := x1.cell c4; have y5 := x1.cell c5; have y6 := x1.cell c6; have y7 := x1.cell c7; have y8 := x1.cell c8; clear x1))
        go_returns
        exact ⟨rfl, by have e1 := HY.out; (repeat' (first | with_reducible exact e1 | with_reducible refine Ext.drew ?_ | with_reducible refine Ext.drewN ?_ _ | with_reducible refine Ext.alloc ?_ _ | with_reducible refine Ext.set ?_ ?_ _ | omega | (simp; done) | (simp; omega)))⟩
      | true =>
        cases too with
        | true =>
          have e : edgeT (Gm.v ⟨NA, Nc, nodes, EA, Ec, edges⟩) (⟨fn, true, fp⟩, ⟨tn, true, tp⟩) = false := by unfold edgeT; simp
          rw [e]
          clear e hf ht
          go_enter Try.func23, Try.ntmps23
          go_wp2_with (first | (go_at_call 32; have mk := HX; refine (depth_some _ hl (Lib.hid (hG.out.ext HX.out)) hN Ht).mono ?_; rintro e w2 ⟨rfl, x2⟩; have HY : Hid (Ext w w2) := Lib.hid (HX.out.trans x2); have z3 := x2.cell y3; have z4 := x2.cell y4; have z5 := x2.cell y5; have z6 := x2.cell y6; have z7 := x2.cell y7; have z8 := x2.cell y8; clear x2) | (go_at_call 32; refine (depth_some _ hl (Lib.hid (hG.out.ext XA.out)) hN Hf).mono ?_; rintro e w1 ⟨rfl, x1⟩; have HX : Hid (Ext w w1) := Lib.hid (XA.out.trans x1); have y1 := x1.cell c1; have y2 := x1.cell c2; have y3 := x1.cell c3; have y4 := x1.cell c4; have y5 := x1.cell c5; have y6 := x1.cell c6; have y7 := x1.cell c7; have y8 := x1.cell c8; clear x1))
          go_returns
          exact ⟨rfl, by have e1 := HY.out; (repeat' (first | with_reducible exact e1 | with_reducible refine Ext.drew ?_ | with_reducible refine Ext.drewN ?_ _ | with_reducible refine Ext.alloc ?_ _ | with_reducible refine Ext.set ?_ ?_ _ | omega | (simp; done) | (simp; omega)))⟩
        | false =>
          by_cases hab : a = b
          · subst hab
            have e : edgeT (Gm.v ⟨NA, Nc, nodes, EA, Ec, edges⟩) (⟨fn, true, fp⟩, ⟨tn, false, tp⟩) = true := by unfold edgeT; simp only [hf, ht]; simp
            rw [e]
            clear e hf ht
            go_enter Try.func23, Try.ntmps23
            go_wp2_with (first | (go_at_call 32; have mk := HX; refine (depth_some _ hl (Lib.hid (hG.out.ext HX.out)) hN Ht).mono ?_; rintro e w2 ⟨rfl, x2⟩; have HY : Hid (Ext w w2) := Lib.hid (HX.out.trans x2); have z3 := x2.cell y3; have z4 := x2.cell y4; have z5 := x2.cell y5; have z6 := x2.cell y6; have z7 := x2.cell y7; have z8 := x2.cell y8; clear x2) | (go_at_call 32; refine (depth_some _ hl (Lib.hid (hG.out.ext XA.out)) hN Hf).mono ?_; rintro e w1 ⟨rfl, x1⟩; have HX : Hid (Ext w w1) := Lib.hid (XA.out.trans x1); have y1 := x1.cell c1; have y2 := x1.cell c2; have y3 := x1.cell c3; have y4 := x1.cell c4; have y5 := x1.cell c5; have y6 := x1.cell c6; have y7 := x1.cell c7; have y8 := x1.cell c8; clear x1))
            go_returns
            exact ⟨rfl, by have e1 := HY.out; (repeat' (first | with_reducible exact e1 | with_reducible refine Ext.drew ?_ | with_reducible refine Ext.drewN ?_ _ | with_reducible refine Ext.alloc ?_ _ | with_reducible refine Ext.set ?_ ?_ _ | omega | (simp; done) | (simp; omega)))⟩
          · have b1 : (a == b) = false := by simpa using hab
            have e : edgeT (Gm.v ⟨NA, Nc, nodes, EA, Ec, edges⟩) (⟨fn, true, fp⟩, ⟨tn, false, tp⟩) = false := by unfold edgeT; simp only [hf, ht]; simp; simpa using hab
            rw [e]
            clear e hf ht
            go_enter Try.func23, Try.ntmps23
            go_wp2_with (first | (go_at_call 32; have mk := HX; refine (depth_some _ hl (Lib.hid (hG.out.ext HX.out)) hN Ht).mono ?_; rintro e w2 ⟨rfl, x2⟩; have HY : Hid (Ext w w2) := Lib.hid (HX.out.trans x2); have z3 := x2.cell y3; have z4 := x2.cell y4; have z5 := x2.cell y5; have z6 := x2.cell y6; have z7 := x2.cell y7; have z8 := x2.cell y8; clear x2) | (go_at_call 32; refine (depth_some _ hl (Lib.hid (hG.out.ext XA.out)) hN Hf).mono ?_; rintro e w1 ⟨rfl, x1⟩; have HX : Hid (Ext w w1) := Lib.hid (XA.out.trans x1); have y1 := x1.cell c1; have y2 := x1.cell c2; have y3 := x1.cell c3; have y4 := x1.cell c4; have y5 := x1.cell c5; have y6 := x1.cell c6; have y7 := x1.cell c7; have y8 := x1.cell c8; clear x1))
            go_returns
            exact ⟨rfl, by have e1 := HY.out; (repeat' (first | with_reducible exact e1 | with_reducible refine Ext.drew ?_ | with_reducible refine Ext.drewN ?_ _ | with_reducible refine Ext.alloc ?_ _ | with_reducible refine Ext.set ?_ ?_ _ | omega | (simp; done) | (simp; omega)))⟩

/-- a graph that is captured -/
structure CapG (w : World) (NA : Option Addr) (nl Nc : Nat) (EA : Option Addr) (el Ec g : Nat) : Prop where
  c0 : w.cell? ⟨g, 0, none⟩ = some (.slice NA nl Nc)
  c1 : w.cell? ⟨g, 1, none⟩ = some (.slice EA el Ec)
theorem CapG.ext {w w' : World} {NA : Option Addr} {nl Nc : Nat} {EA : Option Addr} {el Ec g : Nat} (h : CapG w NA nl Nc EA el Ec g) (x : Ext w w') : CapG w' NA nl Nc EA el Ec g := ⟨x.cell h.c0, x.cell h.c1⟩
set_option maxRecDepth 100000 in
set_option maxHeartbeats 800000 in
theorem check2_any (NA : Option Addr) (Nc : Nat) (nodes : List Nm) (EA : Option Addr) (Ec : Nat) (edges : List (Pt × Pt)) (fn : Int) (fo : Bool) (fp : Int) (tn : Int) (too : Bool) (tp : Int) (nl el g : Nat) (w : World) (hl : Hid (nl = nodes.length)) (hG : Hid (GmR w ⟨NA, Nc, nodes, EA, Ec, edges⟩)) (hN : Hid (∀ x ∈ nodes, nodeT x.v = true)) (hC : Hid (CapG w NA nl Nc EA el Ec g)) :
    Calls Try.prog 22 #[.agg #[.int .i64 fn, .bool fo, .int .i64 fp, .int .i64 tn, .bool too, .int .i64 tp], .pointer (some ⟨g, 0, none⟩)] w fun e w' => e = .returned (.bool (! edgeT (Gm.v ⟨NA, Nc, nodes, EA, Ec, edges⟩) (⟨fn, fo, fp⟩, ⟨tn, too, tp⟩))) ∧ Ext w w' := by
  have XA : Hid (Ext w (w.alloc (Obj.cells #[.int .i64 fn, .bool fo, .int .i64 fp, .int .i64 tn, .bool too, .int .i64 tp] 44))) := Lib.hid ((Ext.refl w).alloc _)
  have K := hC.out.ext XA.out
  have c0 := K.c0
  have c1 := K.c1
  clear K
  have hE := edge_any NA Nc nodes EA Ec edges fn fo fp tn too tp nl el _ hl (Lib.hid (hG.out.ext XA.out)) hN
  obtain ⟨B, hB⟩ : ∃ B, edgeT (Gm.v ⟨NA, Nc, nodes, EA, Ec, edges⟩) (⟨fn, fo, fp⟩, ⟨tn, too, tp⟩) = B := ⟨_, rfl⟩
  rw [hB] at hE ⊢
  clear hB
  go_enter Try.func22, Try.ntmps22
  go_wp2_with (go_at_call 23; refine hE.mono ?_; rintro e w1 ⟨rfl, x1⟩; have HX : Hid (Ext w w1) := Lib.hid (XA.out.trans x1); clear x1)
  go_returns
  exact ⟨rfl, by have e1 := HX.out; (repeat' (first | with_reducible exact e1 | with_reducible refine Ext.drew ?_ | with_reducible refine Ext.drewN ?_ _ | with_reducible refine Ext.alloc ?_ _ | with_reducible refine Ext.set ?_ ?_ _ | omega | (simp; done) | (simp; omega)))⟩
end Go.Proofs.Yteklohamkmiphaa
namespace Go.Proofs.Yteklohamkmiphaa
open Go.RowKit

instance : WRel Ext := ⟨Ext.refl, fun h k => h.trans k⟩
section
variable {P : Program} {ops : Array Oper} {Q : Exit → Act → World → Prop} {bs : Array Nat} {R : World → World → Prop}
/-- whatever order is picked from here on, and operations of the set X at most make new memory -/
def wpXS (R : World → World → Prop) (P : Program) (ops : Array Oper) (Q : Exit → Act → World → Prop) (X : Nat → Bool) : Nat → Array Bool → Act → World → Prop
  | 0, listed, a, w => Region.ready .any ops listed = [] ∧ Q .normal a w
  | fuel + 1, listed, a, w =>
    (Region.ready .any ops listed = [] → Q .normal a w) ∧
    ∀ i ∈ Region.ready .any ops listed, wpOp P ops Q i (fun a' w' => (X i = true → R w w') ∧ wpXS R P ops Q X fuel (listed.setIfInBounds i true) a' w') a w

theorem wpAny_of_XS {X : Nat → Bool} : ∀ (fuel : Nat) (listed : Array Bool) (a : Act) (w : World), wpXS R P ops Q X fuel listed a w → wpAny P .any ops Q fuel listed a w
  | 0, _, _, _, h => h
  | fuel + 1, _, _, _, h => ⟨h.1, fun i hi => wpOp_mono (fun a' w' h' => wpAny_of_XS fuel _ a' w' h'.2) (h.2 i hi)⟩

theorem wpX_doneS {X : Nat → Bool} {listed : Array Bool} {a : Act} {w : World} (hr : Region.ready .any ops listed = []) (h : Q .normal a w) : ∀ fuel, wpXS R P ops Q X fuel listed a w
  | 0 => ⟨hr, h⟩
  | _ + 1 => ⟨fun _ => h, by rw [hr]; simp⟩

theorem yields_laterS [WRel R] {o : Oper} {v : Value} {a : Act} {w w' : World} (h : YieldsIf P ops (R w) o v a) (x : R w w') : YieldsIf P ops (R w') o v a :=
  h.imp (fun ⟨h1, h2⟩ => ⟨h1, fun u hu => h2 u (WRel.trans x hu)⟩) id

theorem wpX_firstS [WRel R] {X : Nat → Bool} (hok : ancOkB ops bs = true) {i : Nat} {oi : Oper} {v : Value} (hi : ops[i]? = some oi) (hsel : ∀ (j : Nat) (o : Oper) cs b, ops[j]? = some o → o.op ≠ .select cs b)
    (hQ : ∀ c a d v w, Q (.panic c) (a.put d v) w → Q (.panic c) a w) :
    ∀ (fuel : Nat) (listed : Array Bool) (a : Act) (w : World), Closed ops bs listed →
      (∀ j oj, ops[j]? = some oj → j ≠ i → listed.getD j true = false → ancB ops bs i j = false → oi.apart ops oj = true ∧ X j = true) →
      i ∈ Region.ready .any ops listed → YieldsIf P ops (R w) oi v a →
      wpXS R P ops Q X fuel (listed.setIfInBounds i true) (a.put oi.dst v) w → wpXS R P ops Q X (fuel + 1) listed a w := by
  intro fuel
  induction fuel with
  | zero =>
    intro listed a w hcl _ hr hy H
    refine ⟨fun h => (by rw [h] at hr; cases hr), fun j hj => ?_⟩
    by_cases hji : j = i
    · subst hji; exact hy.wpOp hi (WRel.refl (R := R) w) ⟨fun _ => WRel.refl (R := R) w, H⟩
    · have := ready_mono hj hji
      rw [H.1] at this
      cases this
  | succ fuel ih =>
    intro listed a w hcl hfree hr hy H
    refine ⟨fun h => (by rw [h] at hr; cases hr), fun j hj => ?_⟩
    by_cases hji : j = i
    · subst hji; exact hy.wpOp hi (WRel.refl (R := R) w) ⟨fun _ => WRel.refl (R := R) w, H⟩
    · have h1 := H.2 j (ready_mono hj hji)
      obtain ⟨hjun, oj, hoj, hall⟩ := mem_ready.1 hj
      have hiun := (mem_ready.1 hr).1
      have hnot : ancB ops bs i j = false := by
        cases hb : ancB ops bs i j with
        | false => rfl
        | true =>
          have h2 := ready_anc hok hcl hj hb
          rcases Nat.lt_or_ge i listed.size with h' | h'
          · simp [h'] at h2 hiun; rw [hiun] at h2; cases h2
          · simp [Array.getElem?_eq_none h'] at h2
      obtain ⟨hap, hX⟩ := hfree j oj hoj hji hjun hnot
      have h2 := wpOp_putIf hoj hap (fun cs b => hsel i oi cs b hi) (fun cs b => hsel j oj cs b hoj) (fun c a w => hQ c a _ _ w) hy h1
      have hfree' : ∀ k ok, ops[k]? = some ok → k ≠ i → (listed.setIfInBounds j true).getD k true = false → ancB ops bs i k = false → oi.apart ops ok = true ∧ X k = true := fun k ok hk hki hun hno => by
        refine hfree k ok hk hki ?_ hno
        by_cases hjk : j = k
        · subst hjk; exact hjun
        · rw [getD_set_ne true hjk] at hun; exact hun
      refine wpOp_mono (fun a' w' h3 => ⟨h3.2.1, ih (listed.setIfInBounds j true) a' w' (hcl.add hok hj) hfree' (ready_mono hr (Ne.symm hji)) (yields_laterS h3.1 (h3.2.1 hX)) ?_⟩) h2
      rw [Array.setIfInBounds_comm _ _ hji]
      exact h3.2.2

theorem wpX_first_pureS [WRel R] {X : Nat → Bool} (hok : ancOkB ops bs = true) {i : Nat} {oi : Oper} {v : Value} (hi : ops[i]? = some oi) (hsel : ∀ (j : Nat) (o : Oper) cs b, ops[j]? = some o → o.op ≠ .select cs b)
    (hQ : ∀ c a d v w, Q (.panic c) (a.put d v) w → Q (.panic c) a w) :
    ∀ (fuel : Nat) (listed : Array Bool) (a : Act) (w : World), Closed ops bs listed →
      (∀ j oj, ops[j]? = some oj → j ≠ i → listed.getD j true = false → ancB ops bs i j = false → oi.apart ops oj = true) →
      i ∈ Region.ready .any ops listed → YieldsIf P ops (fun _ => True) oi v a →
      wpXS R P ops Q X fuel (listed.setIfInBounds i true) (a.put oi.dst v) w → wpXS R P ops Q X (fuel + 1) listed a w := by
  intro fuel
  induction fuel with
  | zero =>
    intro listed a w hcl _ hr hy H
    refine ⟨fun h => (by rw [h] at hr; cases hr), fun j hj => ?_⟩
    by_cases hji : j = i
    · subst hji; exact hy.wpOp hi trivial ⟨fun _ => WRel.refl (R := R) w, H⟩
    · have := ready_mono hj hji
      rw [H.1] at this
      cases this
  | succ fuel ih =>
    intro listed a w hcl hfree hr hy H
    refine ⟨fun h => (by rw [h] at hr; cases hr), fun j hj => ?_⟩
    by_cases hji : j = i
    · subst hji; exact hy.wpOp hi trivial ⟨fun _ => WRel.refl (R := R) w, H⟩
    · have h1 := H.2 j (ready_mono hj hji)
      obtain ⟨hjun, oj, hoj, hall⟩ := mem_ready.1 hj
      have hiun := (mem_ready.1 hr).1
      have hnot : ancB ops bs i j = false := by
        cases hb : ancB ops bs i j with
        | false => rfl
        | true =>
          have h2 := ready_anc hok hcl hj hb
          rcases Nat.lt_or_ge i listed.size with h' | h'
          · simp [h'] at h2 hiun; rw [hiun] at h2; cases h2
          · simp [Array.getElem?_eq_none h'] at h2
      have hap := hfree j oj hoj hji hjun hnot
      have h2 := wpOp_putIf hoj hap (fun cs b => hsel i oi cs b hi) (fun cs b => hsel j oj cs b hoj) (fun c a w => hQ c a _ _ w) hy h1
      have hfree' : ∀ k ok, ops[k]? = some ok → k ≠ i → (listed.setIfInBounds j true).getD k true = false → ancB ops bs i k = false → oi.apart ops ok = true := fun k ok hk hki hun hno => by
        refine hfree k ok hk hki ?_ hno
        by_cases hjk : j = k
        · subst hjk; exact hjun
        · rw [getD_set_ne true hjk] at hun; exact hun
      refine wpOp_mono (fun a' w' h3 => ⟨h3.2.1, ih (listed.setIfInBounds j true) a' w' (hcl.add hok hj) hfree' (ready_mono hr (Ne.symm hji)) h3.1 ?_⟩) h2
      rw [Array.setIfInBounds_comm _ _ hji]
      exact h3.2.2

/-! #### the walk in the fixed order: 'flo': operations that only read; 'ext': one that may make new memory; 'one': one that is alone; 'both': either of two comes up -/
/-- b: the world of which the facts at hand speak; what is at hand has grown out of it -/
def ordWalkS (R : World → World → Prop) (P : Program) (ops : Array Oper) (Q : Exit → Act → World → Prop) : Plan → World → Act → World → Prop
  | .fin, _, a, w => Q .normal a w
  | .flo l r, b, a, w => wpQuiet P ops (fun w' => ∃ y : Zt R b, w' = y.W) (fun a' => ordWalkS R P ops Q r b a' w) (pickOps ops l) a
  | .pur l r, b, a, w => wpQuiet P ops (fun _ => True) (fun a' => ordWalkS R P ops Q r b a' w) (pickOps ops l) a
  | .ext i r, _, a, w => wpList P ops (Exit.then (fun a' w' => R w w' ∧ ordWalkS R P ops Q r w' a' w') Q) (pickOps ops [i]) a w
  | .one i r, _, a, w => wpList P ops (Exit.then (fun a' w' => ordWalkS R P ops Q r w' a' w') Q) (pickOps ops [i]) a w
  | .both i j r q, b, a, w => wpList P ops (Exit.then (fun a' w' => R w w' ∧ ordWalkS R P ops Q r b a' w') Q) (pickOps ops [i]) a w ∧ wpList P ops (Exit.then (fun a' w' => R w w' ∧ ordWalkS R P ops Q q b a' w') Q) (pickOps ops [j]) a w

theorem quiet_yieldsS {o : Oper} {a : Act} {w : World} {K : Act → Prop} (ho : isFlo o.op = true) (h : o.quiet P a (fun w' => ∃ y : Zt R w, w' = y.W) K) :
    ∃ v, (∀ u, R w u → (execOp a.eval o).run P u = .ok (.value v) u) ∧ K (a.put o.dst v) := by
  obtain ⟨v, h1, h2⟩ := h
  refine ⟨v, fun u hu => ?_, h2⟩
  have h3 := h1 u ⟨⟨u, hu⟩, rfl⟩
  unfold Oper.quietAt at h3
  cases hr : (execOp a.eval o).run P u with
  | ok n u' =>
    rw [hr] at h3
    obtain ⟨x, rfl⟩ := flo_value ho hr
    obtain ⟨e1, e2⟩ := h3
    rw [e1, e2]
  | halt x u' => rw [hr] at h3; exact h3.elim

theorem X_of_ordS [WRel R] (hok : ancOkB ops bs = true) (hsel : Region.noSelect ops = true) (hQ : ∀ c a d v w, Q (.panic c) (a.put d v) w → Q (.panic c) a w) (es : List Nat) :
    ∀ (p : Plan) (b : World) (listed : Array Bool) (a : Act) (w : World) (fuel : Nat), R b w → total p ≤ fuel → Closed ops bs listed → ordB ops bs es p listed = true → ordWalkS R P ops Q p b a w →
      wpXS R P ops Q (inX ops es) fuel listed a w := by
  intro p
  induction p with
  | fin =>
    intro b listed a w fuel _ _ _ hB h
    exact wpX_doneS (by simpa [ordB] using hB) h fuel
  | flo l r ih =>
    induction l with
    | nil =>
      intro b listed a w fuel hx hf hc hB h
      refine ih b listed a w fuel hx (by simpa [total] using hf) hc (by simpa [ordB, flosB, listAll] using hB) ?_
      simpa [ordWalkS, pickOps, wpQuiet] using h
    | cons i l ihl =>
      intro b listed a w fuel hx hf hc hB h
      simp only [ordB, flosB, listAll, Bool.and_eq_true] at hB
      obtain ⟨⟨hi, hl⟩, hr⟩ := hB
      cases ho : ops[i]? with
      | none => simp [floB, ho] at hi
      | some oi =>
        simp only [floB, ho, Bool.and_eq_true] at hi
        obtain ⟨⟨hflo, hrd⟩, hfr⟩ := hi
        have hrd' : i ∈ Region.ready .any ops listed := by simpa using hrd
        obtain ⟨fuel, rfl⟩ : ∃ f, fuel = f + 1 := ⟨fuel - 1, by simp [total] at hf; omega⟩
        have hfree : ∀ j oj, ops[j]? = some oj → j ≠ i → listed.getD j true = false → ancB ops bs i j = false → oi.apart ops oj = true ∧ inX ops es j = true := by
          intro j oj hj hne hun hno
          have := List.all_eq_true.1 hfr j (List.mem_range.2 (Array.getElem?_eq_some_iff.1 hj).1)
          simpa [hne, hun, hno, hj] using this
        have hp : pickOps ops (i :: l) = oi :: pickOps ops l := by simp [pickOps, ho]
        simp only [ordWalkS, hp] at h
        unfold wpQuiet at h
        have go : ∀ v, YieldsIf P ops (R w) oi v a → wpQuiet P ops (fun w' => ∃ y : Zt R b, w' = y.W) (fun a' => ordWalkS R P ops Q r b a' w) (pickOps ops l) (a.put oi.dst v) → wpXS R P ops Q (inX ops es) (fuel + 1) listed a w := by
          intro v hy hk
          refine wpX_firstS hok ho (Region.noSelect_spec hsel) hQ fuel listed a w hc hfree hrd' hy ?_
          refine ihl b (listed.setIfInBounds i true) (a.put oi.dst v) w fuel hx (by simp [total] at hf ⊢; omega) (hc.add hok hrd') ?_ ?_
          · simp only [ordB, Bool.and_eq_true]; exact ⟨hl, hr⟩
          · simpa only [ordWalkS] using hk
        split at h
        · rename_i hw
          obtain ⟨v, hv, hk⟩ := quiet_yieldsS hflo h
          exact go v (.inl ⟨hw, fun u hu => hv u (WRel.trans hx hu)⟩) hk
        · rename_i hw
          exact go undef (.inr ⟨by simpa using hw, rfl⟩) h
  | pur l r ih =>
    induction l with
    | nil =>
      intro b listed a w fuel hx hf hc hB h
      refine ih b listed a w fuel hx (by simpa [total] using hf) hc (by simpa [ordB, pursB, listAll] using hB) ?_
      simpa [ordWalkS, pickOps, wpQuiet] using h
    | cons i l ihl =>
      intro b listed a w fuel hx hf hc hB h
      simp only [ordB, pursB, listAll, Bool.and_eq_true] at hB
      obtain ⟨⟨hi, hl⟩, hr⟩ := hB
      cases ho : ops[i]? with
      | none => simp [purB, ho] at hi
      | some oi =>
        simp only [purB, ho, Bool.and_eq_true] at hi
        obtain ⟨⟨hflo, hrd⟩, hfr⟩ := hi
        have hrd' : i ∈ Region.ready .any ops listed := by simpa using hrd
        obtain ⟨fuel, rfl⟩ : ∃ f, fuel = f + 1 := ⟨fuel - 1, by simp [total] at hf; omega⟩
        have hfree : ∀ j oj, ops[j]? = some oj → j ≠ i → listed.getD j true = false → ancB ops bs i j = false → oi.apart ops oj = true := by
          intro j oj hj hne hun hno
          have := List.all_eq_true.1 hfr j (List.mem_range.2 (Array.getElem?_eq_some_iff.1 hj).1)
          simpa [hne, hun, hno, hj] using this
        have hp : pickOps ops (i :: l) = oi :: pickOps ops l := by simp [pickOps, ho]
        simp only [ordWalkS, hp] at h
        unfold wpQuiet at h
        have go : ∀ v, YieldsIf P ops (fun _ => True) oi v a → wpQuiet P ops (fun _ => True) (fun a' => ordWalkS R P ops Q r b a' w) (pickOps ops l) (a.put oi.dst v) → wpXS R P ops Q (inX ops es) (fuel + 1) listed a w := by
          intro v hy hk
          refine wpX_first_pureS hok ho (Region.noSelect_spec hsel) hQ fuel listed a w hc hfree hrd' hy ?_
          refine ihl b (listed.setIfInBounds i true) (a.put oi.dst v) w fuel hx (by simp [total] at hf ⊢; omega) (hc.add hok hrd') ?_ ?_
          · simp only [ordB, Bool.and_eq_true]; exact ⟨hl, hr⟩
          · simpa only [ordWalkS] using hk
        split at h
        · rename_i hw
          obtain ⟨v, hv, hk⟩ := quiet_yields_pure hflo h
          exact go v (.inl ⟨hw, fun u _ => hv u⟩) hk
        · rename_i hw
          exact go undef (.inr ⟨by simpa using hw, rfl⟩) h
  | ext i r ih =>
    intro b listed a w fuel hx hf hc hB h
    simp only [ordB, Bool.and_eq_true] at hB
    obtain ⟨hr, hr2⟩ := hB
    have hr' : Region.ready .any ops listed = [i] := by simpa using hr
    have hmem : i ∈ Region.ready .any ops listed := by rw [hr']; simp
    obtain ⟨_, o, ho, _⟩ := mem_ready.1 hmem
    obtain ⟨fuel, rfl⟩ : ∃ f, fuel = f + 1 := ⟨fuel - 1, by simp [total] at hf; omega⟩
    refine ⟨fun h0 => (by rw [hr'] at h0; cases h0), fun j hj => ?_⟩
    rw [hr'] at hj
    obtain rfl : j = i := by simpa using hj
    exact wpOp_mono (fun a' w' hh => ⟨fun _ => hh.1, ih w' _ a' w' fuel (WRel.refl (R := R) w') (by simp [total] at hf ⊢; omega) (hc.add hok hmem) hr2 hh.2⟩) (one_step ho h)
  | one i r ih =>
    intro b listed a w fuel hx hf hc hB h
    simp only [ordB, Bool.and_eq_true] at hB
    obtain ⟨⟨hr, hk⟩, hr2⟩ := hB
    have hr' : Region.ready .any ops listed = [i] := by simpa using hr
    have hmem : i ∈ Region.ready .any ops listed := by rw [hr']; simp
    obtain ⟨_, o, ho, _⟩ := mem_ready.1 hmem
    obtain ⟨fuel, rfl⟩ : ∃ f, fuel = f + 1 := ⟨fuel - 1, by simp [total] at hf; omega⟩
    refine ⟨fun h0 => (by rw [hr'] at h0; cases h0), fun j hj => ?_⟩
    rw [hr'] at hj
    obtain rfl : j = i := by simpa using hj
    have hnx : inX ops es j = false := by simpa using hk
    exact wpOp_mono (fun a' w' hh => ⟨fun hX => (by rw [hnx] at hX; cases hX), ih w' _ a' w' fuel (WRel.refl (R := R) w') (by simp [total] at hf ⊢; omega) (hc.add hok hmem) hr2 hh⟩) (one_step ho h)
  | both i j r q ihr ihq =>
    intro b listed a w fuel hx hf hc hB h
    simp only [ordB, Bool.and_eq_true] at hB
    obtain ⟨⟨hr, hr2⟩, hq2⟩ := hB
    have hr' : Region.ready .any ops listed = [i, j] := by simpa using hr
    obtain ⟨fuel, rfl⟩ : ∃ f, fuel = f + 1 := ⟨fuel - 1, by simp [total] at hf; omega⟩
    have mi : i ∈ Region.ready .any ops listed := by rw [hr']; simp
    have mj : j ∈ Region.ready .any ops listed := by rw [hr']; simp
    refine ⟨fun h0 => (by rw [hr'] at h0; cases h0), fun k hk => ?_⟩
    rw [hr'] at hk
    rcases List.mem_cons.1 hk with rfl | hk
    · obtain ⟨_, o, ho, _⟩ := mem_ready.1 mi
      exact wpOp_mono (fun a' w' hh => ⟨fun _ => hh.1, ihr b _ a' w' fuel (WRel.trans hx hh.1) (by simp [total] at hf ⊢; omega) (hc.add hok mi) hr2 hh.2⟩) (one_step ho h.1)
    · obtain rfl : k = j := by simpa using hk
      obtain ⟨_, o, ho, _⟩ := mem_ready.1 mj
      exact wpOp_mono (fun a' w' hh => ⟨fun _ => hh.1, ihq b _ a' w' fuel (WRel.trans hx hh.1) (by simp [total] at hf ⊢; omega) (hc.add hok mj) hq2 hh.2⟩) (one_step ho h.2)

/-- A REGION THAT DRAWS ITS ORDER, WALKED IN ONE ORDER. 'bs': of each operation those that come ahead of it in every order, as bits. -/
theorem wp_region_ordS [WRel R] {id : Nat} {a : Act} {w : World} {l : List Oper} (bs : List Nat) (p : Plan) (hm : P.follows .mixedOrders = true)
    (hB : (ancOkB l.toArray bs.toArray && Region.noSelect l.toArray && ordB l.toArray bs.toArray (extIdx p) p (Array.replicate l.toArray.size false) && decide (total p ≤ l.toArray.size)) = true)
    (hQ : ∀ c a d v w, Q (.panic c) (a.put d v) w → Q (.panic c) a w)
    (h : ordWalkS R P l.toArray Q p w.drew a w.drew) : (Code.region id l.toArray true).wp P Q a w := by
  simp only [Bool.and_eq_true, decide_eq_true_eq] at hB
  obtain ⟨⟨⟨h1, h2⟩, h3⟩, h4⟩ := hB
  refine wp_region_any hm (wpAny_of_XS _ _ _ _ (X_of_ordS h1 h2 hQ _ p w.drew _ a w.drew _ (WRel.refl (R := R) _) h4 ?_ h3 h))
  intro j hj
  exfalso
  rcases Nat.lt_or_ge j l.toArray.size with h' | h'
  · simp [Array.getD] at hj
  · simp [Array.getD] at hj

/-- the steps of such a walk -/
def ordNextS (R : World → World → Prop) (P : Program) (ops : Array Oper) (Q : Exit → Act → World → Prop) (r : Plan) (w : World) (a' : Act) (w' : World) : Prop := R w w' ∧ ordWalkS R P ops Q r w' a' w'
theorem ordNextS.mk {r : Plan} {w w' : World} {a : Act} (x : R w w') (h : ordWalkS R P ops Q r w' a w') : ordNextS R P ops Q r w a w' := ⟨x, h⟩
theorem ord_floS {l : List Nat} {r : Plan} {a : Act} {b w : World} {ol : List Oper} (hp : pickOps ops l = ol)
    (h : wpQuiet P ops (fun w' => ∃ y : Zt R b, w' = y.W) (fun a' => ordWalkS R P ops Q r b a' w) ol a) : ordWalkS R P ops Q (.flo l r) b a w := by
  subst hp; exact h
theorem ord_extS {i : Nat} {r : Plan} {a : Act} {b w : World} {o : Oper} (hp : pickOps ops [i] = [o])
    (h : ∀ K : Act → World → Prop, (∀ a' w', ordNextS R P ops Q r w a' w' → K a' w') → wpList P ops (Exit.then K Q) [o] a w) : ordWalkS R P ops Q (.ext i r) b a w := by
  show wpList P ops _ (pickOps ops [i]) a w
  rw [hp]; exact h _ fun _ _ h => h
theorem ord_oneS {i : Nat} {r : Plan} {a : Act} {b w : World} {o : Oper} (hp : pickOps ops [i] = [o])
    (h : ∀ K : Act → World → Prop, (∀ a' w', ordWalkS R P ops Q r w' a' w' → K a' w') → wpList P ops (Exit.then K Q) [o] a w) : ordWalkS R P ops Q (.one i r) b a w := by
  show wpList P ops _ (pickOps ops [i]) a w
  rw [hp]; exact h _ fun _ _ h => h
theorem ord_finS {a : Act} {b w : World} (h : Q .normal a w) : ordWalkS R P ops Q .fin b a w := h
end
end Go.Proofs.Yteklohamkmiphaa
namespace Go.Proofs.Yteklohamkmiphaa
open Go.RowKit

theorem mvs_dep {g : Gr} (G : GOK g) {p : Pt} {m : Mv Pt Wid} (h : m ∈ g.mvs p) : (g.dep p).isSome := by
  rcases stp_of h with ⟨_, h2, _⟩ | ⟨h1, n, x, h2, h3, h4, _, _⟩
  · obtain ⟨_, _, d, h3, _⟩ := G.ed _ h2
    simp only at h3
    rw [h3]; rfl
  · have hx := G.inn n (Gr.nd_mem h2).1 x h3
    unfold Gr.dep
    rw [h2]
    simp only [h1]
    rw [if_neg (by omega), if_neg (by decide), if_pos (by omega)]
    rfl
theorem G64.p64 {g : Gm} (h : G64 g) (hn : g.nodes.length ≤ 1000000) (p : Pt) (hp : (g.v.dep p).isSome) : P64 p := by
  unfold Gr.dep at hp
  cases hd : g.v.nd p.n with
  | none => rw [hd] at hp; cases hp
  | some nd =>
    rw [hd] at hp
    obtain ⟨hm, n0, hg⟩ := Gr.nd_mem hd
    have hl := (List.getElem?_eq_some_iff.1 hg).1
    have hl2 : g.v.nodes.length = g.nodes.length := List.length_map ..
    obtain ⟨m, hm2, rfl⟩ := List.mem_map.1 (show nd ∈ g.nodes.map Nm.v from hm)
    have h6 := h.nd m hm2
    have h7 := h6.ins
    have h8 := h6.outs
    simp only at hp
    refine ⟨⟨by omega, by omega⟩, ?_⟩
    by_cases c0 : p.p < 0
    · rw [if_pos c0] at hp; cases hp
    · rw [if_neg c0] at hp
      cases ho : p.o with
      | true =>
        rw [ho, if_pos rfl] at hp
        by_cases c1 : p.p < m.v.outs
        · have c1 : p.p < m.outs := c1
          unfold I64 at h8 ⊢; omega
        · rw [if_neg c1] at hp; cases hp
      | false =>
        rw [ho, if_neg (by decide)] at hp
        by_cases c1 : p.p < m.v.ins
        · have c1 : p.p < m.ins := c1
          unfold I64 at h7 ⊢; omega
        · rw [if_neg c1] at hp; cases hp
theorem nxt_p64 {g : Gr} (G : GOK g) (hP : ∀ p, (g.dep p).isSome → P64 p) (p q : Pt) (h : q ∈ g.nxt p) : P64 q := by
  obtain ⟨m, hm, rfl⟩ := List.mem_map.1 h
  exact hP _ (G.goodB hm (mvs_dep G hm)).2
theorem mvs_len (g : Gm) (G : GOK g.v) (q : Pt) : (g.v.mvs q).length ≤ (allS g).length := by
  have := congrArg List.length (steps_mvs g G q)
  rw [List.length_map, List.length_map] at this
  rw [← this]; exact sel_len _ _
def NoCyc (g : Gr) (q : Pt) : Prop := ∀ w, Found g q False q w → pl w idW (g.dp q) = false
theorem nocyc_all {g : Gr} (h : ∀ q, q.o = false → (g.dep q).isSome → NoCyc g q) : ¬ Cyc g := by
  rintro ⟨q, w, h1, h2, h3, h4⟩
  rw [h q h1 h2 w h3] at h4
  cases h4
theorem nocyc_tab {g : Gr} (G : GOK g) {q : Pt} (hf : (g.dep q).isSome) {K : Pt → List Way} (T : Tab g q False K) (h : ∀ x ∈ K q, pl x idW (g.dp q) = false) : NoCyc g q := fun w hw => by
  obtain ⟨x, h1, h2⟩ := T.cl q w hw
  refine Bool.eq_false_iff.2 fun h3 => ?_
  have gx := (G.route hf (T.rt q x h1).route).2
  have gw := (G.route hf hw.route).2
  have gi := (G.route hf (.nil)).2
  have := h x h1
  rw [pl_trans gx gw gi h2 h3] at this
  cases this
theorem nocyc_left {g : Gr} {q : Pt} (h : ¬ Reach g q q) : NoCyc g q := fun _ hw => absurd hw.reach h
/-- an input of a graph, by its numbers -/
theorem dep_input {g : Gm} {q : Pt} (h : (g.v.dep q).isSome) (ho : q.o = false) : 0 ≤ q.n ∧ q.n < g.nodes.length ∧ 0 ≤ q.p ∧ q.p < (g.nodes.getD q.n.toNat Nm.zero).ins ∧ g.v.dp q = (g.nodes.getD q.n.toNat Nm.zero).depth := by
  have h' := h
  unfold Gr.dep at h
  cases hd : g.v.nd q.n with
  | none => rw [hd] at h; cases h
  | some nd =>
    rw [hd] at h
    obtain ⟨hm, n0, hg⟩ := Gr.nd_mem hd
    have hl := (List.getElem?_eq_some_iff.1 hg).1
    have hl2 : g.v.nodes.length = g.nodes.length := List.length_map ..
    have hnd : nd = (g.nodes.getD q.n.toNat Nm.zero).v := by
      have h2 : g.v.nodes[q.n.toNat]? = (g.nodes.map Nm.v)[q.n.toNat]? := rfl
      rw [h2, List.getElem?_map, List.getElem?_eq_getElem (by omega)] at hg
      injection hg with hg
      rw [List.getD_eq_getElem?_getD, List.getElem?_eq_getElem (by omega)]
      exact hg.symm
    simp only [ho] at h
    by_cases c0 : q.p < 0
    · rw [if_pos c0] at h; cases h
    · rw [if_neg c0, if_neg (by decide)] at h
      by_cases c1 : q.p < nd.ins
      · refine ⟨n0, by omega, by omega, by rw [hnd] at c1; exact c1, ?_⟩
        unfold Gr.dp Gr.dep
        rw [hd]
        simp only [ho]
        rw [if_neg c0, if_neg (by decide), if_pos c1, hnd]
        rfl
      · rw [if_neg c1] at h; cases h
theorem input_dep {g : Gm} {i : Nat} {k : Int} (hi : i < g.nodes.length) (h0 : 0 ≤ k) (h1 : k < (g.nodes.getD i Nm.zero).ins) : g.v.dep ⟨i, false, k⟩ = some (g.nodes.getD i Nm.zero).depth := by
  have hn : g.v.nd (i : Int) = some (g.nodes.getD i Nm.zero).v := by
    unfold Gr.nd
    rw [if_pos (by omega)]
    have h2 : g.v.nodes[((i : Int)).toNat]? = (g.nodes.map Nm.v)[i]? := rfl
    rw [h2, List.getElem?_map, List.getElem?_eq_getElem hi, List.getD_eq_getElem?_getD, List.getElem?_eq_getElem hi]
    rfl
  unfold Gr.dep
  simp only [hn]
  rw [if_neg (by omega), if_neg (by decide), if_pos (show k < (g.nodes.getD i Nm.zero).v.ins from h1)]
  rfl
end Go.Proofs.Yteklohamkmiphaa
namespace Go.Proofs.Yteklohamkmiphaa
open Go.RowKit

def CheckOut (w : World) (g : Gm) (e : Ending) (w' : World) : Prop := ∃ c : Int, e = .returned (.int .u16 c) ∧ CheckIs g.v c ∧ Ext w w'
theorem form_eq (g : Gm) : formT g.v = ((g.nodes.all fun x => nodeT x.v) && g.edges.all (edgeT g.v)) := by
  unfold formT
  show ((g.nodes.map Nm.v).all nodeT && g.edges.all (edgeT g.v)) = _
  rw [List.all_map]
  rfl
theorem any_not {α : Type} (p : α → Bool) (l : List α) : (l.any fun x => !p x) = !l.all p := by
  induction l with
  | nil => rfl
  | cons a l ih => rw [List.any_cons, List.all_cons, ih]; cases p a <;> rfl
theorem pred_node {w : World} {g : Gm} (hG : GmR w g) (h6 : G64 g) : Pred_nm 19 (fun x => !nodeT x.v) g.nodes w := fun W x hx e => by
  obtain ⟨i, o, d, A, c, inner⟩ := x
  exact check1_any i o d A inner.length c inner W (Lib.hid rfl) (Lib.hid ((hG.nd _ hx).ext e)) (Lib.hid (h6.nd _ hx))
theorem pred_edge {w : World} {NA : Option Addr} {Nc : Nat} {nodes : List Nm} {EA : Option Addr} {Ec : Nat} {edges : List (Pt × Pt)} {nl el b : Nat} (hl : nl = nodes.length) (hG : GmR w ⟨NA, Nc, nodes, EA, Ec, edges⟩) (hN : ∀ x ∈ nodes, nodeT x.v = true) (hb : Bk w b 25 #[.slice NA nl Nc, .slice EA el Ec]) :
    Pred_ed 22 (.pointer (some ⟨b, 0, none⟩)) (fun e => !edgeT (Gm.v ⟨NA, Nc, nodes, EA, Ec, edges⟩) e) edges w := fun W x _ e => by
  obtain ⟨⟨fn, fo, fp⟩, ⟨tn, too, tp⟩⟩ := x
  have hb2 := hb.ext e
  exact check2_any NA Nc nodes EA Ec edges fn fo fp tn too tp nl el b W (Lib.hid hl) (Lib.hid (hG.ext e)) (Lib.hid hN) (Lib.hid ⟨hb2.cell 0, hb2.cell 1⟩)
set_option maxRecDepth 100000 in
set_option maxHeartbeats 4000000 in
theorem checkG_any (NA : Option Addr) (Nc : Nat) (nodes : List Nm) (EA : Option Addr) (Ec : Nat) (edges : List (Pt × Pt)) (nl el : Nat) (w : World) (hl : Hid (nl = nodes.length)) (he : Hid (el = edges.length)) (hG : Hid (GmR w ⟨NA, Nc, nodes, EA, Ec, edges⟩)) (h6 : Hid (G64 ⟨NA, Nc, nodes, EA, Ec, edges⟩)) (hF : Hid (GFew (Gm.v ⟨NA, Nc, nodes, EA, Ec, edges⟩))) (hb : Hid ((allS ⟨NA, Nc, nodes, EA, Ec, edges⟩).length ≤ 1000)) (hnl : nl ≤ 1000) (hel : el ≤ 1000) :
    Calls Try.prog 8 #[.agg #[.slice NA nl Nc, .slice EA el Ec]] w (CheckOut w ⟨NA, Nc, nodes, EA, Ec, edges⟩) := by
  obtain ⟨w0, hw0⟩ : ∃ w0, w0 = w.alloc (.cells #[.slice NA nl Nc, .slice EA el Ec] 25) := ⟨_, rfl⟩
  have X0 : Hid (Ext w w0) := Lib.hid (by rw [hw0]; exact (Ext.refl w).alloc _)
  obtain ⟨bg, hbg⟩ : ∃ b, b = w.heap.size := ⟨_, rfl⟩
  have B0 : Hid (Bk w0 bg 25 #[.slice NA nl Nc, .slice EA el Ec]) := Lib.hid (by rw [hw0, hbg]; exact Bk.new _ _ _)
  have c0 := B0.out.cell 0
  have c1 := B0.out.cell 1
  have z1 : ¬ (4000 : Int) < (nl : Int) := by omega
  have z2 : ¬ (16000 : Int) < (el : Int) := by omega
  have hG0 := hG.out.ext X0.out
  have P1 := Lib.hid (contains_nm (fun x => !nodeT x.v) 19 (fun _ _ => by kernel_rfl) NA Nc nl nodes w0 hl (Lib.hid hG0.ns) (Lib.hid (pred_node hG0 h6.out)))
  have hform := form_eq ⟨NA, Nc, nodes, EA, Ec, edges⟩
  have hA := any_not (fun x : Nm => nodeT x.v) nodes
  simp only at hform
  cases ha : nodes.all (fun x => nodeT x.v) with
  | false =>
    rw [ha] at hA hform
    rw [hA] at P1
    have HFM : Hid (formT (Gm.v ⟨NA, Nc, nodes, EA, Ec, edges⟩) = false) := Lib.hid (by rw [hform]; rfl)
    clear ha hA hform hG0
    go_enter Try.func8, Try.ntmps8
    go_upto_region 1 with fail
    rw [← hw0, ← hbg]
    clear hw0 hbg
    go_wp2_with (first | (go_at_call 18; go_loud (refine P1.out.mono ?_); rintro e w1 ⟨rfl, x1⟩; have X1 := Lib.hid (X0.out.trans x1); clear x1))
    go_returns
    exact ⟨60, rfl, .inl ⟨HFM.out, rfl⟩, X1.out⟩
  | true =>
    have hN : ∀ x ∈ nodes, nodeT x.v = true := List.all_eq_true.1 ha
    rw [ha] at hA hform
    rw [hA] at P1
    have hB := any_not (fun e : Pt × Pt => edgeT (Gm.v ⟨NA, Nc, nodes, EA, Ec, edges⟩) e) edges
    have P2 : Hid (∀ w1, Ext w0 w1 → Calls Try.prog 21 #[.slice EA el Ec, .func (.func 22) #[] #[.pointer (some ⟨bg, 0, none⟩)]] w1 fun e w' => e = .returned (.bool (edges.any fun e => !edgeT (Gm.v ⟨NA, Nc, nodes, EA, Ec, edges⟩) e)) ∧ Ext w1 w') := Lib.hid (fun w1 e => contains_ed (fun e => !edgeT (Gm.v ⟨NA, Nc, nodes, EA, Ec, edges⟩) e) 22 (.pointer (some ⟨bg, 0, none⟩)) (fun _ _ => by kernel_rfl) EA Ec el edges w1 he (Lib.hid (hG0.es.ext e)) (Lib.hid (pred_edge hl.out (hG0.ext e) hN (B0.out.ext e))))
    cases hbb : edges.all (edgeT (Gm.v ⟨NA, Nc, nodes, EA, Ec, edges⟩)) with
    | false =>
      rw [show (edges.all fun e : Pt × Pt => edgeT (Gm.v ⟨NA, Nc, nodes, EA, Ec, edges⟩) e) = false from hbb] at hB
      rw [hbb] at hform
      rw [hB] at P2
      have HFM : Hid (formT (Gm.v ⟨NA, Nc, nodes, EA, Ec, edges⟩) = false) := Lib.hid (by rw [hform]; rfl)
      clear ha hA hform hG0 hN hB hbb
      go_enter Try.func8, Try.ntmps8
      go_upto_region 1 with fail
      rw [← hw0, ← hbg]
      clear hw0 hbg
      go_wp2_with (first
        | (go_at_call 18; go_loud (refine P1.out.mono ?_); rintro e w1 ⟨rfl, x1⟩; have X1 := Lib.hid x1; have d1 := (B0.out.ext x1).cell 1; clear x1)
        | (go_at_call 21; go_loud (refine (P2.out _ X1.out).mono ?_); rintro e w2 ⟨rfl, x2⟩; have X2 := Lib.hid (X0.out.trans (X1.out.trans x2)); clear x2))
      go_returns
      exact ⟨60, rfl, .inl ⟨HFM.out, rfl⟩, X2.out⟩
    | true =>
      rw [show (edges.all fun e : Pt × Pt => edgeT (Gm.v ⟨NA, Nc, nodes, EA, Ec, edges⟩) e) = true from hbb] at hB
      rw [hbb] at hform
      rw [hB] at P2
      have hfm : formT (Gm.v ⟨NA, Nc, nodes, EA, Ec, edges⟩) = true := by rw [hform]; rfl
      have HG : Hid (GOK (Gm.v ⟨NA, Nc, nodes, EA, Ec, edges⟩)) := Lib.hid (formT_ok hfm h6.out.g32)
      have HFM := Lib.hid hfm
      have HPT : Hid (∀ p, ((Gm.v ⟨NA, Nc, nodes, EA, Ec, edges⟩).dep p).isSome → P64 p) := Lib.hid (fun p hp => G64.p64 h6.out (by show nodes.length ≤ _; rw [← hl.out]; omega) p hp)
      have HNN := Lib.hid hN
      clear ha hA hform hN hB hbb
      go_enter Try.func8, Try.ntmps8
      go_upto_region 1 with fail
      rw [← hw0, ← hbg]
      clear hw0 hbg
      have HG0 := Lib.hid hG0
      clear hG0
      go_wp2_with (first
        | (go_at_call 18; go_loud (refine P1.out.mono ?_); rintro e w1 ⟨rfl, x1⟩; have X1 := Lib.hid x1; have d1 := (B0.out.ext x1).cell 1; clear x1)
        | (go_at_call 21; go_loud (refine (P2.out _ X1.out).mono ?_); rintro e w2 ⟨rfl, x2⟩; have X2 := Lib.hid (X1.out.trans x2); have e0 := (B0.out.ext X2.out).cell 0; have e1 := (B0.out.ext X2.out).cell 1; clear x2)
        | (go_at_call 24; go_loud (refine (steps_any NA Nc nodes EA Ec edges nl el w2 hl he (Lib.hid (HG0.out.ext X2.out)) h6 (Lib.hid (by have := hb.out; omega)) (by omega)).mono ?_); intro e w3 h3; obtain ⟨kb, rfl, st3, x3⟩ := h3.st HG.out (HG0.out.ext X2.out) hb.out; have ST3 := Lib.hid st3; have X3 := Lib.hid (X2.out.trans x3); clear st3 x3 h3)
        | (go_at_call 25; go_loud (refine (rounds_any kb _ w3 ST3 (Lib.hid (nxt_p64 HG.out HPT.out)) (Lib.hid (fun p => Nat.le_trans (mvs_len _ HG.out p) hb.out))).mono ?_); rintro e w4 ⟨kl, Lf, ckf, F, rfl, sf, hr, x4⟩; have SF := Lib.hid sf; have HRE := Lib.hid hr; have ST4 := Lib.hid (ST3.out.ext x4); have X4 := Lib.hid (X3.out.trans x4); have f0 := (B0.out.ext X4.out).cell 0; clear sf hr x4))
      obtain ⟨g, hg⟩ : ∃ g, g = Gm.v ⟨NA, Nc, nodes, EA, Ec, edges⟩ := ⟨_, rfl⟩
      have HGE := Lib.hid hg
      rw [← hg] at HG HFM HPT ST4 HRE hF
      have HST4 := ST4
      have HDI : Hid (∀ q : Pt, q.o = false → (g.dep q).isSome → 0 ≤ q.n ∧ q.n < nodes.length ∧ 0 ≤ q.p ∧ q.p < (nodes.getD q.n.toNat Nm.zero).ins) := Lib.hid (fun q ho hd => by
        have h := dep_input (g := ⟨NA, Nc, nodes, EA, Ec, edges⟩) (by rw [← hg]; exact hd) ho
        exact ⟨h.1, h.2.1, h.2.2.1, h.2.2.2.1⟩)
      have HID : Hid (∀ (i : Nat) (k : Int), i < nodes.length → 0 ≤ k → k < (nodes.getD i Nm.zero).ins → g.dep ⟨i, false, k⟩ = some (nodes.getD i Nm.zero).depth) := Lib.hid (fun i k hi h0 h1 => by
        rw [hg]; exact input_dep (g := ⟨NA, Nc, nodes, EA, Ec, edges⟩) hi h0 h1)
      clear hg P1 P2 d1 e0 e1 f0 ST3 ST4
      have E00 := Lib.hid (Ext.refl w4)
      go_loopg [5, 6, 7, 8, 9, 36] nl (fun gg _ _ _ _ _ s36 wr => ∃ i : Nat, s36 = .int .i64 i ∧ i ≤ nl ∧ gg = nl - i ∧ Hid (Ext w4 wr) ∧ Hid (∀ q : Pt, q.o = false → q.n < i → (g.dep q).isSome → NoCyc g q))
      case atStart => exact ⟨0, rfl, Nat.zero_le _, rfl, E00, Lib.hid (fun q ho hlt hd => by have := (HDI.out q ho hd).1; omega)⟩
      case round =>
        clear E00
        obtain ⟨i, rfl, hi, rfl, HX, HC⟩ := hrel
        by_cases hlt : i < nl
        · have hil : i < nodes.length := by rw [← hl.out]; exact hlt
          have hltz : (i : Int) < (nl : Int) := by omega
          obtain ⟨ad, hNA, h0, h1, h2, h3⟩ := (HG0.out.ext (X4.out.trans HX.out)).nat hil
          simp only at hNA
          subst hNA
          have hnm := getD_mem' Nm.zero hil
          have hnT := HNN.out _ hnm
          obtain ⟨⟨nin, nou, nde, iA, ic, inner⟩, hnd⟩ : ∃ e, nodes.getD i Nm.zero = e := ⟨_, rfl⟩
          simp only at h0 h1 h2 h3
          rw [hnd] at h0 h1 h2 h3 hnT
          simp only at h0 h1 h2 h3
          obtain ⟨nn, hnn⟩ : ∃ n, n = inner.length := ⟨_, rfl⟩
          rw [← hnn] at h3
          have hin : 0 ≤ nin ∧ nin ≤ 8 := by
            unfold nodeT at hnT
            simp only [Bool.and_eq_true, decide_eq_true_eq] at hnT
            exact ⟨hnT.1.2.2.1, hnT.1.2.2.2.1⟩
          obtain ⟨ni, rfl⟩ : ∃ n : Nat, nin = n := ⟨nin.toNat, by omega⟩
          have hdep : ∀ k : Int, 0 ≤ k → k < ni → g.dep ⟨i, false, k⟩ = some nde := fun k k0 k1 => by
            have := HID.out i k hil k0 (by rw [hnd]; exact k1)
            rw [hnd] at this
            exact this
          have hinp : ∀ q : Pt, q.o = false → q.n = i → (g.dep q).isSome → 0 ≤ q.p ∧ q.p < ni := fun q ho hq hd => by
            have h5 := HDI.out q ho hd
            rw [hq, show ((i : Int)).toNat = i by omega, hnd] at h5
            exact ⟨h5.2.2.1, h5.2.2.2⟩
          obtain ⟨wA, hwA⟩ : ∃ wA, wA = wr.alloc (.cells #[.int .i64 ni, .int .i64 nou, .int .i64 nde, .slice iA nn ic] 50) := ⟨_, rfl⟩
          obtain ⟨nb, hnb⟩ : ∃ b, b = wr.heap.size := ⟨_, rfl⟩
          have XA : Hid (Ext wr wA) := Lib.hid (by rw [hwA]; exact (Ext.refl wr).alloc _)
          have BN : Hid (Bk wA nb 50 #[.int .i64 ni, .int .i64 nou, .int .i64 nde, .slice iA nn ic]) := Lib.hid (by rw [hwA, hnb]; exact Bk.new _ _ _)
          have HWA := Lib.hid hwA
          have HNB := Lib.hid hnb
          have HDEP := Lib.hid hdep
          have HINP := Lib.hid hinp
          have HND := Lib.hid hnd
          have hi8 : ni ≤ 8 := by omega
          have E00 := Lib.hid (Ext.refl wA)
          clear hnm hnT hnd hnn hdep hinp hwA hnb hin
          go_wp2
          rw [← HWA.out, ← HNB.out]
          go_loopg [7, 8, 9, 43] ni (fun gg _ _ _ s43 wr => ∃ k : Nat, s43 = .int .i64 k ∧ k ≤ ni ∧ gg = ni - k ∧ Hid (Ext wA wr) ∧ Hid (∀ q : Pt, q.o = false → q.n = i → q.p < k → (g.dep q).isSome → NoCyc g q))
          case atStart => exact ⟨0, rfl, Nat.zero_le _, rfl, E00, Lib.hid (fun q ho hq hp hd => by have := (HINP.out q ho hq hd).1; omega)⟩
          case round =>
            clear E00
            obtain ⟨k, rfl, hk, rfl, HY, HCK⟩ := hrel
            by_cases hkl : k < ni
            · have hkz : (k : Int) < (ni : Int) := by omega
              have hd := HDEP.out (k : Int) (by omega) hkz
              have h6 := HPT.out ⟨(i : Int), false, (k : Int)⟩ (by rw [hd]; rfl)
              obtain ⟨w9, hw9⟩ : ∃ w9, w9 = wr.alloc (.cells #[.int .i64 i, .bool false, .int .i64 k] 27) := ⟨_, rfl⟩
              obtain ⟨pb, hpb⟩ : ∃ b, b = wr.heap.size := ⟨_, rfl⟩
              have X9 : Hid (Ext wr w9) := Lib.hid (by rw [hw9]; exact (Ext.refl wr).alloc _)
              have BP : Hid (Bk w9 pb 27 #[.int .i64 i, .bool false, .int .i64 k]) := Lib.hid (by rw [hw9, hpb]; exact Bk.new _ _ _)
              have EW : Hid (Ext w4 w9) := Lib.hid (HX.out.trans (XA.out.trans (HY.out.trans X9.out)))
              have hlk := (SF.out.ext EW.out).look h6
              unfold ptV at hlk
              simp only at hlk
              have p0 := BP.out.cell 0
              have p1 := BP.out.cell 1
              have p2 := BP.out.cell 2
              obtain ⟨fb, hfb⟩ : ∃ b, F ⟨(i : Int), false, (k : Int)⟩ = b := ⟨_, rfl⟩
              rw [hfb] at hlk
              have HD := Lib.hid hd
              have H6 := Lib.hid h6
              have HFB := Lib.hid hfb
              have HW9 := Lib.hid hw9
              have HPB := Lib.hid hpb
              rw [hw9] at hlk p0 p1 p2
              rw [hpb] at p0 p1 p2
              clear hd h6 hfb hw9 hpb
              cases fb with
              | false =>
                go_wp2
                go_roundg (ni - (k + 1))
                case measure => omega
                case rel =>
                  refine ⟨k + 1, by go_num, by omega, rfl, Lib.hid (by rw [← HW9.out]; exact HY.out.trans X9.out), Lib.hid (fun q ho hq hp hd => ?_)⟩
                  by_cases e : q.p = k
                  · have e2 : q = ⟨(i : Int), false, (k : Int)⟩ := by cases q; simp only at ho hq e; rw [ho, hq, e]
                    rw [e2]
                    exact nocyc_left (fun h => by have := HRE.out _ h; rw [HFB.out] at this; cases this)
                  · exact HCK.out q ho hq (by omega) hd
              | true =>
                go_upto_region 16 with fail
                rw [← HW9.out, ← HPB.out]
                have xd : Ext w9 w9.drew := (Ext.refl w9).drew
                have EW2 : Ext w4 w9.drew := EW.out.trans xd
                have BPd := BP.out.ext xd
                have BNd := ((BN.out.ext HY.out).ext X9.out).ext xd
                have Q1 : ∀ y : Zt Ext w9.drew, y.W.cell? ⟨pb, 0, none⟩ = some (.int .i64 i) := fun y => (BPd.ext y.x).cell 0
                have Q2 : ∀ y : Zt Ext w9.drew, y.W.cell? ⟨pb, 1, none⟩ = some (.bool false) := fun y => (BPd.ext y.x).cell 1
                have Q3 : ∀ y : Zt Ext w9.drew, y.W.cell? ⟨pb, 2, none⟩ = some (.int .i64 k) := fun y => (BPd.ext y.x).cell 2
                have Q4 : ∀ y : Zt Ext w9.drew, y.W.cell? ⟨nb, 2, none⟩ = some (.int .i64 nde) := fun y => (BNd.ext y.x).cell 2
                have HL9 := Lib.hid (least_any false kb g (i : Int) false (k : Int) nde w9.drew (Lib.hid (HST4.out.ext EW2)) HG hF HD HPT)
                have HEW2 := Lib.hid EW2
                have HBN := Lib.hid BNd
                clear EW2 BPd BNd p0 p1 p2 hlk
                refine wp_region_ordS (R := Ext) [0,0,0,4,15,0,63,0,255] (.flo [0,1,2,3,5,7] (.ext 4 (.flo [6] (.one 8 (.fin))))) (by kernel_rfl) (by kernel_rfl) (by intro _ _ d _ _ h; cases d <;> exact h) ?_
                (refine ord_floS (pick_cons rfl (pick_cons rfl (pick_cons rfl (pick_cons rfl (pick_cons rfl (pick_cons rfl pick_nil)))))) ?_; (repeat (go_big_quiet_step (fail))); refine wpQuiet_nil ?_; show ordWalkS _ _ _ _ _ _ _ _)
                refine ord_extS (pick_cons rfl pick_nil) ?_; intro K_ hK_
                clear Q1 Q2 Q3 Q4
                go_wp2_with (go_at_call 29; go_loud (refine HL9.out.mono ?_); rintro e w10 ⟨kk, rfl, lm⟩; have LM := Lib.hid lm; clear lm)
                refine ordNextS.mk LM.out.x ?_
                obtain ⟨L2, ck2, K, km, T, _, hfw, hf32⟩ := LM.out.ex
                obtain ⟨lA, lc, la⟩ := km.ls ⟨(i : Int), false, (k : Int)⟩
                obtain ⟨n2, hn2⟩ : ∃ n, n = (K ⟨(i : Int), false, (k : Int)⟩).length := ⟨_, rfl⟩
                have Q5 : ∀ y : Zt Ext w10, (Instr.lookup 81 (.map (some kk)) (.agg #[.int .i64 i, .bool false, .int .i64 k]) false).run Try.prog y.W = .ok (.slice lA n2 lc) y.W := fun y => by
                  have := (km.ext y.x).tm.look H6.out Try.underlying81 (zeroPs y.W)
                  rw [show (getE L2 ⟨(i : Int), false, (k : Int)⟩).getD (.slice none 0 0) = _ from la.hd, ← hn2] at this
                  exact this
                have PC := contains_pm (fun x => pl x.w idW nde) 26 (.pointer (some ⟨nb, 0, none⟩)) (fun _ _ => by kernel_rfl) lA lc n2 (K ⟨(i : Int), false, (k : Int)⟩) w10 (Lib.hid hn2) (Lib.hid la.ow.sl) (Lib.hid (fun W x hx e => by
                  obtain ⟨xA, xc, ⟨xl, xa, xe⟩⟩ := x
                  have q := hf32 _ _ hx
                  exact check3_any xl xa xA xe.length xc xe nde nb W (Lib.hid ((km.wy _ _ hx).ext e).pmR) (Lib.hid q.1) q.2 (((HBN.out.ext LM.out.x).ext e).cell 2)))
                have hT0 : Tab g ⟨(i : Int), false, (k : Int)⟩ False (fun q => (K q).map Pm.w) := by
                  have e : (false = true) = False := by simp
                  rw [e] at T; exact T
                have hdp : g.dp ⟨(i : Int), false, (k : Int)⟩ = nde := by unfold Gr.dp; rw [HD.out]; rfl
                obtain ⟨bb, hbb⟩ : ∃ b, (K ⟨(i : Int), false, (k : Int)⟩).any (fun x => pl x.w idW nde) = b := ⟨_, rfl⟩
                rw [hbb] at PC
                have HPC := Lib.hid PC
                have HT0 := Lib.hid hT0
                have HDP := Lib.hid hdp
                have HBB := Lib.hid hbb
                clear km T hfw hf32 la hn2 PC hT0 hdp hbb
                (refine ord_floS (pick_cons rfl pick_nil) ?_; (repeat (go_big_quiet_step (fail))); refine wpQuiet_nil ?_; show ordWalkS _ _ _ _ _ _ _ _)
                refine ord_oneS (pick_cons rfl pick_nil) ?_; intro K_ hK_
                clear Q5
                cases bb with
                | true =>
                  go_wp2_with (go_at_call 28; go_loud (refine HPC.out.mono ?_); rintro e w11 ⟨rfl, x11⟩; have X11 := Lib.hid x11; clear x11)
                  refine ord_finS ?_
                  go_wp2
                  go_returns
                  refine ⟨61, rfl, .inr (.inl ⟨by rw [← HGE.out]; exact HFM.out, ?_, rfl⟩), X0.out.trans (X4.out.trans (HEW2.out.trans (LM.out.x.trans X11.out)))⟩
                  rw [← HGE.out]
                  obtain ⟨x, hx, hpx⟩ := List.any_eq_true.1 HBB.out
                  exact ⟨_, x.w, rfl, by rw [HD.out]; rfl, HT0.out.rt _ _ (List.mem_map.2 ⟨x, hx, rfl⟩), by rw [HDP.out]; exact hpx⟩
                | false =>
                  go_wp2_with (go_at_call 28; go_loud (refine HPC.out.mono ?_); rintro e w11 ⟨rfl, x11⟩; have X11 := Lib.hid x11; clear x11)
                  refine ord_finS ?_
                  go_wp2
                  go_roundg (ni - (k + 1))
                  case measure => omega
                  case rel =>
                    refine ⟨k + 1, by go_num, by omega, rfl, Lib.hid ((((HY.out.trans X9.out).trans xd).trans LM.out.x).trans X11.out), Lib.hid (fun q ho hq hp hd => ?_)⟩
                    by_cases e : q.p = k
                    · have e2 : q = ⟨(i : Int), false, (k : Int)⟩ := by cases q; simp only at ho hq e; rw [ho, hq, e]
                      rw [e2]
                      refine nocyc_tab HG.out (by rw [HD.out]; rfl) HT0.out (fun x hx => ?_)
                      obtain ⟨y, hy, rfl⟩ := List.mem_map.1 hx
                      have := List.any_eq_false.1 HBB.out y hy
                      rw [HDP.out]
                      simpa using this
                    · exact HCK.out q ho hq (by omega) hd
            · obtain rfl : k = ni := by omega
              go_wp2
              go_roundg (nl - (i + 1))
              case measure => omega
              case rel =>
                refine ⟨i + 1, by go_num, by omega, rfl, Lib.hid (HX.out.trans (XA.out.trans HY.out)), Lib.hid (fun q ho hq hd => ?_)⟩
                by_cases e : q.n = i
                · exact HCK.out q ho e (HINP.out q ho e hd).2 hd
                · exact HC.out q ho (by omega) hd
        · obtain rfl : i = nl := by omega
          go_wp2
          go_returns
          refine ⟨0, rfl, .inr (.inr ⟨by rw [← HGE.out]; exact HFM.out, ?_, rfl⟩), X0.out.trans (X4.out.trans HX.out)⟩
          rw [← HGE.out]
          refine nocyc_all (fun q ho hd => HC.out q ho ?_ hd)
          rw [hl.out]; exact (HDI.out q ho hd).2.1
end Go.Proofs.Yteklohamkmiphaa
namespace Go.Proofs.Yteklohamkmiphaa
open Go.RowKit

set_option maxRecDepth 100000 in
set_option maxHeartbeats 400000 in
theorem clone_pms (A : Option Addr) (n c : Nat) (xs : List Value) (w : World) (hs : Hid (Sl w 3 A n c xs)) (h1 : Hid (∀ u ∈ xs, u.oneCell' = true)) (hn : n ≤ 1263007198127) :
    Calls Try.prog 57 #[.slice A n c] w fun e w' => ∃ A' c', e = .returned (.slice A' n c') ∧ Own w' w.heap.size 47 3 A' n c' xs ∧ Ext w w' := by
  have hnil := fun (W : World) => Lib.run_eql_slice_nil (P := Try.prog) W 42 47 A n c 0 0 Try.underlying42
  rcases A with _ | a
  · obtain rfl : c = 0 := hs.out.2.2.2.1 rfl
    have hn0 : n = 0 := by have := hs.out.2.1; omega
    subst hn0
    have hx : xs = [] := List.eq_nil_of_length_eq_zero (by simpa using hs.out.1)
    rw [hx]
    go_enter Try.func57, Try.ntmps57
    go_wp2
    go_ret
    exact ⟨none, 0, rfl, Own.nil _ _ _ _, Ext.refl _⟩
  · go_enter Try.func57, Try.ntmps57
    go_wp2_with (at_builtin; refine wpList_append_gen _ elem_pm w.heap.size _ _ (by rfl) (by rfl) _ 0 0 [] (by rfl) (Own.empty _ _ _ _ _) (some a) n c xs (by rfl) (hs.out.ext ((Ext.refl w).alloc _)) h1.out (by omega) (by omega) (by simp) ?_; intro A' c' w1 ho1 hg1 hk1)
    go_ret
    refine ⟨A', c', by simp, by simpa using ho1, ?_⟩
    exact ((Ext.refl w).alloc _).grown hg1 (by simp [blk])
theorem pms_set1 : ∀ (L : List Pm) (i : Nat) (A : Option Addr) (c : Nat), i < L.length → (L.flatMap pmC).set (i * 3 + 2) (.slice A (L.getD i Pm.zero).w.enter.length c) = (L.set i ⟨A, c, (L.getD i Pm.zero).w⟩).flatMap pmC
  | [], i, A, c, h => absurd h (Nat.not_lt_zero _)
  | d :: L, 0, A, c, _ => rfl
  | d :: L, i + 1, A, c, h => by
    have ih := pms_set1 L i A c (Nat.lt_of_succ_lt_succ h)
    rw [List.set_cons_succ, List.flatMap_cons, List.flatMap_cons]
    have l3 : (pmC d).length = 3 := rfl
    rw [List.set_append_right _ _ (by omega), show (i + 1) * 3 + 2 - (pmC d).length = i * 3 + 2 by omega]
    rw [show (d :: L).getD (i + 1) Pm.zero = L.getD i Pm.zero from rfl, ih]
/-- copies so far -/
structure CpI (w wr : World) (l M : List Pm) (i n c : Nat) (A : Option Addr) : Prop where
  ex : Ext w wr
  o : Own wr w.heap.size 47 3 A n c (M.flatMap pmC)
  ln : M.length = n
  mw : M.map Pm.w = l.map Pm.w
  lo : ∀ j, j < i → Wy w wr (M.getD j Pm.zero)
  hi : ∀ j, i ≤ j → M.getD j Pm.zero = l.getD j Pm.zero
theorem CpI.next {w wr w1 : World} {l M : List Pm} {i n c g c1 : Nat} {A1 : Option Addr} (I : CpI w wr l M i n c (some ⟨g, 0, none⟩)) (hi : i < n) (hc : 0 < c) (x1 : Ext wr w1) (o1 : Own w1 w.heap.size 45 1 A1 (M.getD i Pm.zero).w.enter.length c1 (wds (M.getD i Pm.zero).w.enter)) :
    CpI w (w1.setCell ⟨g, i * 3 + 2, none⟩ (.slice A1 (M.getD i Pm.zero).w.enter.length c1)) l (M.set i ⟨A1, c1, (M.getD i Pm.zero).w⟩) (i + 1) n c (some ⟨g, 0, none⟩) := by
  have hb : blk (some (⟨g, 0, none⟩ : Addr)) c = some g := by cases c with | zero => omega | succ c => rfl
  have ho := I.o.ext x1
  have hiM : i < M.length := by rw [I.ln]; exact hi
  have hlt := ho.lt g hb
  have gt := ho.ty hb
  have hget : ∀ j, (M.set i ⟨A1, c1, (M.getD i Pm.zero).w⟩).getD j Pm.zero = if j = i then ⟨A1, c1, (M.getD i Pm.zero).w⟩ else M.getD j Pm.zero := fun j => by
    rw [List.getD_eq_getElem?_getD, List.getElem?_set, List.getD_eq_getElem?_getD]
    by_cases e : i = j
    · subst e; simp [hiM]
    · rw [if_neg e, if_neg (fun h => e h.symm), List.getD_eq_getElem?_getD]
  have keep : ∀ {x : Pm}, Wy w w1 x → Wy w (w1.setCell ⟨g, i * 3 + 2, none⟩ (.slice A1 (M.getD i Pm.zero).w.enter.length c1)) x := fun h => Own.far h (fun e => absurd (gt.ne (Own.ty h e)) (by decide)) _
  refine ⟨(I.ex.trans x1).set (by exact hlt.1) _, ?_, by rw [List.length_set]; exact I.ln, ?_, fun j hj => ?_, fun j hj => ?_⟩
  · have := ho.put (i * 3 + 2) (.slice A1 (M.getD i Pm.zero).w.enter.length c1)
    rw [pms_set1 M i A1 c1 hiM] at this
    exact this
  · rw [List.map_set, ← I.mw]
    refine List.ext_getElem? fun j => ?_
    rw [List.getElem?_set]
    by_cases e : i = j
    · subst e
      rw [if_pos rfl, List.length_map, if_pos hiM, List.getElem?_map, List.getElem?_eq_getElem hiM, List.getD_eq_getElem?_getD, List.getElem?_eq_getElem hiM]
      rfl
    · rw [if_neg e]
  · rw [hget]
    by_cases e : j = i
    · rw [if_pos e]; exact keep o1
    · rw [if_neg e]; exact keep ((I.lo j (by omega)).ext x1)
  · rw [hget, if_neg (by omega)]; exact I.hi j (by omega)
theorem own_free {w : World} {B s g n c : Nat} {T : TypeId} {xs : List Value} (h : Own w B T s (some ⟨g, 0, none⟩) n c xs) (hn : 0 < n) (j : Nat) : w.frozen? ⟨g, j, none⟩ = false := by
  obtain ⟨g', e, _, _, _, _, hf⟩ := h.form hn
  injection e with e
  injection e with e
  rw [e]; exact hf j
def CopyOut (w : World) (l : List Pm) (n : Nat) (e : Ending) (w' : World) : Prop := ∃ (A' : Option Addr) (c' : Nat) (M : List Pm), e = .returned (.slice A' n c') ∧ M.map Pm.w = l.map Pm.w ∧ Sl w' 3 A' n c' (M.flatMap pmC) ∧ (∀ x ∈ M, PmR w' x) ∧ Ext w w'
set_option maxRecDepth 100000 in
set_option maxHeartbeats 2000000 in
theorem copied_any (A : Option Addr) (n c : Nat) (l : List Pm) (w : World) (hm : Hid (n = l.length)) (h : Hid (Sl w 3 A n c (l.flatMap pmC))) (hr : Hid (∀ x ∈ l, PmR w x)) (hf : Hid (∀ x ∈ l, x.w.enter.length ≤ 1000000)) (hn : n ≤ 1263007198127) :
    Calls Try.prog 33 #[.slice A n c] w (CopyOut w l n) := by
  have HC := Lib.hid (clone_pms A n c (l.flatMap pmC) w h (Lib.hid (els_one pmC_one l)) hn)
  go_enter Try.func33, Try.ntmps33
  go_wp2_with (first | (go_at_call 57; go_loud (refine HC.out.mono ?_); rintro e w1 ⟨A1, c1, rfl, o1, x1⟩; have HI0 : Hid (CpI w w1 l l 0 n c1 A1) := Lib.hid ⟨x1, o1, hm.out.symm, rfl, fun j hj => absurd hj (Nat.not_lt_zero _), fun j _ => rfl⟩; clear o1 x1))
  go_loopg [4, 5, 10] n (fun gg _ _ s10 wr => ∃ (i : Nat) (M : List Pm), s10 = .int .i64 i ∧ i ≤ n ∧ gg = n - i ∧ Hid (CpI w wr l M i n c1 A1))
  case atStart => exact ⟨0, l, rfl, Nat.zero_le _, rfl, HI0⟩
  case round =>
    clear HI0
    obtain ⟨i, M, rfl, hi, rfl, HI⟩ := hrel
    by_cases hlt : i < n
    · have hltz : (i : Int) < (n : Int) := by omega
      have hiM : i < M.length := by rw [HI.out.ln]; exact hlt
      have hil : i < l.length := by rw [← hm.out]; exact hlt
      obtain ⟨gb, hA1, hb, _⟩ := HI.out.o.form (by omega)
      subst hA1
      have hc0 : 0 < c1 := by
        cases c1 with
        | zero => rw [blk_zero] at hb; cases hb
        | succ c => omega
      obtain ⟨ad, had, h0, h1⟩ := els_at pmC 3 pmC_len Pm.zero HI.out.o.sl HI.out.ln.symm hiM (by omega)
      injection had with had
      subst had
      have hMl := HI.out.hi i (Nat.le_refl _)
      have hwm := (hr.out _ (getD_mem' Pm.zero hil)).ext HI.out.ex
      have hfm := hf.out _ (getD_mem' Pm.zero hil)
      have HN : Hid (∀ (w1 : World) (A2 : Option Addr) (c2 : Nat), Ext wr w1 → Own w1 w.heap.size 45 1 A2 (M.getD i Pm.zero).w.enter.length c2 (wds (M.getD i Pm.zero).w.enter) → CpI w (w1.setCell ⟨gb, i * 3 + 2, none⟩ (.slice A2 (M.getD i Pm.zero).w.enter.length c2)) l (M.set i ⟨A2, c2, (M.getD i Pm.zero).w⟩) (i + 1) n c1 (some ⟨gb, 0, none⟩)) := Lib.hid (fun w1 A2 c2 x o => HI.out.next hlt hc0 x o)
      rw [← hMl] at hwm hfm
      obtain ⟨⟨pA, pc, ⟨pl, pa, pe⟩⟩, hp⟩ : ∃ p, M.getD i Pm.zero = p := ⟨_, rfl⟩
      rw [hp] at h0 h1 hwm hfm HN
      have q0 := h0 _ rfl
      have q1 := h1 0 _ rfl
      have q2 := h1 1 _ rfl
      rw [addr_at] at q0 q1 q2
      simp only [Nat.zero_add] at q0 q1 q2
      simp only at hfm
      obtain ⟨np, hnp⟩ : ∃ n, n = pe.length := ⟨_, rfl⟩
      simp only at HN
      rw [← hnp] at q2 hfm HN
      have HS : ∀ w1, Ext wr w1 → Sl w1 1 pA np pc (wds pe) := fun w1 e => by rw [hnp]; exact hwm.ext e
      have HS := Lib.hid HS
      have EA : Hid (Ext wr (wr.alloc (.cells #[.int .i64 pl, .int .u32 pa, .slice pA np pc] 47))) := Lib.hid ((Ext.refl wr).alloc _)
      have HO := Lib.hid HI.out.o
      have HX := Lib.hid HI.out.ex
      clear h0 h1 hMl hwm hp hnp hb hiM hil
      go_wp2_with (first | (go_at_call 58; go_loud (refine (clone_words pA np pc _ _ (HS.out _ EA.out) (wds_one _) (by omega)).mono ?_); rintro e w2 ⟨A2, c2, rfl, o2, x2⟩; have O2 := Lib.hid o2; have X2 := Lib.hid (EA.out.trans x2); have fr := own_free (HO.out.ext X2.out) (by omega) (i * 3 + 2); have cc := X2.out.cell q2; clear o2 x2))
      go_roundg (n - (i + 1))
      case measure => omega
      case rel => exact ⟨i + 1, _, by go_num, by omega, rfl, Lib.hid (HN.out w2 A2 c2 X2.out (Own.mono (by have q := O2.out; exact q) (by have h1 := HX.out.size; have h2 := EA.out.size; omega)))⟩
    · obtain rfl : i = n := by omega
      go_wp2
      go_ret
      refine ⟨A1, c1, M, rfl, HI.out.mw, HI.out.o.sl, fun x hx => ?_, HI.out.ex⟩
      obtain ⟨j, hj⟩ := List.getElem?_of_mem hx
      have h1 := (List.getElem?_eq_some_iff.1 hj).1
      have := HI.out.lo j (by rw [HI.out.ln] at h1; exact h1)
      rw [List.getD_eq_getElem?_getD, hj] at this
      exact Wy.pmR this
end Go.Proofs.Yteklohamkmiphaa
