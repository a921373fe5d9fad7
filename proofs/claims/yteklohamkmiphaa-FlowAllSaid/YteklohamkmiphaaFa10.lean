/- flow.made, turns, depth: what they answer. flow.depth, penstockref06.Depth: whether there is a place, and of what depth. flow.node: whether a node may be. flow.node, whole. flow.Check$1. flow.edge. As OrdR, with the facts laid anew behind each operation that may write. flow.Check, plainly. Conditions: each theorem states its own. -/
import Derived.Test.YteklohamkmiphaaFa4
import Derived.Test.YteklohamkmiphaaChecked
import Derived.Test.YteklohamkmiphaaFa2
import Derived.Test.YteklohamkmiphaaFa5
import Derived.Laws.EntriesVeiled
import Derived.Test.YteklohamkmiphaaFa6
import Derived.Test.YteklohamkmiphaaFa9
import Derived.Test.YteklohamkmiphaaFa8
namespace Go.Proofs.Yteklohamkmiphaa
open Go.RowKit

/-- as it is reckoned -/
def madeI (d L : Int) (n : Nat) : Int := wrap64 (wrap64 (d - L) + n)
theorem madeI_eq {d : Int} {w : Way} (h : 0 ≤ w.leave ∧ w.leave ≤ 1000) (hd : 0 ≤ d ∧ d ≤ 1000) (hn : w.enter.length ≤ 1000000) : madeI d w.leave w.enter.length = madeT d w := by
  unfold madeI madeT
  unfold wrap64; omega
set_option maxRecDepth 100000 in
set_option maxHeartbeats 400000 in
theorem made_any (d L a : Int) (A : Option Addr) (n c : Nat) (w : World) : Calls Try.prog 43 #[.int .i64 d, .agg #[.int .i64 L, .int .u32 a, .slice A n c]] w fun e w' => e = .returned (.int .i64 (madeI d L n)) ∧ Ext w w' := by
  go_enter Try.func43, Try.ntmps43
  go_wp2
  go_returns
  exact ⟨rfl, (Ext.refl w).alloc _⟩
set_option maxRecDepth 100000 in
set_option maxHeartbeats 400000 in
theorem rmade_any (d L a : Int) (A : Option Addr) (n c : Nat) (w : World) : Calls Try.prog 31 #[.int .i64 d, .agg #[.int .i64 L, .int .u32 a, .slice A n c]] w fun e w' => e = .returned (.int .i64 (madeI d L n)) ∧ Ext w w' := by
  go_enter Try.func31, Try.ntmps31
  go_wp2
  go_returns
  exact ⟨rfl, (Ext.refl w).alloc _⟩

def turnsI (i o : Int) (n : Nat) : Bool := decide (i = 1 ∧ o = 1 ∧ n = 1)
theorem turnsI_eq (x : Nm) : turnsI x.ins x.outs x.inner.length = x.v.turns := by
  unfold turnsI Nd.turns Nm.v
  simp only [List.length_map]
set_option maxRecDepth 100000 in
set_option maxHeartbeats 800000 in
theorem turns_any (i o d : Int) (A : Option Addr) (n c : Nat) (w : World) : Calls Try.prog 44 #[.agg #[.int .i64 i, .int .i64 o, .int .i64 d, .slice A n c]] w fun e w' => e = .returned (.bool (turnsI i o n)) ∧ Ext w w' := by
  go_enter Try.func44, Try.ntmps44
  by_cases h1 : i = 1
  · by_cases h2 : o = 1
    · by_cases h3 : (n : Int) = 1
      · have e : turnsI i o n = true := by unfold turnsI; exact decide_eq_true ⟨h1, h2, by omega⟩
        rw [e]
        go_wp2
        go_returns
        exact ⟨rfl, (Ext.refl w).alloc _⟩
      · have e : turnsI i o n = false := by unfold turnsI; exact decide_eq_false (by omega)
        have e3 : ((n : Int) == 1) = false := by simpa using h3
        rw [e]
        go_wp2
        go_returns
        exact ⟨rfl, (Ext.refl w).alloc _⟩
    · have e : turnsI i o n = false := by unfold turnsI; exact decide_eq_false (by omega)
      rw [e]
      go_wp2
      go_returns
      exact ⟨rfl, (Ext.refl w).alloc _⟩
  · have e : turnsI i o n = false := by unfold turnsI; exact decide_eq_false (by omega)
    rw [e]
    go_wp2
    go_returns
    exact ⟨rfl, (Ext.refl w).alloc _⟩
set_option maxRecDepth 100000 in
set_option maxHeartbeats 800000 in
theorem rturns_any (i o d : Int) (A : Option Addr) (n c : Nat) (w : World) : Calls Try.prog 30 #[.agg #[.int .i64 i, .int .i64 o, .int .i64 d, .slice A n c]] w fun e w' => e = .returned (.bool (turnsI i o n)) ∧ Ext w w' := by
  go_enter Try.func30, Try.ntmps30
  by_cases h1 : i = 1
  · by_cases h2 : o = 1
    · by_cases h3 : (n : Int) = 1
      · have e : turnsI i o n = true := by unfold turnsI; exact decide_eq_true ⟨h1, h2, by omega⟩
        rw [e]
        go_wp2
        go_returns
        exact ⟨rfl, (Ext.refl w).alloc _⟩
      · have e : turnsI i o n = false := by unfold turnsI; exact decide_eq_false (by omega)
        have e3 : ((n : Int) == 1) = false := by simpa using h3
        rw [e]
        go_wp2
        go_returns
        exact ⟨rfl, (Ext.refl w).alloc _⟩
    · have e : turnsI i o n = false := by unfold turnsI; exact decide_eq_false (by omega)
      rw [e]
      go_wp2
      go_returns
      exact ⟨rfl, (Ext.refl w).alloc _⟩
  · have e : turnsI i o n = false := by unfold turnsI; exact decide_eq_false (by omega)
    rw [e]
    go_wp2
    go_returns
    exact ⟨rfl, (Ext.refl w).alloc _⟩
end Go.Proofs.Yteklohamkmiphaa
namespace Go.Proofs.Yteklohamkmiphaa
open Go.RowKit

def DepOut (g : Gr) (p : Pt) (w : World) (e : Ending) (w' : World) : Prop := ∃ d, e = .returned (.tuple #[.int .i64 d, .bool (g.dep p).isSome]) ∧ ((g.dep p).isSome = true → d = g.dp p) ∧ Ext w w'
theorem DepOut.none {g : Gr} {p : Pt} {w w' : World} {d : Int} (h : g.dep p = none) (x : Ext w w') : DepOut g p w (.returned (.tuple #[.int .i64 d, .bool false])) w' := ⟨d, by rw [h]; rfl, fun e => (by rw [h] at e; cases e), x⟩
theorem DepOut.some {g : Gr} {p : Pt} {w w' : World} {d : Int} {b : Bool} (h : g.dep p = if b = true then Option.some d else Option.none) (x : Ext w w') : DepOut g p w (.returned (.tuple #[.int .i64 d, .bool b])) w' := by
  cases b with
  | false => exact DepOut.none (by simpa using h) x
  | true =>
    have h : g.dep p = Option.some d := by simpa using h
    exact ⟨d, by rw [h]; rfl, fun _ => by unfold Gr.dp; rw [h]; rfl, x⟩
theorem dep_off {g : Gm} {p : Pt} (h : p.n < 0 ∨ (g.nodes.length : Int) ≤ p.n ∨ p.p < 0) : g.v.dep p = none := by
  unfold Gr.dep Gr.nd
  by_cases h0 : 0 ≤ p.n
  · rw [if_pos h0]
    cases hg : g.v.nodes[p.n.toNat]? with
    | none => rfl
    | some n =>
      have := (List.getElem?_eq_some_iff.1 hg).1
      have hl : g.v.nodes.length = g.nodes.length := by unfold Gm.v; simp
      simp only
      rw [if_pos (by omega)]
  · rw [if_neg h0]
theorem dep_in {g : Gm} {i : Nat} {o : Bool} {q : Int} (h : i < g.nodes.length) (hq : 0 ≤ q) : g.v.dep ⟨i, o, q⟩ = if o = true then (if q < (g.nodes.getD i Nm.zero).outs then some (g.nodes.getD i Nm.zero).v.outDep else none) else (if q < (g.nodes.getD i Nm.zero).ins then some (g.nodes.getD i Nm.zero).depth else none) := by
  unfold Gr.dep Gr.nd
  have hg : g.v.nodes[i]? = some (g.nodes.getD i Nm.zero).v := by
    show (g.nodes.map Nm.v)[i]? = _
    rw [List.getElem?_map, List.getElem?_eq_getElem h, List.getD_eq_getElem?_getD, List.getElem?_eq_getElem h]; rfl
  simp only
  rw [if_pos (by omega), show ((i : Nat) : Int).toNat = i by omega, hg]
  simp only
  rw [if_neg (by omega)]
  rfl
theorem inner_head {x : Nm} (h : x.v.turns = true) : x.inner.length = 1 ∧ x.v.outDep = madeT x.depth (x.inner.getD 0 Im.zero).p.w := by
  have t := h
  unfold Nd.turns Nm.v at t
  have t := (of_decide_eq_true t).2.2
  rw [List.length_map] at t
  refine ⟨t, ?_⟩
  unfold Nd.outDep
  rw [if_pos h]
  cases hi : x.inner with
  | nil => rw [hi] at t; simp at t
  | cons y l => unfold Nm.v; simp [hi]; rfl

theorem turns_at {i o d : Int} {A : Option Addr} {n c : Nat} {b : Bool} (w : World) (h : Hid (turnsI i o n = b)) : Calls Try.prog 44 #[.agg #[.int .i64 i, .int .i64 o, .int .i64 d, .slice A n c]] w fun e w' => e = .returned (.bool b) ∧ Ext w w' := by
  have := turns_any i o d A n c w
  rw [h.out] at this
  exact this
set_option maxRecDepth 100000 in
set_option maxHeartbeats 4000000 in
theorem depth_any (NA : Option Addr) (Nc : Nat) (nodes : List Nm) (EA : Option Addr) (Ec : Nat) (edges : List (Pt × Pt)) (pn : Int) (po : Bool) (pp : Int) (nl el : Nat) (w : World) (hl : Hid (nl = nodes.length)) (hG : Hid (GmR w ⟨NA, Nc, nodes, EA, Ec, edges⟩)) (hN : Hid (∀ x ∈ nodes, nodeT x.v = true)) :
    Calls Try.prog 32 #[.agg #[.slice NA nl Nc, .slice EA el Ec], .agg #[.int .i64 pn, .bool po, .int .i64 pp]] w (DepOut (Gm.v ⟨NA, Nc, nodes, EA, Ec, edges⟩) ⟨pn, po, pp⟩ w) := by
  obtain ⟨g, hg⟩ : ∃ g : Gm, g = ⟨NA, Nc, nodes, EA, Ec, edges⟩ := ⟨_, rfl⟩
  have x2 : Ext w ((w.alloc (Obj.cells #[.slice NA nl Nc, .slice EA el Ec] 25)).alloc (Obj.cells #[.int .i64 pn, .bool po, .int .i64 pp] 27)) := ((Ext.refl w).alloc _).alloc _
  have hlo := hl.out
  by_cases h1 : pn < 0
  · go_enter Try.func32, Try.ntmps32
    go_wp2
    go_returns
    exact DepOut.none (dep_off (.inl h1)) (by have e1 := Ext.refl w; (repeat' (first | with_reducible exact e1 | with_reducible refine Ext.drew ?_ | with_reducible refine Ext.drewN ?_ _ | with_reducible refine Ext.alloc ?_ _ | with_reducible refine Ext.set ?_ ?_ _ | omega | (simp; done) | (simp; omega))))
  by_cases h2 : (nl : Int) ≤ pn
  · go_enter Try.func32, Try.ntmps32
    clear hlo
    go_wp2
    go_returns
    exact DepOut.none (dep_off (.inr (.inl (by rw [hl.out] at h2; exact h2)))) (by have e1 := Ext.refl w; (repeat' (first | with_reducible exact e1 | with_reducible refine Ext.drew ?_ | with_reducible refine Ext.drewN ?_ _ | with_reducible refine Ext.alloc ?_ _ | with_reducible refine Ext.set ?_ ?_ _ | omega | (simp; done) | (simp; omega))))
  by_cases h3 : pp < 0
  · go_enter Try.func32, Try.ntmps32
    clear hlo
    go_wp2
    go_returns
    exact DepOut.none (dep_off (.inr (.inr h3))) (by have e1 := Ext.refl w; (repeat' (first | with_reducible exact e1 | with_reducible refine Ext.drew ?_ | with_reducible refine Ext.drewN ?_ _ | with_reducible refine Ext.alloc ?_ _ | with_reducible refine Ext.set ?_ ?_ _ | omega | (simp; done) | (simp; omega))))
  obtain ⟨i, rfl⟩ : ∃ i : Nat, pn = i := ⟨pn.toNat, by omega⟩
  have hi : i < nodes.length := by omega
  have hd := Lib.hid (dep_in (g := ⟨NA, Nc, nodes, EA, Ec, edges⟩) (o := po) hi (show 0 ≤ pp by omega))
  obtain ⟨ad, hA, q0, q1, q2, q3⟩ := (hG.out.ext x2).nat hi
  have hx := Lib.hid (hN.out _ (getD_mem' Nm.zero hi))
  have hR := Lib.hid (hG.out.nd _ (getD_mem' Nm.zero hi))
  obtain ⟨x, hxx⟩ : ∃ x, nodes.getD i Nm.zero = x := ⟨_, rfl⟩
  simp only at hd q0 q1 q2 q3 hx hR hA
  rw [hxx] at hd q0 q1 q2 q3 hx hR
  clear hxx hlo
  subst hA
  cases po with
  | false =>
    go_enter Try.func32, Try.ntmps32
    go_wp2
    go_quiet (fail)
    go_wp2
    go_returns
    exact DepOut.some (by rw [hd.out]; simp) (by
      have e1 := Ext.refl w
      (repeat' (first | with_reducible exact e1 | with_reducible refine Ext.drew ?_ | with_reducible refine Ext.drewN ?_ _ | with_reducible refine Ext.alloc ?_ _ | with_reducible refine Ext.set ?_ ?_ _ | omega | (simp; done) | (simp; omega))))
  | true =>
    cases ht : x.v.turns with
    | false =>
      have ct := fun W => turns_at (d := x.depth) (A := x.A) (c := x.c) W (Lib.hid ((turnsI_eq x).trans ht))
      have ho : x.v.outDep = x.depth := by unfold Nd.outDep; rw [if_neg (by rw [ht]; simp)]; rfl
      have HO := Lib.hid ho
      clear ho ht
      go_enter Try.func32, Try.ntmps32
      go_wp2_with (go_at_call 44; refine (ct _).mono ?_; rintro r w1 ⟨rfl, x1⟩; have HX := Lib.hid x1; have u0 : w1.cell? ⟨w.heap.size + 1 + 1, 0, none⟩ = some (.int .i64 x.ins) := x1.cell (by go_simp); have u1 : w1.cell? ⟨w.heap.size + 1 + 1, 1, none⟩ = some (.int .i64 x.outs) := x1.cell (by go_simp); have u2 : w1.cell? ⟨w.heap.size + 1 + 1, 2, none⟩ = some (.int .i64 x.depth) := x1.cell (by go_simp); have u3 : w1.cell? ⟨w.heap.size + 1, 2, none⟩ = some (.int .i64 pp) := x1.cell (by go_simp); clear x1)
      go_quiet (fail)
      go_wp2
      go_returns
      exact DepOut.some (by rw [hd.out, HO.out]; simp) (by
        have e1 := Ext.refl w
        have e2 : Ext w _ := Ext.trans (by (repeat' (first | with_reducible exact e1 | with_reducible refine Ext.drew ?_ | with_reducible refine Ext.drewN ?_ _ | with_reducible refine Ext.alloc ?_ _ | with_reducible refine Ext.set ?_ ?_ _ | omega | (simp; done) | (simp; omega)))) HX.out
        (repeat' (first | with_reducible exact e2 | with_reducible refine Ext.drew ?_ | with_reducible refine Ext.drewN ?_ _ | with_reducible refine Ext.alloc ?_ _ | with_reducible refine Ext.set ?_ ?_ _ | omega | (simp; done) | (simp; omega))))
    | true =>
      obtain ⟨xi, xo, xd, xA, xc, xl⟩ := x
      obtain ⟨hl1, ho⟩ := inner_head ht
      obtain ⟨y, rfl⟩ : ∃ y, xl = [y] := List.length_eq_one_iff.1 hl1
      have ct := fun W => turns_at (d := xd) (A := xA) (c := xc) W (Lib.hid ((turnsI_eq ⟨xi, xo, xd, xA, xc, [y]⟩).trans ht))
      obtain ⟨a2, hA2, r0, r1, r2, r3, r4⟩ := (hR.out.ext x2).at (i := 0) (by simp)
      simp only at hA2
      subst hA2
      simp only [List.getD_cons_zero, Nat.zero_mul] at r0 r1 r2 r3 r4 ho
      simp only [List.length_singleton] at q3 ct
      have hz : a2.add 0 = a2 := by unfold Addr.add; simp
      rw [hz] at r2 r3 r4
      have HM : Hid (0 ≤ y.p.w.leave ∧ y.p.w.leave ≤ xd ∧ xd ≤ 3 ∧ madeT xd y.p.w ≤ 3) := by
        have := hx.out
        unfold nodeT at this
        simp only [Bool.and_eq_true, decide_eq_true_eq, List.all_eq_true] at this
        have h2 := this.2 y.v (by unfold Nm.v; simp)
        unfold innT at h2
        have h2 := of_decide_eq_true h2
        exact Lib.hid ⟨h2.2.2.2.2.1, h2.2.2.2.2.2.1, this.1.2.1, h2.2.2.2.2.2.2.2.1⟩
      have HO := Lib.hid ho
      clear ho ht hl1
      obtain ⟨yi, yo, yA, yc, yL, ya, ye⟩ := y
      obtain ⟨ne, hne⟩ : ∃ ne, ye.length = ne := ⟨_, rfl⟩
      simp only at r2 r3 r4
      rw [hne] at r4
      have HNE := Lib.hid hne
      clear hne
      go_enter Try.func32, Try.ntmps32
      go_wp2_with (go_at_call 44; refine (ct _).mono ?_; rintro r w1 ⟨rfl, x1⟩; have HX := Lib.hid x1; have u1 : w1.cell? ⟨w.heap.size + 1 + 1, 1, none⟩ = some (.int .i64 xo) := x1.cell (by go_simp); have u2 : w1.cell? ⟨w.heap.size + 1 + 1, 2, none⟩ = some (.int .i64 xd) := x1.cell (by go_simp); have u3 : w1.cell? ⟨w.heap.size + 1, 2, none⟩ = some (.int .i64 pp) := x1.cell (by go_simp); have u4 : w1.cell? ⟨w.heap.size + 1 + 1, 3, none⟩ = some (.slice (some a2) 1 xc) := x1.cell (by go_simp); have XX : Ext (((w.alloc (Obj.cells #[.slice (some ad) nl Nc, .slice EA el Ec] 25)).alloc (Obj.cells #[.int .i64 i, .bool true, .int .i64 pp] 27))) w1 := Ext.trans (by have e1 := Ext.refl ((w.alloc (Obj.cells #[.slice (some ad) nl Nc, .slice EA el Ec] 25)).alloc (Obj.cells #[.int .i64 i, .bool true, .int .i64 pp] 27)); (repeat' (first | with_reducible exact e1 | with_reducible refine Ext.drew ?_ | with_reducible refine Ext.drewN ?_ _ | with_reducible refine Ext.alloc ?_ _ | with_reducible refine Ext.set ?_ ?_ _ | omega | (simp; done) | (simp; omega)))) x1; have v2 := XX.cell r2; have v3 := XX.cell r3; have v4 := XX.cell r4; clear x1)
      have f1 : ∀ y : Xt w1, y.W.cell? ⟨w.heap.size + 1 + 1, 1, none⟩ = some (.int .i64 xo) := fun y => y.x.cell u1
      have f2 : ∀ y : Xt w1, y.W.cell? ⟨w.heap.size + 1 + 1, 2, none⟩ = some (.int .i64 xd) := fun y => y.x.cell u2
      have f3 : ∀ y : Xt w1, y.W.cell? ⟨w.heap.size + 1, 2, none⟩ = some (.int .i64 pp) := fun y => y.x.cell u3
      have f4 : ∀ y : Xt w1, y.W.cell? ⟨w.heap.size + 1 + 1, 3, none⟩ = some (.slice (some a2) 1 xc) := fun y => y.x.cell u4
      have g2 := fun y : Xt w1 => y.x.cell v2
      have g3 := fun y : Xt w1 => y.x.cell v3
      have g4 := fun y : Xt w1 => y.x.cell v4
      (refine wp_region_ext (by kernel_rfl) (by kernel_rfl) ?_; (repeat (go_big_quiet_step ((go_at_call 43; exact call_ext (made_any _ _ _ _ _ _ _))))); refine wpQuiet_nil ?_; rintro _ ⟨y, rfl⟩)
      go_wp2
      go_returns
      exact DepOut.some (by
        have h : 0 ≤ yL ∧ yL ≤ xd ∧ xd ≤ 3 ∧ xd - yL + ye.length ≤ 3 := HM.out
        rw [hd.out, HO.out, ← madeI_eq (w := ⟨yL, ya, ye⟩) (by show 0 ≤ yL ∧ yL ≤ 1000; omega) (by omega) (by show ye.length ≤ 1000000; omega)]
        simp [HNE.out]) (by
        have e1 := Ext.refl w
        have e2 : Ext w _ := Ext.trans (by (repeat' (first | with_reducible exact e1 | with_reducible refine Ext.drew ?_ | with_reducible refine Ext.drewN ?_ _ | with_reducible refine Ext.alloc ?_ _ | with_reducible refine Ext.set ?_ ?_ _ | omega | (simp; done) | (simp; omega)))) HX.out
        exact e2.trans y.x)
end Go.Proofs.Yteklohamkmiphaa
namespace Go.Proofs.Yteklohamkmiphaa
open Go.RowKit

set_option maxRecDepth 100000 in
set_option maxHeartbeats 400000 in
theorem within_any (x m : Int) (w : World) : Calls Try.prog 40 #[.int .i64 x, .int .i64 m] w fun e w' => e = .returned (.bool (decide (0 ≤ x ∧ x ≤ m))) ∧ w = w' := by
  go_enter Try.func40, Try.ntmps40
  by_cases h1 : x ≥ 0
  · by_cases h2 : x ≤ m
    · go_wp2
      go_ret
      exact ⟨by simp [h2, show 0 ≤ x from h1], rfl⟩
    · go_wp2
      go_ret
      exact ⟨by simp [h2], rfl⟩
  · go_wp2
    go_ret
    exact ⟨by simp [show ¬ 0 ≤ x by omega], rfl⟩
theorem made_at {d L a M : Int} {A : Option Addr} {n c : Nat} (w : World) (h : Hid (madeI d L n = M)) : Calls Try.prog 43 #[.int .i64 d, .agg #[.int .i64 L, .int .u32 a, .slice A n c]] w fun e w' => e = .returned (.int .i64 M) ∧ Ext w w' := by
  have := made_any d L a A n c w
  rw [h.out] at this
  exact this
theorem within_at {x m : Int} {b : Bool} (w : World) (h : Hid (decide (0 ≤ x ∧ x ≤ m) = b)) : Calls Try.prog 40 #[.int .i64 x, .int .i64 m] w fun e w' => e = .returned (.bool b) ∧ w = w' := by
  have := within_any x m w
  rw [h.out] at this
  exact this

/-- what the last test of an inner way sees -/
structure InnW (w : World) (ins outs depth : Int) (A : Option Addr) (n c b1 b2 : Nat) : Prop where
  c0 : w.cell? ⟨b1, 0, none⟩ = some (.int .i64 ins)
  c1 : w.cell? ⟨b1, 1, none⟩ = some (.int .i64 outs)
  c2 : w.cell? ⟨b1, 2, none⟩ = some (.int .i64 depth)
  c3 : w.cell? ⟨b1, 3, none⟩ = some (.slice A n c)
  f : w.cell? ⟨b2, 0, none⟩ = some (.func (.func 40) #[] #[])
theorem InnW.ext {w w' : World} {ins outs depth : Int} {A : Option Addr} {n c b1 b2 : Nat} (h : InnW w ins outs depth A n c b1 b2) (x : Ext w w') : InnW w' ins outs depth A n c b1 b2 := ⟨x.cell h.c0, x.cell h.c1, x.cell h.c2, x.cell h.c3, x.cell h.f⟩

set_option maxRecDepth 100000 in
set_option maxHeartbeats 4000000 in
theorem inn_any (ins outs depth : Int) (A : Option Addr) (n c g1 g2 : Nat) (i o L a : Int) (B : Option Addr) (m d : Nat) (w : World) (h : Hid (InnW w ins outs depth A n c g1 g2)) (hi : 0 ≤ ins ∧ ins ≤ 8) (ho : 0 ≤ outs ∧ outs ≤ 8) (hd : 0 ≤ depth ∧ depth ≤ 3) (ha : 0 ≤ a) :
    Calls Try.prog 42 #[.agg #[.int .i64 i, .int .i64 o, .int .i64 L, .int .u32 a, .slice B m d], .pointer (some ⟨g1, 0, none⟩), .pointer (some ⟨g2, 0, none⟩)] w fun e w' =>
      e = .returned (.bool (! decide (0 ≤ i ∧ i ≤ ins - 1) || ! decide (0 ≤ o ∧ o ≤ outs - 1) || ! decide (0 ≤ L ∧ L ≤ depth) || (decide (L = depth) && decide (0 < a)) || decide (3 < madeI depth L m) || (! turnsI ins outs n && decide (madeI depth L m ≠ depth)))) ∧ Ext w w' := by
  have i1 : IntKind.i64.wrap (ins - 1) = ins - 1 := IntWalk.i64_in _ (by omega)
  have o1 : IntKind.i64.wrap (outs - 1) = outs - 1 := IntWalk.i64_in _ (by omega)
  have HI := h
  have A0 := h.out.ext ((Ext.refl w).alloc (Obj.cells #[.int .i64 i, .int .i64 o, .int .i64 L, .int .u32 a, .slice B m d] 52))
  have q0 := A0.c0
  have q1 := A0.c1
  have q2 := A0.c2
  have q3 := A0.c3
  have qf := A0.f
  clear A0
  obtain ⟨M, hM⟩ : ∃ M, madeI depth L m = M := ⟨_, rfl⟩
  rw [hM]
  have HM := Lib.hid hM
  clear hM
  obtain ⟨T, hT⟩ : ∃ T, turnsI ins outs n = T := ⟨_, rfl⟩
  rw [hT]
  have HTT := Lib.hid hT
  clear hT
  -- LEAVES
  by_cases h1 : 0 ≤ i ∧ i ≤ ins - 1
  rotate_left
  · have b1 := decide_eq_false h1
    have B1 : Hid (decide (0 ≤ i ∧ i ≤ ins - 1) = false) := Lib.hid b1
    have e : (! decide (0 ≤ i ∧ i ≤ ins - 1) || ! decide (0 ≤ o ∧ o ≤ outs - 1) || ! decide (0 ≤ L ∧ L ≤ depth) || (decide (L = depth) && decide (0 < a)) || decide (3 < M) || (! T && decide (M ≠ depth))) = true := by rw [b1]; simp
    rw [e]
    clear e
    go_enter Try.func42, Try.ntmps42
    go_wp2_with (first | (go_at_call 43; refine (made_at _ HM).mono ?_; rintro r w1 ⟨rfl, x1⟩; have XX : Ext w w1 := Ext.trans ((Ext.refl w).alloc _) x1; have K := HI.out.ext XX; have k0 := K.c0; have k1 := K.c1; have k2 := K.c2; have k3 := K.c3; have kf := K.f; have y0 : w1.cell? ⟨w.heap.size, 0, none⟩ = some (.int .i64 i) := x1.cell (by go_simp); have y1 : w1.cell? ⟨w.heap.size, 1, none⟩ = some (.int .i64 o) := x1.cell (by go_simp); have y2 : w1.cell? ⟨w.heap.size, 2, none⟩ = some (.int .i64 L) := x1.cell (by go_simp); have y3 : w1.cell? ⟨w.heap.size, 3, none⟩ = some (.int .u32 a) := x1.cell (by go_simp); clear K x1; have HX := Lib.hid XX; clear XX) | (go_at_call 40; (first | (with_reducible refine (within_at _ B1).mono ?_)); rintro e w' ⟨rfl, rfl⟩))
    go_returns
    exact ⟨rfl, by have e1 := HX.out; (repeat' (first | with_reducible exact e1 | with_reducible refine Ext.drew ?_ | with_reducible refine Ext.drewN ?_ _ | with_reducible refine Ext.alloc ?_ _ | with_reducible refine Ext.set ?_ ?_ _ | omega | (simp; done) | (simp; omega)))⟩
  have b1 := decide_eq_true h1
  have B1 : Hid (decide (0 ≤ i ∧ i ≤ ins - 1) = true) := Lib.hid b1
  by_cases h2 : 0 ≤ o ∧ o ≤ outs - 1
  rotate_left
  · have b2 := decide_eq_false h2
    have B2 : Hid (decide (0 ≤ o ∧ o ≤ outs - 1) = false) := Lib.hid b2
    have e : (! decide (0 ≤ i ∧ i ≤ ins - 1) || ! decide (0 ≤ o ∧ o ≤ outs - 1) || ! decide (0 ≤ L ∧ L ≤ depth) || (decide (L = depth) && decide (0 < a)) || decide (3 < M) || (! T && decide (M ≠ depth))) = true := by rw [b1, b2]; simp
    rw [e]
    clear e
    go_enter Try.func42, Try.ntmps42
    go_wp2_with (first | (go_at_call 43; refine (made_at _ HM).mono ?_; rintro r w1 ⟨rfl, x1⟩; have XX : Ext w w1 := Ext.trans ((Ext.refl w).alloc _) x1; have K := HI.out.ext XX; have k0 := K.c0; have k1 := K.c1; have k2 := K.c2; have k3 := K.c3; have kf := K.f; have y0 : w1.cell? ⟨w.heap.size, 0, none⟩ = some (.int .i64 i) := x1.cell (by go_simp); have y1 : w1.cell? ⟨w.heap.size, 1, none⟩ = some (.int .i64 o) := x1.cell (by go_simp); have y2 : w1.cell? ⟨w.heap.size, 2, none⟩ = some (.int .i64 L) := x1.cell (by go_simp); have y3 : w1.cell? ⟨w.heap.size, 3, none⟩ = some (.int .u32 a) := x1.cell (by go_simp); clear K x1; have HX := Lib.hid XX; clear XX) | (go_at_call 40; (first | (with_reducible refine (within_at _ B1).mono ?_) | (with_reducible refine (within_at _ B2).mono ?_)); rintro e w' ⟨rfl, rfl⟩))
    go_returns
    exact ⟨rfl, by have e1 := HX.out; (repeat' (first | with_reducible exact e1 | with_reducible refine Ext.drew ?_ | with_reducible refine Ext.drewN ?_ _ | with_reducible refine Ext.alloc ?_ _ | with_reducible refine Ext.set ?_ ?_ _ | omega | (simp; done) | (simp; omega)))⟩
  have b2 := decide_eq_true h2
  have B2 : Hid (decide (0 ≤ o ∧ o ≤ outs - 1) = true) := Lib.hid b2
  by_cases h3 : 0 ≤ L ∧ L ≤ depth
  rotate_left
  · have b3 := decide_eq_false h3
    have B3 : Hid (decide (0 ≤ L ∧ L ≤ depth) = false) := Lib.hid b3
    have e : (! decide (0 ≤ i ∧ i ≤ ins - 1) || ! decide (0 ≤ o ∧ o ≤ outs - 1) || ! decide (0 ≤ L ∧ L ≤ depth) || (decide (L = depth) && decide (0 < a)) || decide (3 < M) || (! T && decide (M ≠ depth))) = true := by rw [b1, b2, b3]; simp
    rw [e]
    clear e
    go_enter Try.func42, Try.ntmps42
    go_wp2_with (first | (go_at_call 43; refine (made_at _ HM).mono ?_; rintro r w1 ⟨rfl, x1⟩; have XX : Ext w w1 := Ext.trans ((Ext.refl w).alloc _) x1; have K := HI.out.ext XX; have k0 := K.c0; have k1 := K.c1; have k2 := K.c2; have k3 := K.c3; have kf := K.f; have y0 : w1.cell? ⟨w.heap.size, 0, none⟩ = some (.int .i64 i) := x1.cell (by go_simp); have y1 : w1.cell? ⟨w.heap.size, 1, none⟩ = some (.int .i64 o) := x1.cell (by go_simp); have y2 : w1.cell? ⟨w.heap.size, 2, none⟩ = some (.int .i64 L) := x1.cell (by go_simp); have y3 : w1.cell? ⟨w.heap.size, 3, none⟩ = some (.int .u32 a) := x1.cell (by go_simp); clear K x1; have HX := Lib.hid XX; clear XX) | (go_at_call 40; (first | (with_reducible refine (within_at _ B1).mono ?_) | (with_reducible refine (within_at _ B2).mono ?_) | (with_reducible refine (within_at _ B3).mono ?_)); rintro e w' ⟨rfl, rfl⟩))
    go_returns
    exact ⟨rfl, by have e1 := HX.out; (repeat' (first | with_reducible exact e1 | with_reducible refine Ext.drew ?_ | with_reducible refine Ext.drewN ?_ _ | with_reducible refine Ext.alloc ?_ _ | with_reducible refine Ext.set ?_ ?_ _ | omega | (simp; done) | (simp; omega)))⟩
  have b3 := decide_eq_true h3
  have B3 : Hid (decide (0 ≤ L ∧ L ≤ depth) = true) := Lib.hid b3
  clear h1 h2 h3
  have key : ∀ eq : Bool, (decide (L = depth) && decide (0 < a)) = false → decide (L = depth) = eq → True := fun _ _ _ => trivial
  clear key
  by_cases h4 : L = depth
  · have b4 : (L == depth) = true := by simp [h4]
    have b9 := decide_eq_true h4
    by_cases h6 : 0 < a
    · have b6 := decide_eq_true h6
      have e : (! decide (0 ≤ i ∧ i ≤ ins - 1) || ! decide (0 ≤ o ∧ o ≤ outs - 1) || ! decide (0 ≤ L ∧ L ≤ depth) || (decide (L = depth) && decide (0 < a)) || decide (3 < M) || (! T && decide (M ≠ depth))) = true := by rw [b1, b2, b3, b9, b6]; simp
      rw [e]
      clear e h4 b9
      go_enter Try.func42, Try.ntmps42
      go_wp2_with (first | (go_at_call 43; refine (made_at _ HM).mono ?_; rintro r w1 ⟨rfl, x1⟩; have XX : Ext w w1 := Ext.trans ((Ext.refl w).alloc _) x1; have K := HI.out.ext XX; have k0 := K.c0; have k1 := K.c1; have k2 := K.c2; have k3 := K.c3; have kf := K.f; have y0 : w1.cell? ⟨w.heap.size, 0, none⟩ = some (.int .i64 i) := x1.cell (by go_simp); have y1 : w1.cell? ⟨w.heap.size, 1, none⟩ = some (.int .i64 o) := x1.cell (by go_simp); have y2 : w1.cell? ⟨w.heap.size, 2, none⟩ = some (.int .i64 L) := x1.cell (by go_simp); have y3 : w1.cell? ⟨w.heap.size, 3, none⟩ = some (.int .u32 a) := x1.cell (by go_simp); clear K x1; have HX := Lib.hid XX; clear XX) | (go_at_call 40; (first | (with_reducible refine (within_at _ B1).mono ?_) | (with_reducible refine (within_at _ B2).mono ?_) | (with_reducible refine (within_at _ B3).mono ?_)); rintro e w' ⟨rfl, rfl⟩))
      go_returns
      exact ⟨rfl, by have e1 := HX.out; (repeat' (first | with_reducible exact e1 | with_reducible refine Ext.drew ?_ | with_reducible refine Ext.drewN ?_ _ | with_reducible refine Ext.alloc ?_ _ | with_reducible refine Ext.set ?_ ?_ _ | omega | (simp; done) | (simp; omega)))⟩
    have b6 := decide_eq_false h6
    by_cases h5 : 3 < M
    · have b5 := decide_eq_true h5
      have e : (! decide (0 ≤ i ∧ i ≤ ins - 1) || ! decide (0 ≤ o ∧ o ≤ outs - 1) || ! decide (0 ≤ L ∧ L ≤ depth) || (decide (L = depth) && decide (0 < a)) || decide (3 < M) || (! T && decide (M ≠ depth))) = true := by rw [b1, b2, b3, b9, b6, b5]; simp
      rw [e]
      clear e h4 b9
      go_enter Try.func42, Try.ntmps42
      go_wp2_with (first | (go_at_call 43; refine (made_at _ HM).mono ?_; rintro r w1 ⟨rfl, x1⟩; have XX : Ext w w1 := Ext.trans ((Ext.refl w).alloc _) x1; have K := HI.out.ext XX; have k0 := K.c0; have k1 := K.c1; have k2 := K.c2; have k3 := K.c3; have kf := K.f; have y0 : w1.cell? ⟨w.heap.size, 0, none⟩ = some (.int .i64 i) := x1.cell (by go_simp); have y1 : w1.cell? ⟨w.heap.size, 1, none⟩ = some (.int .i64 o) := x1.cell (by go_simp); have y2 : w1.cell? ⟨w.heap.size, 2, none⟩ = some (.int .i64 L) := x1.cell (by go_simp); have y3 : w1.cell? ⟨w.heap.size, 3, none⟩ = some (.int .u32 a) := x1.cell (by go_simp); clear K x1; have HX := Lib.hid XX; clear XX) | (go_at_call 40; (first | (with_reducible refine (within_at _ B1).mono ?_) | (with_reducible refine (within_at _ B2).mono ?_) | (with_reducible refine (within_at _ B3).mono ?_)); rintro e w' ⟨rfl, rfl⟩))
      go_returns
      exact ⟨rfl, by have e1 := HX.out; (repeat' (first | with_reducible exact e1 | with_reducible refine Ext.drew ?_ | with_reducible refine Ext.drewN ?_ _ | with_reducible refine Ext.alloc ?_ _ | with_reducible refine Ext.set ?_ ?_ _ | omega | (simp; done) | (simp; omega)))⟩
    have b5 := decide_eq_false h5
    rcases Bool.eq_false_or_eq_true T with ht | ht
    · have HT := Lib.hid (HTT.out.trans ht)
      have e : (! decide (0 ≤ i ∧ i ≤ ins - 1) || ! decide (0 ≤ o ∧ o ≤ outs - 1) || ! decide (0 ≤ L ∧ L ≤ depth) || (decide (L = depth) && decide (0 < a)) || decide (3 < M) || (! T && decide (M ≠ depth))) = false := by rw [b1, b2, b3, b9, b6, b5, ht]; simp
      rw [e]
      clear e h4 b9
      go_enter Try.func42, Try.ntmps42
      go_wp2_with (first | (go_at_call 43; refine (made_at _ HM).mono ?_; rintro r w1 ⟨rfl, x1⟩; have XX : Ext w w1 := Ext.trans ((Ext.refl w).alloc _) x1; have K := HI.out.ext XX; have k0 := K.c0; have k1 := K.c1; have k2 := K.c2; have k3 := K.c3; have kf := K.f; have y0 : w1.cell? ⟨w.heap.size, 0, none⟩ = some (.int .i64 i) := x1.cell (by go_simp); have y1 : w1.cell? ⟨w.heap.size, 1, none⟩ = some (.int .i64 o) := x1.cell (by go_simp); have y2 : w1.cell? ⟨w.heap.size, 2, none⟩ = some (.int .i64 L) := x1.cell (by go_simp); have y3 : w1.cell? ⟨w.heap.size, 3, none⟩ = some (.int .u32 a) := x1.cell (by go_simp); clear K x1; have HX := Lib.hid XX; clear XX) | (go_at_call 40; (first | (with_reducible refine (within_at _ B1).mono ?_) | (with_reducible refine (within_at _ B2).mono ?_) | (with_reducible refine (within_at _ B3).mono ?_)); rintro e w' ⟨rfl, rfl⟩) | (go_at_call 44; refine (turns_at _ HT).mono ?_; rintro r w2 ⟨rfl, x2⟩; have XX : Ext w w2 := HX.out.trans x2; have K := HI.out.ext XX; have z2 := K.c2; clear K; have HY := Lib.hid XX; clear XX x2))
      go_returns
      exact ⟨rfl, by have e1 := HY.out; (repeat' (first | with_reducible exact e1 | with_reducible refine Ext.drew ?_ | with_reducible refine Ext.drewN ?_ _ | with_reducible refine Ext.alloc ?_ _ | with_reducible refine Ext.set ?_ ?_ _ | omega | (simp; done) | (simp; omega)))⟩
    · have HT := Lib.hid (HTT.out.trans ht)
      by_cases h7 : M = depth
      · have b7 : (M != depth) = false := by simp [h7]
        have b8 : decide (M ≠ depth) = false := decide_eq_false (fun q => q h7)
        have e : (! decide (0 ≤ i ∧ i ≤ ins - 1) || ! decide (0 ≤ o ∧ o ≤ outs - 1) || ! decide (0 ≤ L ∧ L ≤ depth) || (decide (L = depth) && decide (0 < a)) || decide (3 < M) || (! T && decide (M ≠ depth))) = false := by rw [b1, b2, b3, b9, b6, b5, ht, b8]; simp
        rw [e]
        clear e h4 b9 h7 b8
        go_enter Try.func42, Try.ntmps42
        go_wp2_with (first | (go_at_call 43; refine (made_at _ HM).mono ?_; rintro r w1 ⟨rfl, x1⟩; have XX : Ext w w1 := Ext.trans ((Ext.refl w).alloc _) x1; have K := HI.out.ext XX; have k0 := K.c0; have k1 := K.c1; have k2 := K.c2; have k3 := K.c3; have kf := K.f; have y0 : w1.cell? ⟨w.heap.size, 0, none⟩ = some (.int .i64 i) := x1.cell (by go_simp); have y1 : w1.cell? ⟨w.heap.size, 1, none⟩ = some (.int .i64 o) := x1.cell (by go_simp); have y2 : w1.cell? ⟨w.heap.size, 2, none⟩ = some (.int .i64 L) := x1.cell (by go_simp); have y3 : w1.cell? ⟨w.heap.size, 3, none⟩ = some (.int .u32 a) := x1.cell (by go_simp); clear K x1; have HX := Lib.hid XX; clear XX) | (go_at_call 40; (first | (with_reducible refine (within_at _ B1).mono ?_) | (with_reducible refine (within_at _ B2).mono ?_) | (with_reducible refine (within_at _ B3).mono ?_)); rintro e w' ⟨rfl, rfl⟩) | (go_at_call 44; refine (turns_at _ HT).mono ?_; rintro r w2 ⟨rfl, x2⟩; have XX : Ext w w2 := HX.out.trans x2; have K := HI.out.ext XX; have z2 := K.c2; clear K; have HY := Lib.hid XX; clear XX x2))
        go_returns
        exact ⟨rfl, by have e1 := HY.out; (repeat' (first | with_reducible exact e1 | with_reducible refine Ext.drew ?_ | with_reducible refine Ext.drewN ?_ _ | with_reducible refine Ext.alloc ?_ _ | with_reducible refine Ext.set ?_ ?_ _ | omega | (simp; done) | (simp; omega)))⟩
      · have b7 : (M != depth) = true := by simp [h7]
        have b8 : decide (M ≠ depth) = true := decide_eq_true h7
        have e : (! decide (0 ≤ i ∧ i ≤ ins - 1) || ! decide (0 ≤ o ∧ o ≤ outs - 1) || ! decide (0 ≤ L ∧ L ≤ depth) || (decide (L = depth) && decide (0 < a)) || decide (3 < M) || (! T && decide (M ≠ depth))) = true := by rw [b1, b2, b3, b9, b6, b5, ht, b8]; simp
        rw [e]
        clear e h4 b9 h7 b8
        go_enter Try.func42, Try.ntmps42
        go_wp2_with (first | (go_at_call 43; refine (made_at _ HM).mono ?_; rintro r w1 ⟨rfl, x1⟩; have XX : Ext w w1 := Ext.trans ((Ext.refl w).alloc _) x1; have K := HI.out.ext XX; have k0 := K.c0; have k1 := K.c1; have k2 := K.c2; have k3 := K.c3; have kf := K.f; have y0 : w1.cell? ⟨w.heap.size, 0, none⟩ = some (.int .i64 i) := x1.cell (by go_simp); have y1 : w1.cell? ⟨w.heap.size, 1, none⟩ = some (.int .i64 o) := x1.cell (by go_simp); have y2 : w1.cell? ⟨w.heap.size, 2, none⟩ = some (.int .i64 L) := x1.cell (by go_simp); have y3 : w1.cell? ⟨w.heap.size, 3, none⟩ = some (.int .u32 a) := x1.cell (by go_simp); clear K x1; have HX := Lib.hid XX; clear XX) | (go_at_call 40; (first | (with_reducible refine (within_at _ B1).mono ?_) | (with_reducible refine (within_at _ B2).mono ?_) | (with_reducible refine (within_at _ B3).mono ?_)); rintro e w' ⟨rfl, rfl⟩) | (go_at_call 44; refine (turns_at _ HT).mono ?_; rintro r w2 ⟨rfl, x2⟩; have XX : Ext w w2 := HX.out.trans x2; have K := HI.out.ext XX; have z2 := K.c2; clear K; have HY := Lib.hid XX; clear XX x2))
        go_returns
        exact ⟨rfl, by have e1 := HY.out; (repeat' (first | with_reducible exact e1 | with_reducible refine Ext.drew ?_ | with_reducible refine Ext.drewN ?_ _ | with_reducible refine Ext.alloc ?_ _ | with_reducible refine Ext.set ?_ ?_ _ | omega | (simp; done) | (simp; omega)))⟩
  · have b4 : (L == depth) = false := by simp [h4]
    have b9 := decide_eq_false h4
    by_cases h5 : 3 < M
    · have b5 := decide_eq_true h5
      have e : (! decide (0 ≤ i ∧ i ≤ ins - 1) || ! decide (0 ≤ o ∧ o ≤ outs - 1) || ! decide (0 ≤ L ∧ L ≤ depth) || (decide (L = depth) && decide (0 < a)) || decide (3 < M) || (! T && decide (M ≠ depth))) = true := by rw [b1, b2, b3, b9, b5]; simp
      rw [e]
      clear e h4 b9
      go_enter Try.func42, Try.ntmps42
      go_wp2_with (first | (go_at_call 43; refine (made_at _ HM).mono ?_; rintro r w1 ⟨rfl, x1⟩; have XX : Ext w w1 := Ext.trans ((Ext.refl w).alloc _) x1; have K := HI.out.ext XX; have k0 := K.c0; have k1 := K.c1; have k2 := K.c2; have k3 := K.c3; have kf := K.f; have y0 : w1.cell? ⟨w.heap.size, 0, none⟩ = some (.int .i64 i) := x1.cell (by go_simp); have y1 : w1.cell? ⟨w.heap.size, 1, none⟩ = some (.int .i64 o) := x1.cell (by go_simp); have y2 : w1.cell? ⟨w.heap.size, 2, none⟩ = some (.int .i64 L) := x1.cell (by go_simp); have y3 : w1.cell? ⟨w.heap.size, 3, none⟩ = some (.int .u32 a) := x1.cell (by go_simp); clear K x1; have HX := Lib.hid XX; clear XX) | (go_at_call 40; (first | (with_reducible refine (within_at _ B1).mono ?_) | (with_reducible refine (within_at _ B2).mono ?_) | (with_reducible refine (within_at _ B3).mono ?_)); rintro e w' ⟨rfl, rfl⟩))
      go_returns
      exact ⟨rfl, by have e1 := HX.out; (repeat' (first | with_reducible exact e1 | with_reducible refine Ext.drew ?_ | with_reducible refine Ext.drewN ?_ _ | with_reducible refine Ext.alloc ?_ _ | with_reducible refine Ext.set ?_ ?_ _ | omega | (simp; done) | (simp; omega)))⟩
    have b5 := decide_eq_false h5
    rcases Bool.eq_false_or_eq_true T with ht | ht
    · have HT := Lib.hid (HTT.out.trans ht)
      have e : (! decide (0 ≤ i ∧ i ≤ ins - 1) || ! decide (0 ≤ o ∧ o ≤ outs - 1) || ! decide (0 ≤ L ∧ L ≤ depth) || (decide (L = depth) && decide (0 < a)) || decide (3 < M) || (! T && decide (M ≠ depth))) = false := by rw [b1, b2, b3, b9, b5, ht]; simp
      rw [e]
      clear e h4 b9
      go_enter Try.func42, Try.ntmps42
      go_wp2_with (first | (go_at_call 43; refine (made_at _ HM).mono ?_; rintro r w1 ⟨rfl, x1⟩; have XX : Ext w w1 := Ext.trans ((Ext.refl w).alloc _) x1; have K := HI.out.ext XX; have k0 := K.c0; have k1 := K.c1; have k2 := K.c2; have k3 := K.c3; have kf := K.f; have y0 : w1.cell? ⟨w.heap.size, 0, none⟩ = some (.int .i64 i) := x1.cell (by go_simp); have y1 : w1.cell? ⟨w.heap.size, 1, none⟩ = some (.int .i64 o) := x1.cell (by go_simp); have y2 : w1.cell? ⟨w.heap.size, 2, none⟩ = some (.int .i64 L) := x1.cell (by go_simp); have y3 : w1.cell? ⟨w.heap.size, 3, none⟩ = some (.int .u32 a) := x1.cell (by go_simp); clear K x1; have HX := Lib.hid XX; clear XX) | (go_at_call 40; (first | (with_reducible refine (within_at _ B1).mono ?_) | (with_reducible refine (within_at _ B2).mono ?_) | (with_reducible refine (within_at _ B3).mono ?_)); rintro e w' ⟨rfl, rfl⟩) | (go_at_call 44; refine (turns_at _ HT).mono ?_; rintro r w2 ⟨rfl, x2⟩; have XX : Ext w w2 := HX.out.trans x2; have K := HI.out.ext XX; have z2 := K.c2; clear K; have HY := Lib.hid XX; clear XX x2))
      go_returns
      exact ⟨rfl, by have e1 := HY.out; (repeat' (first | with_reducible exact e1 | with_reducible refine Ext.drew ?_ | with_reducible refine Ext.drewN ?_ _ | with_reducible refine Ext.alloc ?_ _ | with_reducible refine Ext.set ?_ ?_ _ | omega | (simp; done) | (simp; omega)))⟩
    · have HT := Lib.hid (HTT.out.trans ht)
      by_cases h7 : M = depth
      · have b7 : (M != depth) = false := by simp [h7]
        have b8 : decide (M ≠ depth) = false := decide_eq_false (fun q => q h7)
        have e : (! decide (0 ≤ i ∧ i ≤ ins - 1) || ! decide (0 ≤ o ∧ o ≤ outs - 1) || ! decide (0 ≤ L ∧ L ≤ depth) || (decide (L = depth) && decide (0 < a)) || decide (3 < M) || (! T && decide (M ≠ depth))) = false := by rw [b1, b2, b3, b9, b5, ht, b8]; simp
        rw [e]
        clear e h4 b9 h7 b8
        go_enter Try.func42, Try.ntmps42
        go_wp2_with (first | (go_at_call 43; refine (made_at _ HM).mono ?_; rintro r w1 ⟨rfl, x1⟩; have XX : Ext w w1 := Ext.trans ((Ext.refl w).alloc _) x1; have K := HI.out.ext XX; have k0 := K.c0; have k1 := K.c1; have k2 := K.c2; have k3 := K.c3; have kf := K.f; have y0 : w1.cell? ⟨w.heap.size, 0, none⟩ = some (.int .i64 i) := x1.cell (by go_simp); have y1 : w1.cell? ⟨w.heap.size, 1, none⟩ = some (.int .i64 o) := x1.cell (by go_simp); have y2 : w1.cell? ⟨w.heap.size, 2, none⟩ = some (.int .i64 L) := x1.cell (by go_simp); have y3 : w1.cell? ⟨w.heap.size, 3, none⟩ = some (.int .u32 a) := x1.cell (by go_simp); clear K x1; have HX := Lib.hid XX; clear XX) | (go_at_call 40; (first | (with_reducible refine (within_at _ B1).mono ?_) | (with_reducible refine (within_at _ B2).mono ?_) | (with_reducible refine (within_at _ B3).mono ?_)); rintro e w' ⟨rfl, rfl⟩) | (go_at_call 44; refine (turns_at _ HT).mono ?_; rintro r w2 ⟨rfl, x2⟩; have XX : Ext w w2 := HX.out.trans x2; have K := HI.out.ext XX; have z2 := K.c2; clear K; have HY := Lib.hid XX; clear XX x2))
        go_returns
        exact ⟨rfl, by have e1 := HY.out; (repeat' (first | with_reducible exact e1 | with_reducible refine Ext.drew ?_ | with_reducible refine Ext.drewN ?_ _ | with_reducible refine Ext.alloc ?_ _ | with_reducible refine Ext.set ?_ ?_ _ | omega | (simp; done) | (simp; omega)))⟩
      · have b7 : (M != depth) = true := by simp [h7]
        have b8 : decide (M ≠ depth) = true := decide_eq_true h7
        have e : (! decide (0 ≤ i ∧ i ≤ ins - 1) || ! decide (0 ≤ o ∧ o ≤ outs - 1) || ! decide (0 ≤ L ∧ L ≤ depth) || (decide (L = depth) && decide (0 < a)) || decide (3 < M) || (! T && decide (M ≠ depth))) = true := by rw [b1, b2, b3, b9, b5, ht, b8]; simp
        rw [e]
        clear e h4 b9 h7 b8
        go_enter Try.func42, Try.ntmps42
        go_wp2_with (first | (go_at_call 43; refine (made_at _ HM).mono ?_; rintro r w1 ⟨rfl, x1⟩; have XX : Ext w w1 := Ext.trans ((Ext.refl w).alloc _) x1; have K := HI.out.ext XX; have k0 := K.c0; have k1 := K.c1; have k2 := K.c2; have k3 := K.c3; have kf := K.f; have y0 : w1.cell? ⟨w.heap.size, 0, none⟩ = some (.int .i64 i) := x1.cell (by go_simp); have y1 : w1.cell? ⟨w.heap.size, 1, none⟩ = some (.int .i64 o) := x1.cell (by go_simp); have y2 : w1.cell? ⟨w.heap.size, 2, none⟩ = some (.int .i64 L) := x1.cell (by go_simp); have y3 : w1.cell? ⟨w.heap.size, 3, none⟩ = some (.int .u32 a) := x1.cell (by go_simp); clear K x1; have HX := Lib.hid XX; clear XX) | (go_at_call 40; (first | (with_reducible refine (within_at _ B1).mono ?_) | (with_reducible refine (within_at _ B2).mono ?_) | (with_reducible refine (within_at _ B3).mono ?_)); rintro e w' ⟨rfl, rfl⟩) | (go_at_call 44; refine (turns_at _ HT).mono ?_; rintro r w2 ⟨rfl, x2⟩; have XX : Ext w w2 := HX.out.trans x2; have K := HI.out.ext XX; have z2 := K.c2; clear K; have HY := Lib.hid XX; clear XX x2))
        go_returns
        exact ⟨rfl, by have e1 := HY.out; (repeat' (first | with_reducible exact e1 | with_reducible refine Ext.drew ?_ | with_reducible refine Ext.drewN ?_ _ | with_reducible refine Ext.alloc ?_ _ | with_reducible refine Ext.set ?_ ?_ _ | omega | (simp; done) | (simp; omega)))⟩
-- END
end Go.Proofs.Yteklohamkmiphaa
namespace Go.Proofs.Yteklohamkmiphaa
open Go.RowKit

/-- what the code's last test asks of an inner way -/
def badI (ins outs depth : Int) (n : Nat) (x : Im) : Bool := (! decide (0 ≤ x.i ∧ x.i ≤ ins - 1) || ! decide (0 ≤ x.o ∧ x.o ≤ outs - 1) || ! decide (0 ≤ x.p.w.leave ∧ x.p.w.leave ≤ depth) || (decide (x.p.w.leave = depth) && decide (0 < x.p.w.add)) || decide (3 < madeI depth x.p.w.leave x.p.w.enter.length) || (! turnsI ins outs n && decide (madeI depth x.p.w.leave x.p.w.enter.length ≠ depth)))
theorem badI_eq (n : Nm) (x : Im) (hd : 0 ≤ n.depth ∧ n.depth ≤ 3) (hl : x.p.w.enter.length ≤ 1000000) : badI n.ins n.outs n.depth n.inner.length x = ! innT n.v x.v := by
  by_cases hw : 0 ≤ x.p.w.leave ∧ x.p.w.leave ≤ n.depth
  · have e : madeI n.depth x.p.w.leave x.p.w.enter.length = madeT n.depth x.p.w := madeI_eq ⟨hw.1, by omega⟩ ⟨hd.1, by omega⟩ hl
    unfold badI innT
    rw [e, turnsI_eq]
    show _ = ! decide (0 ≤ x.i ∧ x.i < n.ins ∧ 0 ≤ x.o ∧ x.o < n.outs ∧ 0 ≤ x.p.w.leave ∧ x.p.w.leave ≤ n.depth ∧ ¬ (x.p.w.leave = n.depth ∧ 0 < x.p.w.add) ∧ madeT n.depth x.p.w ≤ 3 ∧ (n.v.turns = true ∨ madeT n.depth x.p.w = n.depth))
    generalize madeT n.depth x.p.w = M
    generalize x.p.w.leave = L at *
    generalize x.p.w.add = a
    generalize n.ins = ins
    generalize n.outs = outs
    generalize n.depth = d at *
    rw [Bool.eq_iff_iff]
    cases n.v.turns <;> simp only [Bool.or_eq_true, Bool.and_eq_true, Bool.not_eq_true', decide_eq_false_iff_not, decide_eq_true_eq, Bool.not_true, Bool.not_false, Bool.false_eq_true, true_and, false_and, or_false, false_or, true_or, and_true, true_iff, false_iff, iff_true, iff_false, ne_eq] <;> omega
  · have e1 : innT n.v x.v = false := decide_eq_false (fun h => hw ⟨h.2.2.2.2.1, h.2.2.2.2.2.1⟩)
    have e2 : decide (0 ≤ x.p.w.leave ∧ x.p.w.leave ≤ n.depth) = false := decide_eq_false hw
    rw [e1]
    unfold badI
    rw [e2]
    simp
theorem badI_pred (ins outs depth : Int) (A : Option Addr) (n c g1 g2 : Nat) (L : List Im) (w : World) (h : InnW w ins outs depth A n c g1 g2) (hi : 0 ≤ ins ∧ ins ≤ 8) (ho : 0 ≤ outs ∧ outs ≤ 8) (hd : 0 ≤ depth ∧ depth ≤ 3) (h64 : ∀ y ∈ L, W64 y.p.w) :
    Pred_im 42 (.pointer (some ⟨g1, 0, none⟩)) (.pointer (some ⟨g2, 0, none⟩)) (badI ins outs depth n) L w := by
  intro W x hx hw
  exact inn_any ins outs depth A n c g1 g2 x.i x.o x.p.w.leave x.p.w.add x.p.A x.p.w.enter.length x.p.c W (Lib.hid (h.ext hw)) hi ho hd (h64 x hx).2.1.1

theorem nodeT_bad {x : Nm} (h : ¬ (0 ≤ x.depth ∧ x.depth ≤ 3) ∨ ¬ (0 ≤ x.ins ∧ x.ins ≤ 8) ∨ ¬ (0 ≤ x.outs ∧ x.outs ≤ 8) ∨ ¬ x.inner.length ≤ 64) : nodeT x.v = false := by
  unfold nodeT
  rw [Bool.and_eq_false_iff]
  left
  refine decide_eq_false (fun q => ?_)
  have q8 : x.inner.length ≤ 64 := by have := q.2.2.2.2.2.2; unfold Nm.v at this; simpa using this
  have q : 0 ≤ x.depth ∧ x.depth ≤ 3 ∧ 0 ≤ x.ins ∧ x.ins ≤ 8 ∧ 0 ≤ x.outs ∧ x.outs ≤ 8 ∧ _ := q
  omega
theorem nodeT_good {x : Nm} (h1 : 0 ≤ x.depth ∧ x.depth ≤ 3) (h2 : 0 ≤ x.ins ∧ x.ins ≤ 8) (h3 : 0 ≤ x.outs ∧ x.outs ≤ 8) (h4 : x.inner.length ≤ 64) (h64 : N64 x) : nodeT x.v = ! x.inner.any (badI x.ins x.outs x.depth x.inner.length) := by
  unfold nodeT
  have e : decide (0 ≤ x.v.depth ∧ x.v.depth ≤ 3 ∧ 0 ≤ x.v.ins ∧ x.v.ins ≤ 8 ∧ 0 ≤ x.v.outs ∧ x.v.outs ≤ 8 ∧ x.v.inner.length ≤ 64) = true := decide_eq_true ⟨h1.1, h1.2, h2.1, h2.2, h3.1, h3.2, by unfold Nm.v; simpa using h4⟩
  rw [e, Bool.true_and]
  show (x.inner.map Im.v).all (innT x.v) = _
  rw [List.all_map, List.any_eq_not_all_not, Bool.not_not, Bool.eq_iff_iff, List.all_eq_true, List.all_eq_true]
  constructor
  · intro h y hy
    rw [badI_eq x y h1 ((h64.inn y hy).2.2.2.2.2), Bool.not_not]
    exact h y hy
  · intro h y hy
    have := h y hy
    rw [badI_eq x y h1 ((h64.inn y hy).2.2.2.2.2), Bool.not_not] at this
    exact this

set_option maxRecDepth 100000 in
set_option maxHeartbeats 2000000 in
theorem node_any (ins outs depth : Int) (A : Option Addr) (n c : Nat) (inner : List Im) (w : World) (hn : Hid (n = inner.length)) (hr : Hid (NmR w ⟨ins, outs, depth, A, c, inner⟩)) (h64 : Hid (N64 ⟨ins, outs, depth, A, c, inner⟩)) :
    Calls Try.prog 20 #[.agg #[.int .i64 ins, .int .i64 outs, .int .i64 depth, .slice A n c]] w fun e w' => e = .returned (.bool (nodeT (Nm.v ⟨ins, outs, depth, A, c, inner⟩))) ∧ Ext w w' := by
  have hle : Hid (n ≤ 9223372036854775807) := Lib.hid (by rw [hn.out]; exact hr.out.sl.le)
  by_cases h1 : 0 ≤ depth ∧ depth ≤ 3
  rotate_left
  · have B1 : Hid (decide (0 ≤ depth ∧ depth ≤ 3) = false) := Lib.hid (decide_eq_false h1)
    have e := nodeT_bad (x := ⟨ins, outs, depth, A, c, inner⟩) (.inl h1)
    clear h1
    rw [e]
    clear e
    go_enter Try.func20, Try.ntmps20
    go_wp2_with (go_at_call 40; with_reducible refine (within_at _ B1).mono ?_; rintro e w' ⟨rfl, rfl⟩)
    go_returns
    exact ⟨rfl, by have e1 := Ext.refl w; (repeat' (first | with_reducible exact e1 | with_reducible refine Ext.drew ?_ | with_reducible refine Ext.drewN ?_ _ | with_reducible refine Ext.alloc ?_ _ | with_reducible refine Ext.set ?_ ?_ _ | omega | (simp; done) | (simp; omega)))⟩
  have B1 : Hid (decide (0 ≤ depth ∧ depth ≤ 3) = true) := Lib.hid (decide_eq_true h1)
  by_cases h2 : 0 ≤ ins ∧ ins ≤ 8
  rotate_left
  · have B2 : Hid (decide (0 ≤ ins ∧ ins ≤ 8) = false) := Lib.hid (decide_eq_false h2)
    have e := nodeT_bad (x := ⟨ins, outs, depth, A, c, inner⟩) (.inr (.inl h2))
    clear h1 h2
    rw [e]
    clear e
    go_enter Try.func20, Try.ntmps20
    go_wp2_with (go_at_call 40; (first | (with_reducible refine (within_at _ B1).mono ?_) | (with_reducible refine (within_at _ B2).mono ?_)); rintro e w' ⟨rfl, rfl⟩)
    go_returns
    exact ⟨rfl, by have e1 := Ext.refl w; (repeat' (first | with_reducible exact e1 | with_reducible refine Ext.drew ?_ | with_reducible refine Ext.drewN ?_ _ | with_reducible refine Ext.alloc ?_ _ | with_reducible refine Ext.set ?_ ?_ _ | omega | (simp; done) | (simp; omega)))⟩
  have B2 : Hid (decide (0 ≤ ins ∧ ins ≤ 8) = true) := Lib.hid (decide_eq_true h2)
  by_cases h3 : 0 ≤ outs ∧ outs ≤ 8
  rotate_left
  · have B3 : Hid (decide (0 ≤ outs ∧ outs ≤ 8) = false) := Lib.hid (decide_eq_false h3)
    have e := nodeT_bad (x := ⟨ins, outs, depth, A, c, inner⟩) (.inr (.inr (.inl h3)))
    clear h1 h2 h3
    rw [e]
    clear e
    go_enter Try.func20, Try.ntmps20
    go_wp2_with (go_at_call 40; (first | (with_reducible refine (within_at _ B1).mono ?_) | (with_reducible refine (within_at _ B2).mono ?_) | (with_reducible refine (within_at _ B3).mono ?_)); rintro e w' ⟨rfl, rfl⟩)
    go_returns
    exact ⟨rfl, by have e1 := Ext.refl w; (repeat' (first | with_reducible exact e1 | with_reducible refine Ext.drew ?_ | with_reducible refine Ext.drewN ?_ _ | with_reducible refine Ext.alloc ?_ _ | with_reducible refine Ext.set ?_ ?_ _ | omega | (simp; done) | (simp; omega)))⟩
  have B3 : Hid (decide (0 ≤ outs ∧ outs ≤ 8) = true) := Lib.hid (decide_eq_true h3)
  by_cases h4 : inner.length ≤ 64
  rotate_left
  · have b4 : decide ((64 : Int) < (n : Int)) = true := decide_eq_true (by rw [hn.out]; omega)
    have e := nodeT_bad (x := ⟨ins, outs, depth, A, c, inner⟩) (.inr (.inr (.inr h4)))
    clear h1 h2 h3 h4
    rw [e]
    clear e
    go_enter Try.func20, Try.ntmps20
    go_wp2_with (go_at_call 40; (first | (with_reducible refine (within_at _ B1).mono ?_) | (with_reducible refine (within_at _ B2).mono ?_) | (with_reducible refine (within_at _ B3).mono ?_)); rintro e w' ⟨rfl, rfl⟩)
    go_returns
    exact ⟨rfl, by have e1 := Ext.refl w; (repeat' (first | with_reducible exact e1 | with_reducible refine Ext.drew ?_ | with_reducible refine Ext.drewN ?_ _ | with_reducible refine Ext.alloc ?_ _ | with_reducible refine Ext.set ?_ ?_ _ | omega | (simp; done) | (simp; omega)))⟩
  have b4 : decide ((64 : Int) < (n : Int)) = false := decide_eq_false (by rw [hn.out]; omega)
  have e := nodeT_good (x := ⟨ins, outs, depth, A, c, inner⟩) h1 h2 h3 h4 h64.out
  rw [e]
  clear e
  have HI := Lib.hid h1
  have HJ := Lib.hid h2
  have HK := Lib.hid h3
  clear h1 h2 h3 h4
  obtain ⟨P, hP⟩ : ∃ P : Im → Bool, P = badI ins outs depth n := ⟨_, rfl⟩
  show Calls Try.prog 20 _ w fun e w' => e = .returned (.bool (! inner.any (badI ins outs depth inner.length))) ∧ Ext w w'
  rw [← hn.out, ← hP]
  have HP := Lib.hid hP
  clear hP
  go_enter Try.func20, Try.ntmps20
  go_wp2_with (first | (go_at_call 40; (first | (with_reducible refine (within_at _ B1).mono ?_) | (with_reducible refine (within_at _ B2).mono ?_) | (with_reducible refine (within_at _ B3).mono ?_)); rintro e w' ⟨rfl, rfl⟩) | (go_at_call 41; refine (contains_im P 42 (.pointer (some ⟨w.heap.size, 0, none⟩)) (.pointer (some ⟨w.heap.size + 1, 0, none⟩)) (fun _ _ => rfl) A c n inner _ hn (Lib.hid (hr.out.sl.ext (((Ext.refl w).alloc _).alloc _))) (Lib.hid (by rw [HP.out]; exact badI_pred ins outs depth A n c _ _ inner _ ⟨(by go_simp), (by go_simp), (by go_simp), (by go_simp), (by go_simp)⟩ HJ.out HK.out HI.out (fun y hy => (h64.out.inn y hy).2.2)))).mono ?_; rintro e w1 ⟨rfl, x1⟩; have HX : Hid (Ext w w1) := Lib.hid (Ext.trans (((Ext.refl w).alloc _).alloc _) x1); clear x1))
  go_returns
  exact ⟨rfl, by have e1 := HX.out; (repeat' (first | with_reducible exact e1 | with_reducible refine Ext.drew ?_ | with_reducible refine Ext.drewN ?_ _ | with_reducible refine Ext.alloc ?_ _ | with_reducible refine Ext.set ?_ ?_ _ | omega | (simp; done) | (simp; omega)))⟩
end Go.Proofs.Yteklohamkmiphaa
namespace Go.Proofs.Yteklohamkmiphaa
open Go.RowKit

set_option maxRecDepth 100000 in
set_option maxHeartbeats 800000 in
theorem check1_any (ins outs depth : Int) (A : Option Addr) (n c : Nat) (inner : List Im) (w : World) (hn : Hid (n = inner.length)) (hr : Hid (NmR w ⟨ins, outs, depth, A, c, inner⟩)) (h64 : Hid (N64 ⟨ins, outs, depth, A, c, inner⟩)) :
    Calls Try.prog 19 #[.agg #[.int .i64 ins, .int .i64 outs, .int .i64 depth, .slice A n c]] w fun e w' => e = .returned (.bool (! nodeT (Nm.v ⟨ins, outs, depth, A, c, inner⟩))) ∧ Ext w w' := by
  have XA : Hid (Ext w (w.alloc (Obj.cells #[.int .i64 ins, .int .i64 outs, .int .i64 depth, .slice A n c] 50))) := Lib.hid ((Ext.refl w).alloc _)
  have hE := node_any ins outs depth A n c inner _ hn (Lib.hid (hr.out.ext XA.out)) h64
  obtain ⟨B, hB⟩ : ∃ B, nodeT (Nm.v ⟨ins, outs, depth, A, c, inner⟩) = B := ⟨_, rfl⟩
  rw [hB] at hE ⊢
  clear hB
  go_enter Try.func19, Try.ntmps19
  go_wp2_with (go_at_call 20; refine hE.mono ?_; rintro e w1 ⟨rfl, x1⟩; have HX : Hid (Ext w w1) := Lib.hid (XA.out.trans x1); clear x1)
  go_returns
  exact ⟨rfl, by have e1 := HX.out; (repeat' (first | with_reducible exact e1 | with_reducible refine Ext.drew ?_ | with_reducible refine Ext.drewN ?_ _ | with_reducible refine Ext.alloc ?_ _ | with_reducible refine Ext.set ?_ ?_ _ | omega | (simp; done) | (simp; omega)))⟩
end Go.Proofs.Yteklohamkmiphaa
namespace Go.Proofs.Yteklohamkmiphaa
open Go.RowKit

theorem depth_some {NA : Option Addr} {Nc : Nat} {nodes : List Nm} {EA : Option Addr} {Ec : Nat} {edges : List (Pt × Pt)} {pn : Int} {po : Bool} {pp : Int} {nl el : Nat} {d : Int} (w : World) (hl : Hid (nl = nodes.length)) (hG : Hid (GmR w ⟨NA, Nc, nodes, EA, Ec, edges⟩)) (hN : Hid (∀ x ∈ nodes, nodeT x.v = true)) (hd : Hid ((Gm.v ⟨NA, Nc, nodes, EA, Ec, edges⟩).dep ⟨pn, po, pp⟩ = some d)) :
    Calls Try.prog 32 #[.agg #[.slice NA nl Nc, .slice EA el Ec], .agg #[.int .i64 pn, .bool po, .int .i64 pp]] w fun e w' => e = .returned (.tuple #[.int .i64 d, .bool true]) ∧ Ext w w' := by
  refine (depth_any NA Nc nodes EA Ec edges pn po pp nl el w hl hG hN).mono ?_
  rintro e w' ⟨d', rfl, h, x⟩
  have t : ((Gm.v ⟨NA, Nc, nodes, EA, Ec, edges⟩).dep ⟨pn, po, pp⟩).isSome = true := by rw [hd.out]; rfl
  refine ⟨?_, x⟩
  rw [h t, t]
  unfold Gr.dp
  rw [hd.out]; rfl
theorem depth_none {NA : Option Addr} {Nc : Nat} {nodes : List Nm} {EA : Option Addr} {Ec : Nat} {edges : List (Pt × Pt)} {pn : Int} {po : Bool} {pp : Int} {nl el : Nat} (w : World) (hl : Hid (nl = nodes.length)) (hG : Hid (GmR w ⟨NA, Nc, nodes, EA, Ec, edges⟩)) (hN : Hid (∀ x ∈ nodes, nodeT x.v = true)) (hd : Hid ((Gm.v ⟨NA, Nc, nodes, EA, Ec, edges⟩).dep ⟨pn, po, pp⟩ = none)) :
    Calls Try.prog 32 #[.agg #[.slice NA nl Nc, .slice EA el Ec], .agg #[.int .i64 pn, .bool po, .int .i64 pp]] w fun e w' => ∃ d, e = .returned (.tuple #[.int .i64 d, .bool false]) ∧ Ext w w' := by
  refine (depth_any NA Nc nodes EA Ec edges pn po pp nl el w hl hG hN).mono ?_
  rintro e w' ⟨d', rfl, h, x⟩
  have t : ((Gm.v ⟨NA, Nc, nodes, EA, Ec, edges⟩).dep ⟨pn, po, pp⟩).isSome = false := by rw [hd.out]; rfl
  exact ⟨d', by rw [t], x⟩

set_option maxRecDepth 100000 in
set_option maxHeartbeats 2000000 in
theorem edge_any (NA : Option Addr) (Nc : Nat) (nodes : List Nm) (EA : Option Addr) (Ec : Nat) (edges : List (Pt × Pt)) (fn : Int) (fo : Bool) (fp : Int) (tn : Int) (too : Bool) (tp : Int) (nl el : Nat) (w : World) (hl : Hid (nl = nodes.length)) (hG : Hid (GmR w ⟨NA, Nc, nodes, EA, Ec, edges⟩)) (hN : Hid (∀ x ∈ nodes, nodeT x.v = true)) :
    Calls Try.prog 23 #[.agg #[.slice NA nl Nc, .slice EA el Ec], .agg #[.int .i64 fn, .bool fo, .int .i64 fp, .int .i64 tn, .bool too, .int .i64 tp]] w fun e w' => e = .returned (.bool (edgeT (Gm.v ⟨NA, Nc, nodes, EA, Ec, edges⟩) (⟨fn, fo, fp⟩, ⟨tn, too, tp⟩))) ∧ Ext w w' := by
  have XA : Hid (Ext w ((w.alloc (Obj.cells #[.slice NA nl Nc, .slice EA el Ec] 25)).alloc (Obj.cells #[.int .i64 fn, .bool fo, .int .i64 fp, .int .i64 tn, .bool too, .int .i64 tp] 44))) := Lib.hid (((Ext.refl w).alloc _).alloc _)
  obtain ⟨W, hW⟩ : ∃ W, W = ((w.alloc (Obj.cells #[.slice NA nl Nc, .slice EA el Ec] 25)).alloc (Obj.cells #[.int .i64 fn, .bool fo, .int .i64 fp, .int .i64 tn, .bool too, .int .i64 tp] 44)) := ⟨_, rfl⟩
  have c1 : W.cell? ⟨w.heap.size, 0, none⟩ = some (.slice NA nl Nc) := by rw [hW]; go_simp
  have c2 : W.cell? ⟨w.heap.size, 1, none⟩ = some (.slice EA el Ec) := by rw [hW]; go_simp
  have c3 : W.cell? ⟨w.heap.size + 1, 0, none⟩ = some (.int .i64 fn) := by rw [hW]; go_simp
  have c4 : W.cell? ⟨w.heap.size + 1, 1, none⟩ = some (.bool fo) := by rw [hW]; go_simp
  have c5 : W.cell? ⟨w.heap.size + 1, 2, none⟩ = some (.int .i64 fp) := by rw [hW]; go_simp
  have c6 : W.cell? ⟨w.heap.size + 1, 3, none⟩ = some (.int .i64 tn) := by rw [hW]; go_simp
  have c7 : W.cell? ⟨w.heap.size + 1, 4, none⟩ = some (.bool too) := by rw [hW]; go_simp
  have c8 : W.cell? ⟨w.heap.size + 1, 5, none⟩ = some (.int .i64 tp) := by rw [hW]; go_simp
  rw [hW] at c1 c2 c3 c4 c5 c6 c7 c8
  clear hW W
  cases hf : (Gm.v ⟨NA, Nc, nodes, EA, Ec, edges⟩).dep ⟨fn, fo, fp⟩ with
  | none =>
    have Hf := Lib.hid hf
    cases ht : (Gm.v ⟨NA, Nc, nodes, EA, Ec, edges⟩).dep ⟨tn, too, tp⟩ with
    | none =>
      have Ht := Lib.hid ht
      have e : edgeT (Gm.v ⟨NA, Nc, nodes, EA, Ec, edges⟩) (⟨fn, fo, fp⟩, ⟨tn, too, tp⟩) = false := by unfold edgeT; simp only [hf, ht]; simp
      rw [e]
      clear e hf ht
      go_enter Try.func23, Try.ntmps23
      go_wp2_with (first | (go_at_call 32; have mk := HX; refine (depth_none _ hl (Lib.hid (hG.out.ext HX.out)) hN Ht).mono ?_; rintro e w2 ⟨d2, rfl, x2⟩; have HY : Hid (Ext w w2) := Lib.hid (HX.out.trans x2); have z3 := x2.cell y3; have z4 := x2.cell y4; have z5 := x2.cell y5; have z6 := x2.cell y6; have z7 := x2.cell y7; have z8 := x2.cell y8; clear x2) | (go_at_call 32; refine (depth_none _ hl (Lib.hid (hG.out.ext XA.out)) hN Hf).mono ?_; rintro e w1 ⟨d1, rfl, x1⟩; have HX : Hid (Ext w w1) := Lib.hid (XA.out.trans x1); have y1 := x1.cell c1; have y2 := x1.cell c2; have y3 := x1.cell c3; have y4 := x1.cell c4; have y5 := x1.cell c5; have y6 := x1.cell c6; have y7 := x1.cell c7; have y8 := x1.cell c8; clear x1))
      go_returns
      exact ⟨rfl, by have e1 := HY.out; (repeat' (first | with_reducible exact e1 | with_reducible refine Ext.drew ?_ | with_reducible refine Ext.drewN ?_ _ | with_reducible refine Ext.alloc ?_ _ | with_reducible refine Ext.set ?_ ?_ _ | omega | (simp; done) | (simp; omega)))⟩
    | some b =>
      have Ht := Lib.hid ht
      have e : edgeT (Gm.v ⟨NA, Nc, nodes, EA, Ec, edges⟩) (⟨fn, fo, fp⟩, ⟨tn, too, tp⟩) = false := by unfold edgeT; simp only [hf, ht]; simp
      rw [e]
      clear e hf ht
      go_enter Try.func23, Try.ntmps23
      go_wp2_with (first | (go_at_call 32; have mk := HX; refine (depth_some _ hl (Lib.hid (hG.out.ext HX.out)) hN Ht).mono ?_; rintro e w2 ⟨rfl, x2⟩; have HY : Hid (Ext w w2) := Lib.hid (HX.out.trans x2); have z3 := x2.cell y3; have z4 := x2.cell y4; have z5 := x2.cell y5; have z6 := x2.cell y6; have z7 := x2.cell y7; have z8 := x2.cell y8; clear x2) | (go_at_call 32; refine (depth_none _ hl (Lib.hid (hG.out.ext XA.out)) hN Hf).mono ?_; rintro e w1 ⟨d1, rfl, x1⟩; have HX : Hid (Ext w w1) := Lib.hid (XA.out.trans x1); have y1 := x1.cell c1; have y2 := x1.cell c2; have y3 := x1.cell c3; have y4 := x1.cell c4; have y5 := x1.cell c5; have y6 := x1.cell c6; have y7 := x1.cell c7; have y8 := x1.cell c8; clear x1))
      go_returns
      exact ⟨rfl, by have e1 := HY.out; (repeat' (first | with_reducible exact e1 | with_reducible refine Ext.drew ?_ | with_reducible refine Ext.drewN ?_ _ | with_reducible refine Ext.alloc ?_ _ | with_reducible refine Ext.set ?_ ?_ _ | omega | (simp; done) | (simp; omega)))⟩
  | some a =>
    have Hf := Lib.hid hf
    cases ht : (Gm.v ⟨NA, Nc, nodes, EA, Ec, edges⟩).dep ⟨tn, too, tp⟩ with
    | none =>
      have Ht := Lib.hid ht
      have e : edgeT (Gm.v ⟨NA, Nc, nodes, EA, Ec, edges⟩) (⟨fn, fo, fp⟩, ⟨tn, too, tp⟩) = false := by unfold edgeT; simp only [hf, ht]; simp
      rw [e]
      clear e hf ht
      go_enter Try.func23, Try.ntmps23
      go_wp2_with (first | (go_at_call 32; have mk := HX; refine (depth_none _ hl (Lib.hid (hG.out.ext HX.out)) hN Ht).mono ?_; rintro e w2 ⟨d2, rfl, x2⟩; have HY : Hid (Ext w w2) := Lib.hid (HX.out.trans x2); have z3 := x2.cell y3; have z4 := x2.cell y4; have z5 := x2.cell y5; have z6 := x2.cell y6; have z7 := x2.cell y7; have z8 := x2.cell y8; clear x2) | (go_at_call 32; refine (depth_some _ hl (Lib.hid (hG.out.ext XA.out)) hN Hf).mono ?_; rintro e w1 ⟨rfl, x1⟩; have HX : Hid (Ext w w1) := Lib.hid (XA.out.trans x1); have y1 := x1.cell c1; have y2 := x1.cell c2; have y3 := x1.cell c3; have y4 := x1.cell c4; have y5 := x1.cell c5; have y6 := x1.cell c6; have y7 := x1.cell c7; have y8 := x1.cell c8; clear x1))
      go_returns
      exact ⟨rfl, by have e1 := HY.out; (repeat' (first | with_reducible exact e1 | with_reducible refine Ext.drew ?_ | with_reducible refine Ext.drewN ?_ _ | with_reducible refine Ext.alloc ?_ _ | with_reducible refine Ext.set ?_ ?_ _ | omega | (simp; done) | (simp; omega)))⟩
    | some b =>
      have Ht := Lib.hid ht
      cases fo with
      | false =>
        have e : edgeT (Gm.v ⟨NA, Nc, nodes, EA, Ec, edges⟩) (⟨fn, false, fp⟩, ⟨tn, too, tp⟩) = false := by unfold edgeT; simp
        rw [e]
        clear e hf ht
        go_enter Try.func23, Try.ntmps23
        go_wp2_with (first | (go_at_call 32; have mk := HX; refine (depth_some _ hl (Lib.hid (hG.out.ext HX.out)) hN Ht).mono ?_; rintro e w2 ⟨rfl, x2⟩; have HY : Hid (Ext w w2) := Lib.hid (HX.out.trans x2); have z3 := x2.cell y3; have z4 := x2.cell y4; have z5 := x2.cell y5; have z6 := x2.cell y6; have z7 := x2.cell y7; have z8 := x2.cell y8; clear x2) | (go_at_call 32; refine (depth_some _ hl (Lib.hid (hG.out.ext XA.out)) hN Hf).mono ?_; rintro e w1 ⟨rfl, x1⟩; have HX : Hid (Ext w w1) := Lib.hid (XA.out.trans x1); have y1 := x1.cell c1; have y2 := x1.cell c2; have y3 := x1.cell c3; have y4 := x1.cell c4; have y5 := x1.cell c5; have y6 := x1.cell c6; have y7 := x1.cell c7; have y8 := x1.cell c8; clear x1))
        go_returns
        exact ⟨rfl, by have e1 := HY.out; (repeat' (first | with_reducible exact e1 | with_reducible refine Ext.drew ?_ | with_reducible refine Ext.drewN ?_ _ | with_reducible refine Ext.alloc ?_ _ | with_reducible refine Ext.set ?_ ?_ _ | omega | (simp; done) | (simp; omega)))⟩
      | true =>
        cases too with
        | true =>
          have e : edgeT (Gm.v ⟨NA, Nc, nodes, EA, Ec, edges⟩) (⟨fn, true, fp⟩, ⟨tn, true, tp⟩) = false := by unfold edgeT; simp
          rw [e]
          clear e hf ht
          go_enter Try.func23, Try.ntmps23
          go_wp2_with (first | (go_at_call 32; have mk := HX; refine (depth_some _ hl (Lib.hid (hG.out.ext HX.out)) hN Ht).mono ?_; rintro e w2 ⟨rfl, x2⟩; have HY : Hid (Ext w w2) := Lib.hid (HX.out.trans x2); have z3 := x2.cell y3; have z4 := x2.cell y4; have z5 := x2.cell y5; have z6 := x2.cell y6; have z7 := x2.cell y7; have z8 := x2.cell y8; clear x2) | (go_at_call 32; refine (depth_some _ hl (Lib.hid (hG.out.ext XA.out)) hN Hf).mono ?_; rintro e w1 ⟨rfl, x1⟩; have HX : Hid (Ext w w1) := Lib.hid (XA.out.trans x1); have y1 := x1.cell c1; have y2 := x1.cell c2; have y3 := x1.cell c3; have y4 := x1.cell c4; have y5 := x1.cell c5; have y6 := x1.cell c6; have y7 := x1.cell c7; have y8 := x1.cell c8; clear x1))
          go_returns
          exact ⟨rfl, by have e1 := HY.out; (repeat' (first | with_reducible exact e1 | with_reducible refine Ext.drew ?_ | with_reducible refine Ext.drewN ?_ _ | with_reducible refine Ext.alloc ?_ _ | with_reducible refine Ext.set ?_ ?_ _ | omega | (simp; done) | (simp; omega)))⟩
        | false =>
          by_cases hab : a = b
          · subst hab
            have e : edgeT (Gm.v ⟨NA, Nc, nodes, EA, Ec, edges⟩) (⟨fn, true, fp⟩, ⟨tn, false, tp⟩) = true := by unfold edgeT; simp only [hf, ht]; simp
            rw [e]
            clear e hf ht
            go_enter Try.func23, Try.ntmps23
            go_wp2_with (first | (go_at_call 32; have mk := HX; refine (depth_some _ hl (Lib.hid (hG.out.ext HX.out)) hN Ht).mono ?_; rintro e w2 ⟨rfl, x2⟩; have HY : Hid (Ext w w2) := Lib.hid (HX.out.trans x2); have z3 := x2.cell y3; have z4 := x2.cell y4; have z5 := x2.cell y5; have z6 := x2.cell y6; have z7 := x2.cell y7; have z8 := x2.cell y8; clear x2) | (go_at_call 32; refine (depth_some _ hl (Lib.hid (hG.out.ext XA.out)) hN Hf).mono ?_; rintro e w1 ⟨rfl, x1⟩; have HX : Hid (Ext w w1) := Lib.hid (XA.out.trans x1); have y1 := x1.cell c1; have y2 := x1.cell c2; have y3 := x1.cell c3; have y4 := x1.cell c4; have y5 := x1.cell c5; have y6 := x1.cell c6; have y7 := x1.cell c7; have y8 := x1.cell c8; clear x1))
            go_returns
            exact ⟨rfl, by have e1 := HY.out; (repeat' (first | with_reducible exact e1 | with_reducible refine Ext.drew ?_ | with_reducible refine Ext.drewN ?_ _ | with_reducible refine Ext.alloc ?_ _ | with_reducible refine Ext.set ?_ ?_ _ | omega | (simp; done) | (simp; omega)))⟩
          · have b1 : (a == b) = false := by simpa using hab
            have e : edgeT (Gm.v ⟨NA, Nc, nodes, EA, Ec, edges⟩) (⟨fn, true, fp⟩, ⟨tn, false, tp⟩) = false := by unfold edgeT; simp only [hf, ht]; simp; simpa using hab
            rw [e]
            clear e hf ht
            go_enter Try.func23, Try.ntmps23
            go_wp2_with (first | (go_at_call 32; have mk := HX; refine (depth_some _ hl (Lib.hid (hG.out.ext HX.out)) hN Ht).mono ?_; rintro e w2 ⟨rfl, x2⟩; have HY : Hid (Ext w w2) := Lib.hid (HX.out.trans x2); have z3 := x2.cell y3; have z4 := x2.cell y4; have z5 := x2.cell y5; have z6 := x2.cell y6; have z7 := x2.cell y7; have z8 := x2.cell y8; clear x2) | (go_at_call 32; refine (depth_some _ hl (Lib.hid (hG.out.ext XA.out)) hN Hf).mono ?_; rintro e w1 ⟨rfl, x1⟩; have HX : Hid (Ext w w1) := Lib.hid (XA.out.trans x1); have y1 := x1.cell c1; have y2 := x1.cell c2; have y3 := x1.cell c3; have y4 := x1.cell c4; have y5 := x1.cell c5; have y6 := x1.cell c6; have y7 := x1.cell c7; have y8 := x1.cell c8; clear x1))
            go_returns
            exact ⟨rfl, by have e1 := HY.out; (repeat' (first | with_reducible exact e1 | with_reducible refine Ext.drew ?_ | with_reducible refine Ext.drewN ?_ _ | with_reducible refine Ext.alloc ?_ _ | with_reducible refine Ext.set ?_ ?_ _ | omega | (simp; done) | (simp; omega)))⟩

/-- a graph that is captured -/
structure CapG (w : World) (NA : Option Addr) (nl Nc : Nat) (EA : Option Addr) (el Ec g : Nat) : Prop where
  c0 : w.cell? ⟨g, 0, none⟩ = some (.slice NA nl Nc)
  c1 : w.cell? ⟨g, 1, none⟩ = some (.slice EA el Ec)
theorem CapG.ext {w w' : World} {NA : Option Addr} {nl Nc : Nat} {EA : Option Addr} {el Ec g : Nat} (h : CapG w NA nl Nc EA el Ec g) (x : Ext w w') : CapG w' NA nl Nc EA el Ec g := ⟨x.cell h.c0, x.cell h.c1⟩
set_option maxRecDepth 100000 in
set_option maxHeartbeats 800000 in
theorem check2_any (NA : Option Addr) (Nc : Nat) (nodes : List Nm) (EA : Option Addr) (Ec : Nat) (edges : List (Pt × Pt)) (fn : Int) (fo : Bool) (fp : Int) (tn : Int) (too : Bool) (tp : Int) (nl el g : Nat) (w : World) (hl : Hid (nl = nodes.length)) (hG : Hid (GmR w ⟨NA, Nc, nodes, EA, Ec, edges⟩)) (hN : Hid (∀ x ∈ nodes, nodeT x.v = true)) (hC : Hid (CapG w NA nl Nc EA el Ec g)) :
    Calls Try.prog 22 #[.agg #[.int .i64 fn, .bool fo, .int .i64 fp, .int .i64 tn, .bool too, .int .i64 tp], .pointer (some ⟨g, 0, none⟩)] w fun e w' => e = .returned (.bool (! edgeT (Gm.v ⟨NA, Nc, nodes, EA, Ec, edges⟩) (⟨fn, fo, fp⟩, ⟨tn, too, tp⟩))) ∧ Ext w w' := by
  have XA : Hid (Ext w (w.alloc (Obj.cells #[.int .i64 fn, .bool fo, .int .i64 fp, .int .i64 tn, .bool too, .int .i64 tp] 44))) := Lib.hid ((Ext.refl w).alloc _)
  have K := hC.out.ext XA.out
  have c0 := K.c0
  have c1 := K.c1
  clear K
  have hE := edge_any NA Nc nodes EA Ec edges fn fo fp tn too tp nl el _ hl (Lib.hid (hG.out.ext XA.out)) hN
  obtain ⟨B, hB⟩ : ∃ B, edgeT (Gm.v ⟨NA, Nc, nodes, EA, Ec, edges⟩) (⟨fn, fo, fp⟩, ⟨tn, too, tp⟩) = B := ⟨_, rfl⟩
  rw [hB] at hE ⊢
  clear hB
  go_enter Try.func22, Try.ntmps22
  go_wp2_with (go_at_call 23; refine hE.mono ?_; rintro e w1 ⟨rfl, x1⟩; have HX : Hid (Ext w w1) := Lib.hid (XA.out.trans x1); clear x1)
  go_returns
  exact ⟨rfl, by have e1 := HX.out; (repeat' (first | with_reducible exact e1 | with_reducible refine Ext.drew ?_ | with_reducible refine Ext.drewN ?_ _ | with_reducible refine Ext.alloc ?_ _ | with_reducible refine Ext.set ?_ ?_ _ | omega | (simp; done) | (simp; omega)))⟩
end Go.Proofs.Yteklohamkmiphaa
namespace Go.Proofs.Yteklohamkmiphaa
open Go.RowKit

instance : WRel Ext := ⟨Ext.refl, fun h k => h.trans k⟩
section
variable {P : Program} {ops : Array Oper} {Q : Exit → Act → World → Prop} {bs : Array Nat} {R : World → World → Prop}
/-- whatever order is picked from here on, and operations of the set X at most make new memory -/
def wpXS (R : World → World → Prop) (P : Program) (ops : Array Oper) (Q : Exit → Act → World → Prop) (X : Nat → Bool) : Nat → Array Bool → Act → World → Prop
  | 0, listed, a, w => Region.ready .any ops listed = [] ∧ Q .normal a w
  | fuel + 1, listed, a, w =>
    (Region.ready .any ops listed = [] → Q .normal a w) ∧
    ∀ i ∈ Region.ready .any ops listed, wpOp P ops Q i (fun a' w' => (X i = true → R w w') ∧ wpXS R P ops Q X fuel (listed.setIfInBounds i true) a' w') a w

theorem wpAny_of_XS {X : Nat → Bool} : ∀ (fuel : Nat) (listed : Array Bool) (a : Act) (w : World), wpXS R P ops Q X fuel listed a w → wpAny P .any ops Q fuel listed a w
  | 0, _, _, _, h => h
  | fuel + 1, _, _, _, h => ⟨h.1, fun i hi => wpOp_mono (fun a' w' h' => wpAny_of_XS fuel _ a' w' h'.2) (h.2 i hi)⟩

theorem wpX_doneS {X : Nat → Bool} {listed : Array Bool} {a : Act} {w : World} (hr : Region.ready .any ops listed = []) (h : Q .normal a w) : ∀ fuel, wpXS R P ops Q X fuel listed a w
  | 0 => ⟨hr, h⟩
  | _ + 1 => ⟨fun _ => h, by rw [hr]; simp⟩

theorem yields_laterS [WRel R] {o : Oper} {v : Value} {a : Act} {w w' : World} (h : YieldsIf P ops (R w) o v a) (x : R w w') : YieldsIf P ops (R w') o v a :=
  h.imp (fun ⟨h1, h2⟩ => ⟨h1, fun u hu => h2 u (WRel.trans x hu)⟩) id

theorem wpX_firstS [WRel R] {X : Nat → Bool} (hok : ancOkB ops bs = true) {i : Nat} {oi : Oper} {v : Value} (hi : ops[i]? = some oi) (hsel : ∀ (j : Nat) (o : Oper) cs b, ops[j]? = some o → o.op ≠ .select cs b)
    (hQ : ∀ c a d v w, Q (.panic c) (a.put d v) w → Q (.panic c) a w) :
    ∀ (fuel : Nat) (listed : Array Bool) (a : Act) (w : World), Closed ops bs listed →
      (∀ j oj, ops[j]? = some oj → j ≠ i → listed.getD j true = false → ancB ops bs i j = false → oi.apart ops oj = true ∧ X j = true) →
      i ∈ Region.ready .any ops listed → YieldsIf P ops (R w) oi v a →
      wpXS R P ops Q X fuel (listed.setIfInBounds i true) (a.put oi.dst v) w → wpXS R P ops Q X (fuel + 1) listed a w := by
  intro fuel
  induction fuel with
  | zero =>
    intro listed a w hcl _ hr hy H
    refine ⟨fun h => (by rw [h] at hr; cases hr), fun j hj => ?_⟩
    by_cases hji : j = i
    · subst hji; exact hy.wpOp hi (WRel.refl (R := R) w) ⟨fun _ => WRel.refl (R := R) w, H⟩
    · have := ready_mono hj hji
      rw [H.1] at this
      cases this
  | succ fuel ih =>
    intro listed a w hcl hfree hr hy H
    refine ⟨fun h => (by rw [h] at hr; cases hr), fun j hj => ?_⟩
    by_cases hji : j = i
    · subst hji; exact hy.wpOp hi (WRel.refl (R := R) w) ⟨fun _ => WRel.refl (R := R) w, H⟩
    · have h1 := H.2 j (ready_mono hj hji)
      obtain ⟨hjun, oj, hoj, hall⟩ := mem_ready.1 hj
      have hiun := (mem_ready.1 hr).1
      have hnot : ancB ops bs i j = false := by
        cases hb : ancB ops bs i j with
        | false => rfl
        | true =>
          have h2 := ready_anc hok hcl hj hb
          rcases Nat.lt_or_ge i listed.size with h' | h'
          · simp [h'] at h2 hiun; rw [hiun] at h2; cases h2
          · simp [Array.getElem?_eq_none h'] at h2
      obtain ⟨hap, hX⟩ := hfree j oj hoj hji hjun hnot
      have h2 := wpOp_putIf hoj hap (fun cs b => hsel i oi cs b hi) (fun cs b => hsel j oj cs b hoj) (fun c a w => hQ c a _ _ w) hy h1
      have hfree' : ∀ k ok, ops[k]? = some ok → k ≠ i → (listed.setIfInBounds j true).getD k true = false → ancB ops bs i k = false → oi.apart ops ok = true ∧ X k = true := fun k ok hk hki hun hno => by
        refine hfree k ok hk hki ?_ hno
        by_cases hjk : j = k
        · subst hjk; exact hjun
        · rw [getD_set_ne true hjk] at hun; exact hun
      refine wpOp_mono (fun a' w' h3 => ⟨h3.2.1, ih (listed.setIfInBounds j true) a' w' (hcl.add hok hj) hfree' (ready_mono hr (Ne.symm hji)) (yields_laterS h3.1 (h3.2.1 hX)) ?_⟩) h2
      rw [Array.setIfInBounds_comm _ _ hji]
      exact h3.2.2

theorem wpX_first_pureS [WRel R] {X : Nat → Bool} (hok : ancOkB ops bs = true) {i : Nat} {oi : Oper} {v : Value} (hi : ops[i]? = some oi) (hsel : ∀ (j : Nat) (o : Oper) cs b, ops[j]? = some o → o.op ≠ .select cs b)
    (hQ : ∀ c a d v w, Q (.panic c) (a.put d v) w → Q (.panic c) a w) :
    ∀ (fuel : Nat) (listed : Array Bool) (a : Act) (w : World), Closed ops bs listed →
      (∀ j oj, ops[j]? = some oj → j ≠ i → listed.getD j true = false → ancB ops bs i j = false → oi.apart ops oj = true) →
      i ∈ Region.ready .any ops listed → YieldsIf P ops (fun _ => True) oi v a →
      wpXS R P ops Q X fuel (listed.setIfInBounds i true) (a.put oi.dst v) w → wpXS R P ops Q X (fuel + 1) listed a w := by
  intro fuel
  induction fuel with
  | zero =>
    intro listed a w hcl _ hr hy H
    refine ⟨fun h => (by rw [h] at hr; cases hr), fun j hj => ?_⟩
    by_cases hji : j = i
    · subst hji; exact hy.wpOp hi trivial ⟨fun _ => WRel.refl (R := R) w, H⟩
    · have := ready_mono hj hji
      rw [H.1] at this
      cases this
  | succ fuel ih =>
    intro listed a w hcl hfree hr hy H
    refine ⟨fun h => (by rw [h] at hr; cases hr), fun j hj => ?_⟩
    by_cases hji : j = i
    · subst hji; exact hy.wpOp hi trivial ⟨fun _ => WRel.refl (R := R) w, H⟩
    · have h1 := H.2 j (ready_mono hj hji)
      obtain ⟨hjun, oj, hoj, hall⟩ := mem_ready.1 hj
      have hiun := (mem_ready.1 hr).1
      have hnot : ancB ops bs i j = false := by
        cases hb : ancB ops bs i j with
        | false => rfl
        | true =>
          have h2 := ready_anc hok hcl hj hb
          rcases Nat.lt_or_ge i listed.size with h' | h'
          · simp [h'] at h2 hiun; rw [hiun] at h2; cases h2
          · simp [Array.getElem?_eq_none h'] at h2
      have hap := hfree j oj hoj hji hjun hnot
      have h2 := wpOp_putIf hoj hap (fun cs b => hsel i oi cs b hi) (fun cs b => hsel j oj cs b hoj) (fun c a w => hQ c a _ _ w) hy h1
      have hfree' : ∀ k ok, ops[k]? = some ok → k ≠ i → (listed.setIfInBounds j true).getD k true = false → ancB ops bs i k = false → oi.apart ops ok = true := fun k ok hk hki hun hno => by
        refine hfree k ok hk hki ?_ hno
        by_cases hjk : j = k
        · subst hjk; exact hjun
        · rw [getD_set_ne true hjk] at hun; exact hun
      refine wpOp_mono (fun a' w' h3 => ⟨h3.2.1, ih (listed.setIfInBounds j true) a' w' (hcl.add hok hj) hfree' (ready_mono hr (Ne.symm hji)) h3.1 ?_⟩) h2
      rw [Array.setIfInBounds_comm _ _ hji]
      exact h3.2.2

/-! #### the walk in the fixed order: 'flo': operations that only read; 'ext': one that may make new memory; 'one': one that is alone; 'both': either of two comes up -/
/-- b: the world of which the facts at hand speak; what is at hand has grown out of it -/
def ordWalkS (R : World → World → Prop) (P : Program) (ops : Array Oper) (Q : Exit → Act → World → Prop) : Plan → World → Act → World → Prop
  | .fin, _, a, w => Q .normal a w
  | .flo l r, b, a, w => wpQuiet P ops (fun w' => ∃ y : Zt R b, w' = y.W) (fun a' => ordWalkS R P ops Q r b a' w) (pickOps ops l) a
  | .pur l r, b, a, w => wpQuiet P ops (fun _ => True) (fun a' => ordWalkS R P ops Q r b a' w) (pickOps ops l) a
  | .ext i r, _, a, w => wpList P ops (Exit.then (fun a' w' => R w w' ∧ ordWalkS R P ops Q r w' a' w') Q) (pickOps ops [i]) a w
  | .one i r, _, a, w => wpList P ops (Exit.then (fun a' w' => ordWalkS R P ops Q r w' a' w') Q) (pickOps ops [i]) a w
  | .both i j r q, b, a, w => wpList P ops (Exit.then (fun a' w' => R w w' ∧ ordWalkS R P ops Q r b a' w') Q) (pickOps ops [i]) a w ∧ wpList P ops (Exit.then (fun a' w' => R w w' ∧ ordWalkS R P ops Q q b a' w') Q) (pickOps ops [j]) a w

theorem quiet_yieldsS {o : Oper} {a : Act} {w : World} {K : Act → Prop} (ho : isFlo o.op = true) (h : o.quiet P a (fun w' => ∃ y : Zt R w, w' = y.W) K) :
    ∃ v, (∀ u, R w u → (execOp a.eval o).run P u = .ok (.value v) u) ∧ K (a.put o.dst v) := by
  obtain ⟨v, h1, h2⟩ := h
  refine ⟨v, fun u hu => ?_, h2⟩
  have h3 := h1 u ⟨⟨u, hu⟩, rfl⟩
  unfold Oper.quietAt at h3
  cases hr : (execOp a.eval o).run P u with
  | ok n u' =>
    rw [hr] at h3
    obtain ⟨x, rfl⟩ := flo_value ho hr
    obtain ⟨e1, e2⟩ := h3
    rw [e1, e2]
  | halt x u' => rw [hr] at h3; exact h3.elim

theorem X_of_ordS [WRel R] (hok : ancOkB ops bs = true) (hsel : Region.noSelect ops = true) (hQ : ∀ c a d v w, Q (.panic c) (a.put d v) w → Q (.panic c) a w) (es : List Nat) :
    ∀ (p : Plan) (b : World) (listed : Array Bool) (a : Act) (w : World) (fuel : Nat), R b w → total p ≤ fuel → Closed ops bs listed → ordB ops bs es p listed = true → ordWalkS R P ops Q p b a w →
      wpXS R P ops Q (inX ops es) fuel listed a w := by
  intro p
  induction p with
  | fin =>
    intro b listed a w fuel _ _ _ hB h
    exact wpX_doneS (by simpa [ordB] using hB) h fuel
  | flo l r ih =>
    induction l with
    | nil =>
      intro b listed a w fuel hx hf hc hB h
      refine ih b listed a w fuel hx (by simpa [total] using hf) hc (by simpa [ordB, flosB, listAll] using hB) ?_
      simpa [ordWalkS, pickOps, wpQuiet] using h
    | cons i l ihl =>
      intro b listed a w fuel hx hf hc hB h
      simp only [ordB, flosB, listAll, Bool.and_eq_true] at hB
      obtain ⟨⟨hi, hl⟩, hr⟩ := hB
      cases ho : ops[i]? with
      | none => simp [floB, ho] at hi
      | some oi =>
        simp only [floB, ho, Bool.and_eq_true] at hi
        obtain ⟨⟨hflo, hrd⟩, hfr⟩ := hi
        have hrd' : i ∈ Region.ready .any ops listed := by simpa using hrd
        obtain ⟨fuel, rfl⟩ : ∃ f, fuel = f + 1 := ⟨fuel - 1, by simp [total] at hf; omega⟩
        have hfree : ∀ j oj, ops[j]? = some oj → j ≠ i → listed.getD j true = false → ancB ops bs i j = false → oi.apart ops oj = true ∧ inX ops es j = true := by
          intro j oj hj hne hun hno
          have := List.all_eq_true.1 hfr j (List.mem_range.2 (Array.getElem?_eq_some_iff.1 hj).1)
          simpa [hne, hun, hno, hj] using this
        have hp : pickOps ops (i :: l) = oi :: pickOps ops l := by simp [pickOps, ho]
        simp only [ordWalkS, hp] at h
        unfold wpQuiet at h
        have go : ∀ v, YieldsIf P ops (R w) oi v a → wpQuiet P ops (fun w' => ∃ y : Zt R b, w' = y.W) (fun a' => ordWalkS R P ops Q r b a' w) (pickOps ops l) (a.put oi.dst v) → wpXS R P ops Q (inX ops es) (fuel + 1) listed a w := by
          intro v hy hk
          refine wpX_firstS hok ho (Region.noSelect_spec hsel) hQ fuel listed a w hc hfree hrd' hy ?_
          refine ihl b (listed.setIfInBounds i true) (a.put oi.dst v) w fuel hx (by simp [total] at hf ⊢; omega) (hc.add hok hrd') ?_ ?_
          · simp only [ordB, Bool.and_eq_true]; exact ⟨hl, hr⟩
          · simpa only [ordWalkS] using hk
        split at h
        · rename_i hw
          obtain ⟨v, hv, hk⟩ := quiet_yieldsS hflo h
          exact go v (.inl ⟨hw, fun u hu => hv u (WRel.trans hx hu)⟩) hk
        · rename_i hw
          exact go undef (.inr ⟨by simpa using hw, rfl⟩) h
  | pur l r ih =>
    induction l with
    | nil =>
      intro b listed a w fuel hx hf hc hB h
      refine ih b listed a w fuel hx (by simpa [total] using hf) hc (by simpa [ordB, pursB, listAll] using hB) ?_
      simpa [ordWalkS, pickOps, wpQuiet] using h
    | cons i l ihl =>
      intro b listed a w fuel hx hf hc hB h
      simp only [ordB, pursB, listAll, Bool.and_eq_true] at hB
      obtain ⟨⟨hi, hl⟩, hr⟩ := hB
      cases ho : ops[i]? with
      | none => simp [purB, ho] at hi
      | some oi =>
        simp only [purB, ho, Bool.and_eq_true] at hi
        obtain ⟨⟨hflo, hrd⟩, hfr⟩ := hi
        have hrd' : i ∈ Region.ready .any ops listed := by simpa using hrd
        obtain ⟨fuel, rfl⟩ : ∃ f, fuel = f + 1 := ⟨fuel - 1, by simp [total] at hf; omega⟩
        have hfree : ∀ j oj, ops[j]? = some oj → j ≠ i → listed.getD j true = false → ancB ops bs i j = false → oi.apart ops oj = true := by
          intro j oj hj hne hun hno
          have := List.all_eq_true.1 hfr j (List.mem_range.2 (Array.getElem?_eq_some_iff.1 hj).1)
          simpa [hne, hun, hno, hj] using this
        have hp : pickOps ops (i :: l) = oi :: pickOps ops l := by simp [pickOps, ho]
        simp only [ordWalkS, hp] at h
        unfold wpQuiet at h
        have go : ∀ v, YieldsIf P ops (fun _ => True) oi v a → wpQuiet P ops (fun _ => True) (fun a' => ordWalkS R P ops Q r b a' w) (pickOps ops l) (a.put oi.dst v) → wpXS R P ops Q (inX ops es) (fuel + 1) listed a w := by
          intro v hy hk
          refine wpX_first_pureS hok ho (Region.noSelect_spec hsel) hQ fuel listed a w hc hfree hrd' hy ?_
          refine ihl b (listed.setIfInBounds i true) (a.put oi.dst v) w fuel hx (by simp [total] at hf ⊢; omega) (hc.add hok hrd') ?_ ?_
          · simp only [ordB, Bool.and_eq_true]; exact ⟨hl, hr⟩
          · simpa only [ordWalkS] using hk
        split at h
        · rename_i hw
          obtain ⟨v, hv, hk⟩ := quiet_yields_pure hflo h
          exact go v (.inl ⟨hw, fun u _ => hv u⟩) hk
        · rename_i hw
          exact go undef (.inr ⟨by simpa using hw, rfl⟩) h
  | ext i r ih =>
    intro b listed a w fuel hx hf hc hB h
    simp only [ordB, Bool.and_eq_true] at hB
    obtain ⟨hr, hr2⟩ := hB
    have hr' : Region.ready .any ops listed = [i] := by simpa using hr
    have hmem : i ∈ Region.ready .any ops listed := by rw [hr']; simp
    obtain ⟨_, o, ho, _⟩ := mem_ready.1 hmem
    obtain ⟨fuel, rfl⟩ : ∃ f, fuel = f + 1 := ⟨fuel - 1, by simp [total] at hf; omega⟩
    refine ⟨fun h0 => (by rw [hr'] at h0; cases h0), fun j hj => ?_⟩
    rw [hr'] at hj
    obtain rfl : j = i := by simpa using hj
    exact wpOp_mono (fun a' w' hh => ⟨fun _ => hh.1, ih w' _ a' w' fuel (WRel.refl (R := R) w') (by simp [total] at hf ⊢; omega) (hc.add hok hmem) hr2 hh.2⟩) (one_step ho h)
  | one i r ih =>
    intro b listed a w fuel hx hf hc hB h
    simp only [ordB, Bool.and_eq_true] at hB
    obtain ⟨⟨hr, hk⟩, hr2⟩ := hB
    have hr' : Region.ready .any ops listed = [i] := by simpa using hr
    have hmem : i ∈ Region.ready .any ops listed := by rw [hr']; simp
    obtain ⟨_, o, ho, _⟩ := mem_ready.1 hmem
    obtain ⟨fuel, rfl⟩ : ∃ f, fuel = f + 1 := ⟨fuel - 1, by simp [total] at hf; omega⟩
    refine ⟨fun h0 => (by rw [hr'] at h0; cases h0), fun j hj => ?_⟩
    rw [hr'] at hj
    obtain rfl : j = i := by simpa using hj
    have hnx : inX ops es j = false := by simpa using hk
    exact wpOp_mono (fun a' w' hh => ⟨fun hX => (by rw [hnx] at hX; cases hX), ih w' _ a' w' fuel (WRel.refl (R := R) w') (by simp [total] at hf ⊢; omega) (hc.add hok hmem) hr2 hh⟩) (one_step ho h)
  | both i j r q ihr ihq =>
    intro b listed a w fuel hx hf hc hB h
    simp only [ordB, Bool.and_eq_true] at hB
    obtain ⟨⟨hr, hr2⟩, hq2⟩ := hB
    have hr' : Region.ready .any ops listed = [i, j] := by simpa using hr
    obtain ⟨fuel, rfl⟩ : ∃ f, fuel = f + 1 := ⟨fuel - 1, by simp [total] at hf; omega⟩
    have mi : i ∈ Region.ready .any ops listed := by rw [hr']; simp
    have mj : j ∈ Region.ready .any ops listed := by rw [hr']; simp
    refine ⟨fun h0 => (by rw [hr'] at h0; cases h0), fun k hk => ?_⟩
    rw [hr'] at hk
    rcases List.mem_cons.1 hk with rfl | hk
    · obtain ⟨_, o, ho, _⟩ := mem_ready.1 mi
      exact wpOp_mono (fun a' w' hh => ⟨fun _ => hh.1, ihr b _ a' w' fuel (WRel.trans hx hh.1) (by simp [total] at hf ⊢; omega) (hc.add hok mi) hr2 hh.2⟩) (one_step ho h.1)
    · obtain rfl : k = j := by simpa using hk
      obtain ⟨_, o, ho, _⟩ := mem_ready.1 mj
      exact wpOp_mono (fun a' w' hh => ⟨fun _ => hh.1, ihq b _ a' w' fuel (WRel.trans hx hh.1) (by simp [total] at hf ⊢; omega) (hc.add hok mj) hq2 hh.2⟩) (one_step ho h.2)

/-- A REGION THAT DRAWS ITS ORDER, WALKED IN ONE ORDER. 'bs': of each operation those that come ahead of it in every order, as bits. -/
theorem wp_region_ordS [WRel R] {id : Nat} {a : Act} {w : World} {l : List Oper} (bs : List Nat) (p : Plan) (hm : P.follows .mixedOrders = true)
    (hB : (ancOkB l.toArray bs.toArray && Region.noSelect l.toArray && ordB l.toArray bs.toArray (extIdx p) p (Array.replicate l.toArray.size false) && decide (total p ≤ l.toArray.size)) = true)
    (hQ : ∀ c a d v w, Q (.panic c) (a.put d v) w → Q (.panic c) a w)
    (h : ordWalkS R P l.toArray Q p w.drew a w.drew) : (Code.region id l.toArray true).wp P Q a w := by
  simp only [Bool.and_eq_true, decide_eq_true_eq] at hB
  obtain ⟨⟨⟨h1, h2⟩, h3⟩, h4⟩ := hB
  refine wp_region_any hm (wpAny_of_XS _ _ _ _ (X_of_ordS h1 h2 hQ _ p w.drew _ a w.drew _ (WRel.refl (R := R) _) h4 ?_ h3 h))
  intro j hj
  exfalso
  rcases Nat.lt_or_ge j l.toArray.size with h' | h'
  · simp [Array.getD] at hj
  · simp [Array.getD] at hj

/-- the steps of such a walk -/
def ordNextS (R : World → World → Prop) (P : Program) (ops : Array Oper) (Q : Exit → Act → World → Prop) (r : Plan) (w : World) (a' : Act) (w' : World) : Prop := R w w' ∧ ordWalkS R P ops Q r w' a' w'
theorem ordNextS.mk {r : Plan} {w w' : World} {a : Act} (x : R w w') (h : ordWalkS R P ops Q r w' a w') : ordNextS R P ops Q r w a w' := ⟨x, h⟩
theorem ord_floS {l : List Nat} {r : Plan} {a : Act} {b w : World} {ol : List Oper} (hp : pickOps ops l = ol)
    (h : wpQuiet P ops (fun w' => ∃ y : Zt R b, w' = y.W) (fun a' => ordWalkS R P ops Q r b a' w) ol a) : ordWalkS R P ops Q (.flo l r) b a w := by
  subst hp; exact h
theorem ord_extS {i : Nat} {r : Plan} {a : Act} {b w : World} {o : Oper} (hp : pickOps ops [i] = [o])
    (h : ∀ K : Act → World → Prop, (∀ a' w', ordNextS R P ops Q r w a' w' → K a' w') → wpList P ops (Exit.then K Q) [o] a w) : ordWalkS R P ops Q (.ext i r) b a w := by
  show wpList P ops _ (pickOps ops [i]) a w
  rw [hp]; exact h _ fun _ _ h => h
theorem ord_oneS {i : Nat} {r : Plan} {a : Act} {b w : World} {o : Oper} (hp : pickOps ops [i] = [o])
    (h : ∀ K : Act → World → Prop, (∀ a' w', ordWalkS R P ops Q r w' a' w' → K a' w') → wpList P ops (Exit.then K Q) [o] a w) : ordWalkS R P ops Q (.one i r) b a w := by
  show wpList P ops _ (pickOps ops [i]) a w
  rw [hp]; exact h _ fun _ _ h => h
theorem ord_finS {a : Act} {b w : World} (h : Q .normal a w) : ordWalkS R P ops Q .fin b a w := h
end
end Go.Proofs.Yteklohamkmiphaa
namespace Go.Proofs.Yteklohamkmiphaa
open Go.RowKit

theorem mvs_dep {g : Gr} (G : GOK g) {p : Pt} {m : Mv Pt Wid} (h : m ∈ g.mvs p) : (g.dep p).isSome := by
  rcases stp_of h with ⟨_, h2, _⟩ | ⟨h1, n, x, h2, h3, h4, _, _⟩
  · obtain ⟨_, _, d, h3, _⟩ := G.ed _ h2
    simp only at h3
    rw [h3]; rfl
  · have hx := G.inn n (Gr.nd_mem h2).1 x h3
    unfold Gr.dep
    rw [h2]
    simp only [h1]
    rw [if_neg (by omega), if_neg (by decide), if_pos (by omega)]
    rfl
theorem G64.p64 {g : Gm} (h : G64 g) (hn : g.nodes.length ≤ 1000000) (p : Pt) (hp : (g.v.dep p).isSome) : P64 p := by
  unfold Gr.dep at hp
  cases hd : g.v.nd p.n with
  | none => rw [hd] at hp; cases hp
  | some nd =>
    rw [hd] at hp
    obtain ⟨hm, n0, hg⟩ := Gr.nd_mem hd
    have hl := (List.getElem?_eq_some_iff.1 hg).1
    have hl2 : g.v.nodes.length = g.nodes.length := List.length_map ..
    obtain ⟨m, hm2, rfl⟩ := List.mem_map.1 (show nd ∈ g.nodes.map Nm.v from hm)
    have h6 := h.nd m hm2
    have h7 := h6.ins
    have h8 := h6.outs
    simp only at hp
    refine ⟨⟨by omega, by omega⟩, ?_⟩
    by_cases c0 : p.p < 0
    · rw [if_pos c0] at hp; cases hp
    · rw [if_neg c0] at hp
      cases ho : p.o with
      | true =>
        rw [ho, if_pos rfl] at hp
        by_cases c1 : p.p < m.v.outs
        · have c1 : p.p < m.outs := c1
          unfold I64 at h8 ⊢; omega
        · rw [if_neg c1] at hp; cases hp
      | false =>
        rw [ho, if_neg (by decide)] at hp
        by_cases c1 : p.p < m.v.ins
        · have c1 : p.p < m.ins := c1
          unfold I64 at h7 ⊢; omega
        · rw [if_neg c1] at hp; cases hp
theorem nxt_p64 {g : Gr} (G : GOK g) (hP : ∀ p, (g.dep p).isSome → P64 p) (p q : Pt) (h : q ∈ g.nxt p) : P64 q := by
  obtain ⟨m, hm, rfl⟩ := List.mem_map.1 h
  exact hP _ (G.goodB hm (mvs_dep G hm)).2
theorem mvs_len (g : Gm) (G : GOK g.v) (q : Pt) : (g.v.mvs q).length ≤ (allS g).length := by
  have := congrArg List.length (steps_mvs g G q)
  rw [List.length_map, List.length_map] at this
  rw [← this]; exact sel_len _ _
def NoCyc (g : Gr) (q : Pt) : Prop := ∀ w, Found g q False q w → pl w idW (g.dp q) = false
theorem nocyc_all {g : Gr} (h : ∀ q, q.o = false → (g.dep q).isSome → NoCyc g q) : ¬ Cyc g := by
  rintro ⟨q, w, h1, h2, h3, h4⟩
  rw [h q h1 h2 w h3] at h4
  cases h4
theorem nocyc_tab {g : Gr} (G : GOK g) {q : Pt} (hf : (g.dep q).isSome) {K : Pt → List Way} (T : Tab g q False K) (h : ∀ x ∈ K q, pl x idW (g.dp q) = false) : NoCyc g q := fun w hw => by
  obtain ⟨x, h1, h2⟩ := T.cl q w hw
  refine Bool.eq_false_iff.2 fun h3 => ?_
  have gx := (G.route hf (T.rt q x h1).route).2
  have gw := (G.route hf hw.route).2
  have gi := (G.route hf (.nil)).2
  have := h x h1
  rw [pl_trans gx gw gi h2 h3] at this
  cases this
theorem nocyc_left {g : Gr} {q : Pt} (h : ¬ Reach g q q) : NoCyc g q := fun _ hw => absurd hw.reach h
/-- an input of a graph, by its numbers -/
theorem dep_input {g : Gm} {q : Pt} (h : (g.v.dep q).isSome) (ho : q.o = false) : 0 ≤ q.n ∧ q.n < g.nodes.length ∧ 0 ≤ q.p ∧ q.p < (g.nodes.getD q.n.toNat Nm.zero).ins ∧ g.v.dp q = (g.nodes.getD q.n.toNat Nm.zero).depth := by
  have h' := h
  unfold Gr.dep at h
  cases hd : g.v.nd q.n with
  | none => rw [hd] at h; cases h
  | some nd =>
    rw [hd] at h
    obtain ⟨hm, n0, hg⟩ := Gr.nd_mem hd
    have hl := (List.getElem?_eq_some_iff.1 hg).1
    have hl2 : g.v.nodes.length = g.nodes.length := List.length_map ..
    have hnd : nd = (g.nodes.getD q.n.toNat Nm.zero).v := by
      have h2 : g.v.nodes[q.n.toNat]? = (g.nodes.map Nm.v)[q.n.toNat]? := rfl
      rw [h2, List.getElem?_map, List.getElem?_eq_getElem (by omega)] at hg
      injection hg with hg
      rw [List.getD_eq_getElem?_getD, List.getElem?_eq_getElem (by omega)]
      exact hg.symm
    simp only [ho] at h
    by_cases c0 : q.p < 0
    · rw [if_pos c0] at h; cases h
    · rw [if_neg c0, if_neg (by decide)] at h
      by_cases c1 : q.p < nd.ins
      · refine ⟨n0, by omega, by omega, by rw [hnd] at c1; exact c1, ?_⟩
        unfold Gr.dp Gr.dep
        rw [hd]
        simp only [ho]
        rw [if_neg c0, if_neg (by decide), if_pos c1, hnd]
        rfl
      · rw [if_neg c1] at h; cases h
theorem input_dep {g : Gm} {i : Nat} {k : Int} (hi : i < g.nodes.length) (h0 : 0 ≤ k) (h1 : k < (g.nodes.getD i Nm.zero).ins) : g.v.dep ⟨i, false, k⟩ = some (g.nodes.getD i Nm.zero).depth := by
  have hn : g.v.nd (i : Int) = some (g.nodes.getD i Nm.zero).v := by
    unfold Gr.nd
    rw [if_pos (by omega)]
    have h2 : g.v.nodes[((i : Int)).toNat]? = (g.nodes.map Nm.v)[i]? := rfl
    rw [h2, List.getElem?_map, List.getElem?_eq_getElem hi, List.getD_eq_getElem?_getD, List.getElem?_eq_getElem hi]
    rfl
  unfold Gr.dep
  simp only [hn]
  rw [if_neg (by omega), if_neg (by decide), if_pos (show k < (g.nodes.getD i Nm.zero).v.ins from h1)]
  rfl
end Go.Proofs.Yteklohamkmiphaa
