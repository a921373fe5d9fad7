/- datum.Not, And, Or, Add, Sub: what they answer. Conditions: the library's tables stand. -/
import Derived.Test.YtobgfegdfcpgfaaDoorDApply
import Derived.IntWalk
namespace Go.Proofs.YtobgfegdfcpgfaaDoor
open Go.RowKit

theorem Dats.one {w : World} {g : Nat} {t : TypeId} {k n : Int} {b : Bool} {s : ByteArray} (h : Bk w g t #[.int .u8 k, .bool b, .int .i64 n, .string s]) : Dats w g [⟨k, b, n, s⟩] := by
  intro i hi
  have e : i = 0 := by simpa using hi
  subst e
  exact ⟨h.cell 0, h.cell 1, h.cell 2, h.cell 3⟩
theorem Dats.two {w : World} {g : Nat} {t : TypeId} {k n k2 n2 : Int} {b b2 : Bool} {s s2 : ByteArray} (h : Bk w g t #[.int .u8 k, .bool b, .int .i64 n, .string s, .int .u8 k2, .bool b2, .int .i64 n2, .string s2]) : Dats w g [⟨k, b, n, s⟩, ⟨k2, b2, n2, s2⟩] := by
  intro i hi
  match i, hi with
  | 0, _ => exact ⟨h.cell 0, h.cell 1, h.cell 2, h.cell 3⟩
  | 1, _ => exact ⟨h.cell 4, h.cell 5, h.cell 6, h.cell 7⟩
  | n + 2, hi => exact absurd hi (by simp)

/-! ### Not -/
set_option maxRecDepth 100000 in
set_option maxHeartbeats 400000 in
theorem not1_any (g : Nat) (b : Bool) (w : World) (hc : w.cell? ⟨g, 1, none⟩ = some (.bool b)) (hg : g < w.heap.size) : Calls Tryd.prog 58 #[.pointer (some ⟨g, 0, none⟩)] w (Out w (Dat.bool (!b), 0)) := by
  have hne : ¬ g = w.heap.size := by omega
  go_enter Tryd.func58, Tryd.ntmps58
  go_wp2_with (go_at_call 59; refine (boolean_any _ _).mono ?_; rintro r w1 ⟨rfl, x1⟩; have bz := (Bk.new w 24 #[.int .u8 0, .bool false, .int .i64 0, .string ⟨#[]⟩]).ext x1; have bzf0 : w1.frozen? ⟨w.heap.size, 0, none⟩ = false := bz.free 0; have bzf1 : w1.frozen? ⟨w.heap.size, 1, none⟩ = false := bz.free 1; have bzf2 : w1.frozen? ⟨w.heap.size, 2, none⟩ = false := bz.free 2; have bzf3 : w1.frozen? ⟨w.heap.size, 3, none⟩ = false := bz.free 3; have bz0 : w1.cell? ⟨w.heap.size, 0, none⟩ = some (.int .u8 (0)) := bz.cell 0; have bz1 : w1.cell? ⟨w.heap.size, 1, none⟩ = some (.bool (false)) := bz.cell 1; have bz2 : w1.cell? ⟨w.heap.size, 2, none⟩ = some (.int .i64 (0)) := bz.cell 2; have bz3 : w1.cell? ⟨w.heap.size, 3, none⟩ = some (.string (⟨#[]⟩)) := bz.cell 3)
  have q := bz.set4 (.int .u8 (2)) (.bool (!b)) (.int .i64 (0)) (.string (⟨#[]⟩)); refine bodyPost_ret (v := .tuple #[.agg #[.int .u8 (2), .bool (!b), .int .i64 (0), .string (⟨#[]⟩)], .int .u16 (0)]) (by simp [results, Tryd.results58, go_sem, q.1, q.2.1, q.2.2.1, q.2.2.2]) rfl ⟨rfl, Ext.set4 (((Ext.refl w).alloc _).trans x1) (by first | omega | simp) _ _ _ _⟩
def notR (a : Dat) : Dat × Int := applyR 2 [a] (Dat.bool (!a.b), 0)
set_option maxRecDepth 100000 in
set_option maxHeartbeats 800000 in
theorem not_any (a : Dat) (w : World) (hs : a.s.size ≤ 9223372036854775807) (G : Good w) : Calls Tryd.prog 18 #[.agg #[.int .u8 a.k, .bool a.b, .int .i64 a.n, .string a.s]] w (Out w (notR a)) := by
  obtain ⟨k, b, n, s⟩ := a
  obtain ⟨⟨⟨rk, rb, rn, rs⟩, re⟩, hr⟩ : ∃ r, applyR 2 [⟨k, b, n, s⟩] (Dat.bool (!b), 0) = r := ⟨_, rfl⟩
  have hR : notR ⟨k, b, n, s⟩ = (⟨rk, rb, rn, rs⟩, re) := hr
  rw [hR]
  have HR := Lib.hid hr
  clear hr hR
  go_enter Tryd.func18, Tryd.ntmps18
  go_wp2_with (go_at_call 57; refine Calls.mono (HR.out ▸ apply_any 2 58 _ _ 1 1 [⟨k, b, n, s⟩] _ (Dat.bool (!b), 0) (fun _ _ => by kernel_rfl) (Lib.hid fun W x => not1_any _ b W (((((Bk.new w _ _).alloc _).alloc _).ext x).cell 1) (by have := x.size; simp at this; omega)) rfl (by omega) (Dats.one (Bk.at (by simp))) (by simpa using hs) (G.ext ((((Ext.refl w).alloc _).alloc _).alloc _))) ?_; rintro r w1 ⟨rfl, x1⟩; have bz : Bk w1 (w.heap.size + 1) 24 #[.int .u8 0, .bool false, .int .i64 0, .string ⟨#[]⟩] := ((Bk.at (by simp)).alloc _).ext x1; have bzf0 : w1.frozen? ⟨w.heap.size + 1, 0, none⟩ = false := bz.free 0; have bzf1 : w1.frozen? ⟨w.heap.size + 1, 1, none⟩ = false := bz.free 1; have bzf2 : w1.frozen? ⟨w.heap.size + 1, 2, none⟩ = false := bz.free 2; have bzf3 : w1.frozen? ⟨w.heap.size + 1, 3, none⟩ = false := bz.free 3; have bz0 : w1.cell? ⟨w.heap.size + 1, 0, none⟩ = some (.int .u8 (0)) := bz.cell 0; have bz1 : w1.cell? ⟨w.heap.size + 1, 1, none⟩ = some (.bool (false)) := bz.cell 1; have bz2 : w1.cell? ⟨w.heap.size + 1, 2, none⟩ = some (.int .i64 (0)) := bz.cell 2; have bz3 : w1.cell? ⟨w.heap.size + 1, 3, none⟩ = some (.string (⟨#[]⟩)) := bz.cell 3)
  have q := bz.set4 (.int .u8 (rk)) (.bool (rb)) (.int .i64 (rn)) (.string (rs)); refine bodyPost_ret (v := .tuple #[.agg #[.int .u8 (rk), .bool (rb), .int .i64 (rn), .string (rs)], .int .u16 (re)]) (by simp [results, Tryd.results18, go_sem, q.1, q.2.1, q.2.2.1, q.2.2.2]) rfl ⟨rfl, Ext.set4 (((((Ext.refl w).alloc _).alloc _).alloc _).trans x1) (by first | omega | simp) _ _ _ _⟩

theorem whole_at {r : Dat × Int} (n : Int) (wide : Bool) (w : World) (h : Hid (wholeR n wide = r)) : Calls Tryd.prog 65 #[.int .i64 n, .bool wide] w (Out w r) := h.out ▸ whole_any n wide w
theorem four {p q : Prop} [Decidable p] [Decidable q] {v : Bool} (h : v = (decide p != decide q)) : (p ∧ q ∧ v = false) ∨ (p ∧ ¬ q ∧ v = true) ∨ (¬ p ∧ q ∧ v = true) ∨ (¬ p ∧ ¬ q ∧ v = false) := by
  subst h
  by_cases hp : p <;> by_cases hq : q <;> simp [hp, hq]

/-! ### Add -/
def add1R (x y : Int) : Dat × Int := wholeR (wrap64 (x + y)) (decide (x < wrap64 (x + y)) != decide (0 < y))
def addR (a b : Dat) : Dat × Int := applyR 3 [a, b] (add1R a.n b.n)
set_option maxRecDepth 100000 in
set_option maxHeartbeats 800000 in
theorem add1_any (ga gb : Nat) (x y : Int) (w : World) (ha : w.cell? ⟨ga, 2, none⟩ = some (.int .i64 x)) (hb : w.cell? ⟨gb, 2, none⟩ = some (.int .i64 y)) (hga : ga < w.heap.size) (hgb : gb < w.heap.size) :
    Calls Tryd.prog 64 #[.pointer (some ⟨ga, 0, none⟩), .pointer (some ⟨gb, 0, none⟩)] w (Out w (add1R x y)) := by
  have hn1 : ¬ ga = w.heap.size := by omega
  have hn2 : ¬ gb = w.heap.size := by omega
  obtain ⟨c, hc⟩ : ∃ c, c = wrap64 (x + y) := ⟨_, rfl⟩
  obtain ⟨v, hv⟩ : ∃ v, v = (decide (x < c) != decide (0 < y)) := ⟨_, rfl⟩
  obtain ⟨⟨⟨rk, rb, rn, rs⟩, re⟩, hr⟩ : ∃ r, wholeR c v = r := ⟨_, rfl⟩
  have hR : add1R x y = (⟨rk, rb, rn, rs⟩, re) := by unfold add1R; rw [← hr, hv, hc]
  rw [hR]
  have HR := Lib.hid hr
  have w1 : IntKind.i64.wrap (x + y) = c := by rw [hc, IntKind.wrap_i64]; unfold wrap64; omega
  have w2 : wrap64 (x + y) = c := hc.symm
  have K := four hv
  clear hr hR hv hc
  rcases K with ⟨t1, t2, rfl⟩ | ⟨t1, t2, rfl⟩ | ⟨t1, t2, rfl⟩ | ⟨t1, t2, rfl⟩
  all_goals
    go_enter Tryd.func64, Tryd.ntmps64
    go_wp2_with (go_at_call 65; refine (whole_at c _ _ HR).mono ?_; rintro r w1 ⟨rfl, x1⟩; have bz := (Bk.new w 24 #[.int .u8 0, .bool false, .int .i64 0, .string ⟨#[]⟩]).ext x1; have bzf0 : w1.frozen? ⟨w.heap.size, 0, none⟩ = false := bz.free 0; have bzf1 : w1.frozen? ⟨w.heap.size, 1, none⟩ = false := bz.free 1; have bzf2 : w1.frozen? ⟨w.heap.size, 2, none⟩ = false := bz.free 2; have bzf3 : w1.frozen? ⟨w.heap.size, 3, none⟩ = false := bz.free 3; have bz0 : w1.cell? ⟨w.heap.size, 0, none⟩ = some (.int .u8 (0)) := bz.cell 0; have bz1 : w1.cell? ⟨w.heap.size, 1, none⟩ = some (.bool (false)) := bz.cell 1; have bz2 : w1.cell? ⟨w.heap.size, 2, none⟩ = some (.int .i64 (0)) := bz.cell 2; have bz3 : w1.cell? ⟨w.heap.size, 3, none⟩ = some (.string (⟨#[]⟩)) := bz.cell 3)
    have q := bz.set4 (.int .u8 (rk)) (.bool (rb)) (.int .i64 (rn)) (.string (rs)); refine bodyPost_ret (v := .tuple #[.agg #[.int .u8 (rk), .bool (rb), .int .i64 (rn), .string (rs)], .int .u16 (re)]) (by simp [results, Tryd.results64, go_sem, q.1, q.2.1, q.2.2.1, q.2.2.2]) rfl ⟨rfl, Ext.set4 (((Ext.refl w).alloc _).trans x1) (by first | omega | simp) _ _ _ _⟩

set_option maxRecDepth 100000 in
set_option maxHeartbeats 800000 in
theorem add_any (a b : Dat) (w : World) (hs : a.s.size ≤ 9223372036854775807) (hs2 : b.s.size ≤ 9223372036854775807) (G : Good w) : Calls Tryd.prog 26 #[.agg #[.int .u8 a.k, .bool a.b, .int .i64 a.n, .string a.s], .agg #[.int .u8 b.k, .bool b.b, .int .i64 b.n, .string b.s]] w (Out w (addR a b)) := by
  obtain ⟨ka, ba, na, sa⟩ := a
  obtain ⟨kb, bb, nb, sb⟩ := b
  obtain ⟨q, hq⟩ : ∃ q, add1R na nb = q := ⟨_, rfl⟩
  obtain ⟨⟨⟨rk, rb, rn, rs⟩, re⟩, hr⟩ : ∃ r, applyR 3 [⟨ka, ba, na, sa⟩, ⟨kb, bb, nb, sb⟩] q = r := ⟨_, rfl⟩
  have hR : addR ⟨ka, ba, na, sa⟩ ⟨kb, bb, nb, sb⟩ = (⟨rk, rb, rn, rs⟩, re) := by unfold addR; rw [← hr, ← hq]
  rw [hR]
  have HR := Lib.hid hr
  have HQ := Lib.hid hq
  clear hr hR hq
  have hall : ∀ d ∈ ([⟨ka, ba, na, sa⟩, ⟨kb, bb, nb, sb⟩] : List Dat), d.s.size ≤ 9223372036854775807 := by
    intro d hd
    simp at hd
    rcases hd with rfl | rfl
    · exact hs
    · exact hs2
  have HALL := Lib.hid hall
  clear hall
  go_enter Tryd.func26, Tryd.ntmps26
  go_wp2_with (go_at_call 57; refine Calls.mono (HR.out ▸ apply_any 3 64 _ _ 2 2 [⟨ka, ba, na, sa⟩, ⟨kb, bb, nb, sb⟩] _ q (fun _ _ => by kernel_rfl) (Lib.hid fun W x => HQ.out ▸ add1_any _ _ na nb W ((((((Bk.new w 24 #[.int .u8 ka, .bool ba, .int .i64 na, .string sa]).alloc _).alloc _).alloc _).ext x).cell 2) (((((Bk.at (g := w.heap.size + 1) (t := 24) (cs := #[.int .u8 kb, .bool bb, .int .i64 nb, .string sb]) (by simp)).alloc _).alloc _).ext x).cell 2) (by have := x.size; simp at this; omega) (by have := x.size; simp at this; omega)) rfl (by omega) (Dats.two (Bk.at (by simp))) HALL.out (G.ext (((((Ext.refl w).alloc _).alloc _).alloc _).alloc _))) ?_; rintro r w1 ⟨rfl, x1⟩; have bz : Bk w1 (w.heap.size + 1 + 1) 24 #[.int .u8 0, .bool false, .int .i64 0, .string ⟨#[]⟩] := ((Bk.at (by simp)).alloc _).ext x1; have bzf0 : w1.frozen? ⟨w.heap.size + 1 + 1, 0, none⟩ = false := bz.free 0; have bzf1 : w1.frozen? ⟨w.heap.size + 1 + 1, 1, none⟩ = false := bz.free 1; have bzf2 : w1.frozen? ⟨w.heap.size + 1 + 1, 2, none⟩ = false := bz.free 2; have bzf3 : w1.frozen? ⟨w.heap.size + 1 + 1, 3, none⟩ = false := bz.free 3; have bz0 : w1.cell? ⟨w.heap.size + 1 + 1, 0, none⟩ = some (.int .u8 (0)) := bz.cell 0; have bz1 : w1.cell? ⟨w.heap.size + 1 + 1, 1, none⟩ = some (.bool (false)) := bz.cell 1; have bz2 : w1.cell? ⟨w.heap.size + 1 + 1, 2, none⟩ = some (.int .i64 (0)) := bz.cell 2; have bz3 : w1.cell? ⟨w.heap.size + 1 + 1, 3, none⟩ = some (.string (⟨#[]⟩)) := bz.cell 3)
  have q := bz.set4 (.int .u8 (rk)) (.bool (rb)) (.int .i64 (rn)) (.string (rs)); refine bodyPost_ret (v := .tuple #[.agg #[.int .u8 (rk), .bool (rb), .int .i64 (rn), .string (rs)], .int .u16 (re)]) (by simp [results, Tryd.results26, go_sem, q.1, q.2.1, q.2.2.1, q.2.2.2]) rfl ⟨rfl, Ext.set4 ((((((Ext.refl w).alloc _).alloc _).alloc _).alloc _).trans x1) (by first | omega | simp) _ _ _ _⟩

/-! ### Sub -/
def sub1R (x y : Int) : Dat × Int := wholeR (wrap64 (x - y)) (decide (wrap64 (x - y) < x) != decide (0 < y))
def subR (a b : Dat) : Dat × Int := applyR 3 [a, b] (sub1R a.n b.n)
set_option maxRecDepth 100000 in
set_option maxHeartbeats 800000 in
theorem sub1_any (ga gb : Nat) (x y : Int) (w : World) (ha : w.cell? ⟨ga, 2, none⟩ = some (.int .i64 x)) (hb : w.cell? ⟨gb, 2, none⟩ = some (.int .i64 y)) (hga : ga < w.heap.size) (hgb : gb < w.heap.size) :
    Calls Tryd.prog 68 #[.pointer (some ⟨ga, 0, none⟩), .pointer (some ⟨gb, 0, none⟩)] w (Out w (sub1R x y)) := by
  have hn1 : ¬ ga = w.heap.size := by omega
  have hn2 : ¬ gb = w.heap.size := by omega
  obtain ⟨c, hc⟩ : ∃ c, c = wrap64 (x - y) := ⟨_, rfl⟩
  obtain ⟨v, hv⟩ : ∃ v, v = (decide (c < x) != decide (0 < y)) := ⟨_, rfl⟩
  obtain ⟨⟨⟨rk, rb, rn, rs⟩, re⟩, hr⟩ : ∃ r, wholeR c v = r := ⟨_, rfl⟩
  have hR : sub1R x y = (⟨rk, rb, rn, rs⟩, re) := by unfold sub1R; rw [← hr, hv, hc]
  rw [hR]
  have HR := Lib.hid hr
  have w1 : IntKind.i64.wrap (x - y) = c := by rw [hc, IntKind.wrap_i64]; unfold wrap64; omega
  have w2 : wrap64 (x - y) = c := hc.symm
  have K := four hv
  clear hr hR hv hc
  rcases K with ⟨t1, t2, rfl⟩ | ⟨t1, t2, rfl⟩ | ⟨t1, t2, rfl⟩ | ⟨t1, t2, rfl⟩
  all_goals
    go_enter Tryd.func68, Tryd.ntmps68
    go_wp2_with (go_at_call 65; refine (whole_at c _ _ HR).mono ?_; rintro r w1 ⟨rfl, x1⟩; have bz := (Bk.new w 24 #[.int .u8 0, .bool false, .int .i64 0, .string ⟨#[]⟩]).ext x1; have bzf0 : w1.frozen? ⟨w.heap.size, 0, none⟩ = false := bz.free 0; have bzf1 : w1.frozen? ⟨w.heap.size, 1, none⟩ = false := bz.free 1; have bzf2 : w1.frozen? ⟨w.heap.size, 2, none⟩ = false := bz.free 2; have bzf3 : w1.frozen? ⟨w.heap.size, 3, none⟩ = false := bz.free 3; have bz0 : w1.cell? ⟨w.heap.size, 0, none⟩ = some (.int .u8 (0)) := bz.cell 0; have bz1 : w1.cell? ⟨w.heap.size, 1, none⟩ = some (.bool (false)) := bz.cell 1; have bz2 : w1.cell? ⟨w.heap.size, 2, none⟩ = some (.int .i64 (0)) := bz.cell 2; have bz3 : w1.cell? ⟨w.heap.size, 3, none⟩ = some (.string (⟨#[]⟩)) := bz.cell 3)
    have q := bz.set4 (.int .u8 (rk)) (.bool (rb)) (.int .i64 (rn)) (.string (rs)); refine bodyPost_ret (v := .tuple #[.agg #[.int .u8 (rk), .bool (rb), .int .i64 (rn), .string (rs)], .int .u16 (re)]) (by simp [results, Tryd.results68, go_sem, q.1, q.2.1, q.2.2.1, q.2.2.2]) rfl ⟨rfl, Ext.set4 (((Ext.refl w).alloc _).trans x1) (by first | omega | simp) _ _ _ _⟩

set_option maxRecDepth 100000 in
set_option maxHeartbeats 800000 in
theorem sub_any (a b : Dat) (w : World) (hs : a.s.size ≤ 9223372036854775807) (hs2 : b.s.size ≤ 9223372036854775807) (G : Good w) : Calls Tryd.prog 28 #[.agg #[.int .u8 a.k, .bool a.b, .int .i64 a.n, .string a.s], .agg #[.int .u8 b.k, .bool b.b, .int .i64 b.n, .string b.s]] w (Out w (subR a b)) := by
  obtain ⟨ka, ba, na, sa⟩ := a
  obtain ⟨kb, bb, nb, sb⟩ := b
  obtain ⟨q, hq⟩ : ∃ q, sub1R na nb = q := ⟨_, rfl⟩
  obtain ⟨⟨⟨rk, rb, rn, rs⟩, re⟩, hr⟩ : ∃ r, applyR 3 [⟨ka, ba, na, sa⟩, ⟨kb, bb, nb, sb⟩] q = r := ⟨_, rfl⟩
  have hR : subR ⟨ka, ba, na, sa⟩ ⟨kb, bb, nb, sb⟩ = (⟨rk, rb, rn, rs⟩, re) := by unfold subR; rw [← hr, ← hq]
  rw [hR]
  have HR := Lib.hid hr
  have HQ := Lib.hid hq
  clear hr hR hq
  have hall : ∀ d ∈ ([⟨ka, ba, na, sa⟩, ⟨kb, bb, nb, sb⟩] : List Dat), d.s.size ≤ 9223372036854775807 := by
    intro d hd
    simp at hd
    rcases hd with rfl | rfl
    · exact hs
    · exact hs2
  have HALL := Lib.hid hall
  clear hall
  go_enter Tryd.func28, Tryd.ntmps28
  go_wp2_with (go_at_call 57; refine Calls.mono (HR.out ▸ apply_any 3 68 _ _ 2 2 [⟨ka, ba, na, sa⟩, ⟨kb, bb, nb, sb⟩] _ q (fun _ _ => by kernel_rfl) (Lib.hid fun W x => HQ.out ▸ sub1_any _ _ na nb W ((((((Bk.new w 24 #[.int .u8 ka, .bool ba, .int .i64 na, .string sa]).alloc _).alloc _).alloc _).ext x).cell 2) (((((Bk.at (g := w.heap.size + 1) (t := 24) (cs := #[.int .u8 kb, .bool bb, .int .i64 nb, .string sb]) (by simp)).alloc _).alloc _).ext x).cell 2) (by have := x.size; simp at this; omega) (by have := x.size; simp at this; omega)) rfl (by omega) (Dats.two (Bk.at (by simp))) HALL.out (G.ext (((((Ext.refl w).alloc _).alloc _).alloc _).alloc _))) ?_; rintro r w1 ⟨rfl, x1⟩; have bz : Bk w1 (w.heap.size + 1 + 1) 24 #[.int .u8 0, .bool false, .int .i64 0, .string ⟨#[]⟩] := ((Bk.at (by simp)).alloc _).ext x1; have bzf0 : w1.frozen? ⟨w.heap.size + 1 + 1, 0, none⟩ = false := bz.free 0; have bzf1 : w1.frozen? ⟨w.heap.size + 1 + 1, 1, none⟩ = false := bz.free 1; have bzf2 : w1.frozen? ⟨w.heap.size + 1 + 1, 2, none⟩ = false := bz.free 2; have bzf3 : w1.frozen? ⟨w.heap.size + 1 + 1, 3, none⟩ = false := bz.free 3; have bz0 : w1.cell? ⟨w.heap.size + 1 + 1, 0, none⟩ = some (.int .u8 (0)) := bz.cell 0; have bz1 : w1.cell? ⟨w.heap.size + 1 + 1, 1, none⟩ = some (.bool (false)) := bz.cell 1; have bz2 : w1.cell? ⟨w.heap.size + 1 + 1, 2, none⟩ = some (.int .i64 (0)) := bz.cell 2; have bz3 : w1.cell? ⟨w.heap.size + 1 + 1, 3, none⟩ = some (.string (⟨#[]⟩)) := bz.cell 3)
  have q := bz.set4 (.int .u8 (rk)) (.bool (rb)) (.int .i64 (rn)) (.string (rs)); refine bodyPost_ret (v := .tuple #[.agg #[.int .u8 (rk), .bool (rb), .int .i64 (rn), .string (rs)], .int .u16 (re)]) (by simp [results, Tryd.results28, go_sem, q.1, q.2.1, q.2.2.1, q.2.2.2]) rfl ⟨rfl, Ext.set4 ((((((Ext.refl w).alloc _).alloc _).alloc _).alloc _).trans x1) (by first | omega | simp) _ _ _ _⟩
end Go.Proofs.YtobgfegdfcpgfaaDoor
