/- datum.Mul: what it answers. Conditions: the library's tables stand. -/
import Derived.Test.YtobgfegdfcpgfaaDoorDDiv
import Derived.Test.YtobgfegdfcpgfaaDoorOrd
namespace Go.Proofs.YtobgfegdfcpgfaaDoor
open Go.RowKit

/-- the quotient as the machine reckons it -/
def quoT (c y : Int) : Int := wrap64 (c.tdiv y)
def wideT (x y : Int) : Bool := (quoT (wrap64 (x * y)) y != x) || (x == -1 && y == -9223372036854775808) || (y == -1 && x == -9223372036854775808)
def mul1R (x y : Int) : Dat × Int := if x = 0 ∨ y = 0 then (Dat.int 0, 0) else wholeR (wrap64 (x * y)) (wideT x y)
def mulR (a b : Dat) : Dat × Int := applyR 3 [a, b] (mul1R a.n b.n)
theorem eight (p s t u r : Bool) : (p = true ∧ (p || (s && t) || (u && r)) = true) ∨ (p = false ∧ ((s = true ∧ t = true ∧ (p || (s && t) || (u && r)) = true) ∨ (s = false ∨ s = true ∧ t = false) ∧ ((u = true ∧ r = true ∧ (p || (s && t) || (u && r)) = true) ∨ (u = false ∨ u = true ∧ r = false) ∧ (p || (s && t) || (u && r)) = false))) := by
  cases p <;> cases s <;> cases t <;> cases u <;> cases r <;> simp
set_option maxRecDepth 100000 in
set_option maxHeartbeats 1600000 in
theorem mul1_any (ga gb : Nat) (x y : Int) (w : World) (ha : w.cell? ⟨ga, 2, none⟩ = some (.int .i64 x)) (hb : w.cell? ⟨gb, 2, none⟩ = some (.int .i64 y)) (hga : ga < w.heap.size) (hgb : gb < w.heap.size) :
    Calls Tryd.prog 66 #[.pointer (some ⟨ga, 0, none⟩), .pointer (some ⟨gb, 0, none⟩)] w (Out w (mul1R x y)) := by
  have hn1 : ¬ ga = w.heap.size := by omega
  have hn2 : ¬ gb = w.heap.size := by omega
  by_cases x0 : x = 0
  · subst x0
    go_enter Tryd.func66, Tryd.ntmps66
    go_wp2_with (go_at_call 67; refine (number_any _ _).mono ?_; rintro r w1 ⟨rfl, x1⟩; have bz := (Bk.new w 24 #[.int .u8 0, .bool false, .int .i64 0, .string ⟨#[]⟩]).ext x1; have bzf0 : w1.frozen? ⟨w.heap.size, 0, none⟩ = false := bz.free 0; have bzf1 : w1.frozen? ⟨w.heap.size, 1, none⟩ = false := bz.free 1; have bzf2 : w1.frozen? ⟨w.heap.size, 2, none⟩ = false := bz.free 2; have bzf3 : w1.frozen? ⟨w.heap.size, 3, none⟩ = false := bz.free 3; have bz0 : w1.cell? ⟨w.heap.size, 0, none⟩ = some (.int .u8 (0)) := bz.cell 0; have bz1 : w1.cell? ⟨w.heap.size, 1, none⟩ = some (.bool (false)) := bz.cell 1; have bz2 : w1.cell? ⟨w.heap.size, 2, none⟩ = some (.int .i64 (0)) := bz.cell 2; have bz3 : w1.cell? ⟨w.heap.size, 3, none⟩ = some (.string (⟨#[]⟩)) := bz.cell 3)
    have q := bz.set4 (.int .u8 (3)) (.bool (false)) (.int .i64 (0)) (.string (⟨#[]⟩)); refine bodyPost_ret (v := .tuple #[.agg #[.int .u8 (3), .bool (false), .int .i64 (0), .string (⟨#[]⟩)], .int .u16 (0)]) (by simp [results, Tryd.results66, go_sem, q.1, q.2.1, q.2.2.1, q.2.2.2]) rfl ⟨rfl, Ext.set4 (((Ext.refl w).alloc _).trans x1) (by first | omega | simp) _ _ _ _⟩
  have zx : (x == 0) = false := by simpa using x0
  by_cases y0 : y = 0
  · subst y0
    have hR : mul1R x 0 = (Dat.int 0, 0) := by unfold mul1R; rw [if_pos (Or.inr rfl)]
    rw [hR]
    clear hR x0
    go_enter Tryd.func66, Tryd.ntmps66
    go_wp2_with (go_at_call 67; refine (number_any _ _).mono ?_; rintro r w1 ⟨rfl, x1⟩; have bz := (Bk.new w 24 #[.int .u8 0, .bool false, .int .i64 0, .string ⟨#[]⟩]).ext x1; have bzf0 : w1.frozen? ⟨w.heap.size, 0, none⟩ = false := bz.free 0; have bzf1 : w1.frozen? ⟨w.heap.size, 1, none⟩ = false := bz.free 1; have bzf2 : w1.frozen? ⟨w.heap.size, 2, none⟩ = false := bz.free 2; have bzf3 : w1.frozen? ⟨w.heap.size, 3, none⟩ = false := bz.free 3; have bz0 : w1.cell? ⟨w.heap.size, 0, none⟩ = some (.int .u8 (0)) := bz.cell 0; have bz1 : w1.cell? ⟨w.heap.size, 1, none⟩ = some (.bool (false)) := bz.cell 1; have bz2 : w1.cell? ⟨w.heap.size, 2, none⟩ = some (.int .i64 (0)) := bz.cell 2; have bz3 : w1.cell? ⟨w.heap.size, 3, none⟩ = some (.string (⟨#[]⟩)) := bz.cell 3)
    have q := bz.set4 (.int .u8 (3)) (.bool (false)) (.int .i64 (0)) (.string (⟨#[]⟩)); refine bodyPost_ret (v := .tuple #[.agg #[.int .u8 (3), .bool (false), .int .i64 (0), .string (⟨#[]⟩)], .int .u16 (0)]) (by simp [results, Tryd.results66, go_sem, q.1, q.2.1, q.2.2.1, q.2.2.2]) rfl ⟨rfl, Ext.set4 (((Ext.refl w).alloc _).trans x1) (by first | omega | simp) _ _ _ _⟩
  have zy : (y == 0) = false := by simpa using y0
  obtain ⟨c, hc⟩ : ∃ c, c = wrap64 (x * y) := ⟨_, rfl⟩
  obtain ⟨v, hv⟩ : ∃ v, v = wideT x y := ⟨_, rfl⟩
  obtain ⟨⟨⟨rk, rb, rn, rs⟩, re⟩, hr⟩ : ∃ r, wholeR c v = r := ⟨_, rfl⟩
  have hR : mul1R x y = (⟨rk, rb, rn, rs⟩, re) := by unfold mul1R; rw [if_neg (by omega), ← hr, hv, hc]
  rw [hR]
  have HR := Lib.hid hr
  have w1 : IntKind.i64.wrap (x * y) = c := by rw [hc, IntKind.wrap_i64]; unfold wrap64; omega
  have w2 : wrap64 (x * y) = c := hc.symm
  obtain ⟨q, hq⟩ : ∃ q, q = quoT c y := ⟨_, rfl⟩
  have w3 : IntKind.i64.wrap (c.tdiv y) = q := by rw [hq, IntKind.wrap_i64]; unfold quoT wrap64; omega
  have w4 : wrap64 (c.tdiv y) = q := hq.symm
  have hv2 : v = ((q != x) || (x == -1 && y == -9223372036854775808) || (y == -1 && x == -9223372036854775808)) := by rw [hv, hq, hc]; rfl
  have K := eight (q != x) (x == -1) (y == -9223372036854775808) (y == -1) (x == -9223372036854775808)
  rw [← hv2] at K
  have HK := Lib.hid K
  clear hr hR hc hv hv2 hq K
  have X0 := Lib.hid x0
  have Y0 := Lib.hid y0
  clear x0 y0
  go_enter Tryd.func66, Tryd.ntmps66
  go_upto_region 4 with fail
  have b0 := Bk.new w 24 #[.int .u8 0, .bool false, .int .i64 0, .string ⟨#[]⟩]
  have E0 := (Ext.refl w).alloc (.cells #[.int .u8 0, .bool false, .int .i64 0, .string ⟨#[]⟩] 24)
  obtain ⟨w0, hw0⟩ : ∃ w0, w0 = w.alloc (.cells #[.int .u8 0, .bool false, .int .i64 0, .string ⟨#[]⟩] 24) := ⟨_, rfl⟩
  rw [← hw0] at b0 E0 ⊢
  clear hw0
  have X : Ext w0 w0.drew := (Ext.refl w0).drew
  have qa : ∀ z : Xt w0.drew, z.W.cell? ⟨ga, 2, none⟩ = some (.int .i64 x) := fun z => ((E0.trans X).trans z.x).cell ha
  have qb : ∀ z : Xt w0.drew, z.W.cell? ⟨gb, 2, none⟩ = some (.int .i64 y) := fun z => ((E0.trans X).trans z.x).cell hb
  have y0 := Y0.out
  rcases HK.out with ⟨p1, rfl⟩ | ⟨p1, ⟨p2, p3, rfl⟩ | ⟨(p2 | ⟨p2, p3⟩), (⟨p4, p5, rfl⟩ | ⟨(p4 | ⟨p4, p5⟩), rfl⟩)⟩⟩
  all_goals
    refine wp_region_ord [0,0,0,4,14,0,32,126,254,510,1022,2046,4094,8190,16382,32766,65534,131070,262142,524286,1048574,2097150,4194302,8388606,16777214,33554430,67108862,134217726,268435455,536870911,536870911,2147483647,4294967295] (.flo [0,1,2,3,4,5,6,7,8,9,10,11,12,13,14,15,16,17,18,19,20,21,22,23,24,25,26,27] (.one 28 (.flo [29,30] (.one 31 (.flo [32] (.fin)))))) (by kernel_rfl) (by kernel_rfl) (by intro _ _ d _ _ h; cases d <;> exact h) ?_
    (refine ord_flo (pick_cons rfl (pick_cons rfl (pick_cons rfl (pick_cons rfl (pick_cons rfl (pick_cons rfl (pick_cons rfl (pick_cons rfl (pick_cons rfl (pick_cons rfl (pick_cons rfl (pick_cons rfl (pick_cons rfl (pick_cons rfl (pick_cons rfl (pick_cons rfl (pick_cons rfl (pick_cons rfl (pick_cons rfl (pick_cons rfl (pick_cons rfl (pick_cons rfl (pick_cons rfl (pick_cons rfl (pick_cons rfl (pick_cons rfl (pick_cons rfl (pick_cons rfl pick_nil)))))))))))))))))))))))))))) ?_; (repeat (go_big_quiet_step (fail))); refine wpQuiet_nil ?_; show ordWalk _ _ _ _ _ _ _)
    refine ord_one (pick_cons rfl pick_nil) ?_; intro K_ hK_
    go_wp2_with (go_at_call 65; refine (whole_at c _ _ HR).mono ?_; rintro r w1 ⟨rfl, x1⟩)
    have bz := (b0.ext X).ext x1
    have E1 := (E0.trans X).trans x1
    (refine ord_flo (pick_cons rfl (pick_cons rfl pick_nil)) ?_; (repeat (go_big_quiet_step (fail))); refine wpQuiet_nil ?_; show ordWalk _ _ _ _ _ _ _)
    have bzf0 : w1.frozen? ⟨w.heap.size, 0, none⟩ = false := bz.free 0; have bzf1 : w1.frozen? ⟨w.heap.size, 1, none⟩ = false := bz.free 1; have bzf2 : w1.frozen? ⟨w.heap.size, 2, none⟩ = false := bz.free 2; have bzf3 : w1.frozen? ⟨w.heap.size, 3, none⟩ = false := bz.free 3
    have bz0 : w1.cell? ⟨w.heap.size, 0, none⟩ = some (.int .u8 (0)) := bz.cell 0; have bz1 : w1.cell? ⟨w.heap.size, 1, none⟩ = some (.bool (false)) := bz.cell 1; have bz2 : w1.cell? ⟨w.heap.size, 2, none⟩ = some (.int .i64 (0)) := bz.cell 2; have bz3 : w1.cell? ⟨w.heap.size, 3, none⟩ = some (.string (⟨#[]⟩)) := bz.cell 3
    refine ord_one (pick_cons rfl pick_nil) ?_; intro K_ hK_
    go_wp2
    (refine ord_flo (pick_cons rfl pick_nil) ?_; (repeat (go_big_quiet_step (fail))); refine wpQuiet_nil ?_; show ordWalk _ _ _ _ _ _ _)
    refine ord_fin ?_
    go_wp2
    have q := bz.set4 (.int .u8 (rk)) (.bool (rb)) (.int .i64 (rn)) (.string (rs)); refine bodyPost_ret (v := .tuple #[.agg #[.int .u8 (rk), .bool (rb), .int .i64 (rn), .string (rs)], .int .u16 (re)]) (by simp [results, Tryd.results66, go_sem, q.1, q.2.1, q.2.2.1, q.2.2.2]) rfl ⟨rfl, Ext.set4 E1 (by first | omega | simp) _ _ _ _⟩

set_option maxRecDepth 100000 in
set_option maxHeartbeats 800000 in
theorem mul_any (a b : Dat) (w : World) (hs : a.s.size ≤ 9223372036854775807) (hs2 : b.s.size ≤ 9223372036854775807) (G : Good w) : Calls Tryd.prog 27 #[.agg #[.int .u8 a.k, .bool a.b, .int .i64 a.n, .string a.s], .agg #[.int .u8 b.k, .bool b.b, .int .i64 b.n, .string b.s]] w (Out w (mulR a b)) := by
  obtain ⟨ka, ba, na, sa⟩ := a
  obtain ⟨kb, bb, nb, sb⟩ := b
  obtain ⟨q, hq⟩ : ∃ q, mul1R na nb = q := ⟨_, rfl⟩
  obtain ⟨⟨⟨rk, rb, rn, rs⟩, re⟩, hr⟩ : ∃ r, applyR 3 [⟨ka, ba, na, sa⟩, ⟨kb, bb, nb, sb⟩] q = r := ⟨_, rfl⟩
  have hR : mulR ⟨ka, ba, na, sa⟩ ⟨kb, bb, nb, sb⟩ = (⟨rk, rb, rn, rs⟩, re) := by unfold mulR; rw [← hr, ← hq]
  rw [hR]
  have HR := Lib.hid hr
  have HQ := Lib.hid hq
  clear hr hR hq
  have hall : ∀ d ∈ ([⟨ka, ba, na, sa⟩, ⟨kb, bb, nb, sb⟩] : List Dat), d.s.size ≤ 9223372036854775807 := by
    intro d hd
    simp at hd
    rcases hd with rfl | rfl
    · exact hs
    · exact hs2
  have HALL := Lib.hid hall
  clear hall
  go_enter Tryd.func27, Tryd.ntmps27
  go_wp2_with (go_at_call 57; refine Calls.mono (HR.out ▸ apply_any 3 66 _ _ 2 2 [⟨ka, ba, na, sa⟩, ⟨kb, bb, nb, sb⟩] _ q (fun _ _ => by kernel_rfl) (Lib.hid fun W x => HQ.out ▸ mul1_any _ _ na nb W (((((((Bk.new w 24 #[.int .u8 ka, .bool ba, .int .i64 na, .string sa]).alloc _).alloc _).alloc _).ext x).cell 2)) (((((Bk.at (g := w.heap.size + 1) (t := 24) (cs := #[.int .u8 kb, .bool bb, .int .i64 nb, .string sb]) (by simp)).alloc _).alloc _).ext x).cell 2) (by have := x.size; simp at this; omega) (by have := x.size; simp at this; omega)) rfl (by omega) (Dats.two (Bk.at (by simp))) HALL.out (G.ext (((((Ext.refl w).alloc _).alloc _).alloc _).alloc _))) ?_; rintro r w1 ⟨rfl, x1⟩; have bz : Bk w1 (w.heap.size + 1 + 1) 24 #[.int .u8 0, .bool false, .int .i64 0, .string ⟨#[]⟩] := ((Bk.at (by simp)).alloc _).ext x1; have bzf0 : w1.frozen? ⟨w.heap.size + 1 + 1, 0, none⟩ = false := bz.free 0; have bzf1 : w1.frozen? ⟨w.heap.size + 1 + 1, 1, none⟩ = false := bz.free 1; have bzf2 : w1.frozen? ⟨w.heap.size + 1 + 1, 2, none⟩ = false := bz.free 2; have bzf3 : w1.frozen? ⟨w.heap.size + 1 + 1, 3, none⟩ = false := bz.free 3; have bz0 : w1.cell? ⟨w.heap.size + 1 + 1, 0, none⟩ = some (.int .u8 (0)) := bz.cell 0; have bz1 : w1.cell? ⟨w.heap.size + 1 + 1, 1, none⟩ = some (.bool (false)) := bz.cell 1; have bz2 : w1.cell? ⟨w.heap.size + 1 + 1, 2, none⟩ = some (.int .i64 (0)) := bz.cell 2; have bz3 : w1.cell? ⟨w.heap.size + 1 + 1, 3, none⟩ = some (.string (⟨#[]⟩)) := bz.cell 3)
  have q := bz.set4 (.int .u8 (rk)) (.bool (rb)) (.int .i64 (rn)) (.string (rs)); refine bodyPost_ret (v := .tuple #[.agg #[.int .u8 (rk), .bool (rb), .int .i64 (rn), .string (rs)], .int .u16 (re)]) (by simp [results, Tryd.results27, go_sem, q.1, q.2.1, q.2.2.1, q.2.2.2]) rfl ⟨rfl, Ext.set4 ((((((Ext.refl w).alloc _).alloc _).alloc _).alloc _).trans x1) (by first | omega | simp) _ _ _ _⟩
end Go.Proofs.YtobgfegdfcpgfaaDoor
