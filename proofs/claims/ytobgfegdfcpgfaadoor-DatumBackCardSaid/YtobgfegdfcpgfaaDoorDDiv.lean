/- datum.Div, Mod: what they answer. Conditions: the library's tables stand. -/
import Derived.Test.YtobgfegdfcpgfaaDoorDOps
namespace Go.Proofs.YtobgfegdfcpgfaaDoor
open Go.RowKit


def div1R (x y : Int) : Dat × Int := if y = 0 then (Dat.zero, 11) else if y = -1 then wholeR (wrap64 (-x)) (decide (x = -9223372036854775808)) else (Dat.int (x.tdiv y), 0)
def divR (a b : Dat) : Dat × Int := applyR 3 [a, b] (div1R a.n b.n)
set_option maxRecDepth 100000 in
set_option maxHeartbeats 800000 in
theorem div1_any (ga gb : Nat) (x y : Int) (w : World) (bx : -9223372036854775808 ≤ x ∧ x ≤ 9223372036854775807) (bY : -9223372036854775808 ≤ y ∧ y ≤ 9223372036854775807) (ha : w.cell? ⟨ga, 2, none⟩ = some (.int .i64 x)) (hb : w.cell? ⟨gb, 2, none⟩ = some (.int .i64 y)) (hga : ga < w.heap.size) (hgb : gb < w.heap.size) :
    Calls Tryd.prog 69 #[.pointer (some ⟨gb, 0, none⟩), .pointer (some ⟨ga, 0, none⟩)] w (Out w (div1R x y)) := by
  have hn1 : ¬ ga = w.heap.size := by omega
  have hn2 : ¬ gb = w.heap.size := by omega
  obtain ⟨bx1, bx2⟩ := bx
  obtain ⟨by1, by2⟩ := bY
  by_cases y0 : y = 0
  · subst y0
    go_enter Tryd.func69, Tryd.ntmps69
    go_wp2
    go_returns
    exact ⟨rfl, (Ext.refl w).alloc _⟩
  by_cases y1 : y = -1
  · subst y1
    obtain ⟨c, hc⟩ : ∃ c, c = wrap64 (-x) := ⟨_, rfl⟩
    obtain ⟨v, hv⟩ : ∃ v, v = decide (x = -9223372036854775808) := ⟨_, rfl⟩
    obtain ⟨⟨⟨rk, rb, rn, rs⟩, re⟩, hr⟩ : ∃ r, wholeR c v = r := ⟨_, rfl⟩
    have hR : div1R x (-1) = (⟨rk, rb, rn, rs⟩, re) := by unfold div1R; rw [if_neg (by omega), if_pos rfl, ← hr, hv, hc]
    rw [hR]
    have HR := Lib.hid hr
    have w1 : IntKind.i64.wrap (-x) = c := by rw [hc, IntKind.wrap_i64]; unfold wrap64; omega
    have w2 : wrap64 (-x) = c := hc.symm
    have K : ((x == -9223372036854775808) = true ∧ v = true) ∨ ((x == -9223372036854775808) = false ∧ v = false) := by
      subst hv
      by_cases q : x = -9223372036854775808 <;> simp [q]
    clear hr hR hc hv
    rcases K with ⟨q, rfl⟩ | ⟨q, rfl⟩
    all_goals
      go_enter Tryd.func69, Tryd.ntmps69
      go_wp2_with (go_at_call 65; refine (whole_at c _ _ HR).mono ?_; rintro r w1 ⟨rfl, x1⟩; have bz := (Bk.new w 24 #[.int .u8 0, .bool false, .int .i64 0, .string ⟨#[]⟩]).ext x1; have bzf0 : w1.frozen? ⟨w.heap.size, 0, none⟩ = false := bz.free 0; have bzf1 : w1.frozen? ⟨w.heap.size, 1, none⟩ = false := bz.free 1; have bzf2 : w1.frozen? ⟨w.heap.size, 2, none⟩ = false := bz.free 2; have bzf3 : w1.frozen? ⟨w.heap.size, 3, none⟩ = false := bz.free 3; have bz0 : w1.cell? ⟨w.heap.size, 0, none⟩ = some (.int .u8 (0)) := bz.cell 0; have bz1 : w1.cell? ⟨w.heap.size, 1, none⟩ = some (.bool (false)) := bz.cell 1; have bz2 : w1.cell? ⟨w.heap.size, 2, none⟩ = some (.int .i64 (0)) := bz.cell 2; have bz3 : w1.cell? ⟨w.heap.size, 3, none⟩ = some (.string (⟨#[]⟩)) := bz.cell 3)
      have q := bz.set4 (.int .u8 (rk)) (.bool (rb)) (.int .i64 (rn)) (.string (rs)); refine bodyPost_ret (v := .tuple #[.agg #[.int .u8 (rk), .bool (rb), .int .i64 (rn), .string (rs)], .int .u16 (re)]) (by simp [results, Tryd.results69, go_sem, q.1, q.2.1, q.2.2.1, q.2.2.2]) rfl ⟨rfl, Ext.set4 (((Ext.refl w).alloc _).trans x1) (by first | omega | simp) _ _ _ _⟩
  · have hR : div1R x y = (Dat.int (x.tdiv y), 0) := by unfold div1R; rw [if_neg y0, if_neg y1]
    rw [hR]
    have z0 : (y == 0) = false := by simpa using y0
    have z1 : (y == -1) = false := by simpa using y1
    obtain ⟨c, hc⟩ : ∃ c, x.tdiv y = c := ⟨_, rfl⟩
    rw [hc]
    have bc : -9223372036854775808 ≤ c ∧ c ≤ 9223372036854775807 := by
      subst hc
      have h1 : (x.tdiv y).natAbs ≤ x.natAbs := by rw [Int.natAbs_tdiv]; exact Nat.div_le_self _ _
      by_cases hx : x = -9223372036854775808
      · by_cases hy : y = 1
        · subst hy; simp; omega
        · have h2 : (x.tdiv y).natAbs ≤ x.natAbs / 2 := by
            rw [Int.natAbs_tdiv]
            exact Nat.div_le_div_left (by omega) (by omega)
          omega
      · omega
    have w1 : IntKind.i64.wrap (x.tdiv y) = c := by rw [hc]; exact IntWalk.i64_in _ (by omega)
    have w2 : IntKind.i64.wrap c = c := IntWalk.i64_in _ (by omega)
    clear hR
    go_enter Tryd.func69, Tryd.ntmps69
    go_wp2_with (go_at_call 67; refine (number_any _ _).mono ?_; rintro r w1 ⟨rfl, x1⟩; have bz := (Bk.new w 24 #[.int .u8 0, .bool false, .int .i64 0, .string ⟨#[]⟩]).ext x1; have bzf0 : w1.frozen? ⟨w.heap.size, 0, none⟩ = false := bz.free 0; have bzf1 : w1.frozen? ⟨w.heap.size, 1, none⟩ = false := bz.free 1; have bzf2 : w1.frozen? ⟨w.heap.size, 2, none⟩ = false := bz.free 2; have bzf3 : w1.frozen? ⟨w.heap.size, 3, none⟩ = false := bz.free 3; have bz0 : w1.cell? ⟨w.heap.size, 0, none⟩ = some (.int .u8 (0)) := bz.cell 0; have bz1 : w1.cell? ⟨w.heap.size, 1, none⟩ = some (.bool (false)) := bz.cell 1; have bz2 : w1.cell? ⟨w.heap.size, 2, none⟩ = some (.int .i64 (0)) := bz.cell 2; have bz3 : w1.cell? ⟨w.heap.size, 3, none⟩ = some (.string (⟨#[]⟩)) := bz.cell 3)
    have q := bz.set4 (.int .u8 (3)) (.bool (false)) (.int .i64 (c)) (.string (⟨#[]⟩)); refine bodyPost_ret (v := .tuple #[.agg #[.int .u8 (3), .bool (false), .int .i64 (c), .string (⟨#[]⟩)], .int .u16 (0)]) (by simp [results, Tryd.results69, go_sem, q.1, q.2.1, q.2.2.1, q.2.2.2]) rfl ⟨rfl, Ext.set4 (((Ext.refl w).alloc _).trans x1) (by first | omega | simp) _ _ _ _⟩

def mod1R (x y : Int) : Dat × Int := if y = 0 then (Dat.zero, 11) else if y = -1 then (Dat.int 0, 0) else (Dat.int (x.tmod y), 0)
def modR (a b : Dat) : Dat × Int := applyR 3 [a, b] (mod1R a.n b.n)
theorem tmod_bound (x y : Int) (bx : -9223372036854775808 ≤ x ∧ x ≤ 9223372036854775807) : -9223372036854775808 ≤ x.tmod y ∧ x.tmod y ≤ 9223372036854775807 := by
  have h1 : (x.tmod y).natAbs ≤ x.natAbs := by rw [Int.natAbs_tmod]; exact Nat.mod_le _ _
  rcases Int.le_total 0 x with h | h
  · have := Int.tmod_nonneg y h
    omega
  · have h2 : x.tmod y ≤ 0 := by
      have := Int.tmod_nonneg y (show 0 ≤ -x by omega)
      rw [Int.neg_tmod] at this
      omega
    omega
set_option maxRecDepth 100000 in
set_option maxHeartbeats 800000 in
theorem mod1_any (ga gb : Nat) (x y : Int) (w : World) (bx : -9223372036854775808 ≤ x ∧ x ≤ 9223372036854775807) (bY : -9223372036854775808 ≤ y ∧ y ≤ 9223372036854775807) (ha : w.cell? ⟨ga, 2, none⟩ = some (.int .i64 x)) (hb : w.cell? ⟨gb, 2, none⟩ = some (.int .i64 y)) (hga : ga < w.heap.size) (hgb : gb < w.heap.size) :
    Calls Tryd.prog 70 #[.pointer (some ⟨gb, 0, none⟩), .pointer (some ⟨ga, 0, none⟩)] w (Out w (mod1R x y)) := by
  have hn1 : ¬ ga = w.heap.size := by omega
  have hn2 : ¬ gb = w.heap.size := by omega
  have bm := tmod_bound x y bx
  obtain ⟨bx1, bx2⟩ := bx
  obtain ⟨by1, by2⟩ := bY
  by_cases y0 : y = 0
  · subst y0
    go_enter Tryd.func70, Tryd.ntmps70
    go_wp2
    go_returns
    exact ⟨rfl, (Ext.refl w).alloc _⟩
  by_cases y1 : y = -1
  · subst y1
    go_enter Tryd.func70, Tryd.ntmps70
    go_wp2_with (go_at_call 67; refine (number_any _ _).mono ?_; rintro r w1 ⟨rfl, x1⟩; have bz := (Bk.new w 24 #[.int .u8 0, .bool false, .int .i64 0, .string ⟨#[]⟩]).ext x1; have bzf0 : w1.frozen? ⟨w.heap.size, 0, none⟩ = false := bz.free 0; have bzf1 : w1.frozen? ⟨w.heap.size, 1, none⟩ = false := bz.free 1; have bzf2 : w1.frozen? ⟨w.heap.size, 2, none⟩ = false := bz.free 2; have bzf3 : w1.frozen? ⟨w.heap.size, 3, none⟩ = false := bz.free 3; have bz0 : w1.cell? ⟨w.heap.size, 0, none⟩ = some (.int .u8 (0)) := bz.cell 0; have bz1 : w1.cell? ⟨w.heap.size, 1, none⟩ = some (.bool (false)) := bz.cell 1; have bz2 : w1.cell? ⟨w.heap.size, 2, none⟩ = some (.int .i64 (0)) := bz.cell 2; have bz3 : w1.cell? ⟨w.heap.size, 3, none⟩ = some (.string (⟨#[]⟩)) := bz.cell 3)
    have q := bz.set4 (.int .u8 (3)) (.bool (false)) (.int .i64 (0)) (.string (⟨#[]⟩)); refine bodyPost_ret (v := .tuple #[.agg #[.int .u8 (3), .bool (false), .int .i64 (0), .string (⟨#[]⟩)], .int .u16 (0)]) (by simp [results, Tryd.results70, go_sem, q.1, q.2.1, q.2.2.1, q.2.2.2]) rfl ⟨rfl, Ext.set4 (((Ext.refl w).alloc _).trans x1) (by first | omega | simp) _ _ _ _⟩
  · have hR : mod1R x y = (Dat.int (x.tmod y), 0) := by unfold mod1R; rw [if_neg y0, if_neg y1]
    rw [hR]
    have z0 : (y == 0) = false := by simpa using y0
    have z1 : (y == -1) = false := by simpa using y1
    obtain ⟨c, hc⟩ : ∃ c, x.tmod y = c := ⟨_, rfl⟩
    rw [hc] at bm ⊢
    have w1 : IntKind.i64.wrap (x.tmod y) = c := by rw [hc]; exact IntWalk.i64_in _ (by omega)
    have w2 : IntKind.i64.wrap c = c := IntWalk.i64_in _ (by omega)
    clear hR
    go_enter Tryd.func70, Tryd.ntmps70
    go_wp2_with (go_at_call 67; refine (number_any _ _).mono ?_; rintro r w1 ⟨rfl, x1⟩; have bz := (Bk.new w 24 #[.int .u8 0, .bool false, .int .i64 0, .string ⟨#[]⟩]).ext x1; have bzf0 : w1.frozen? ⟨w.heap.size, 0, none⟩ = false := bz.free 0; have bzf1 : w1.frozen? ⟨w.heap.size, 1, none⟩ = false := bz.free 1; have bzf2 : w1.frozen? ⟨w.heap.size, 2, none⟩ = false := bz.free 2; have bzf3 : w1.frozen? ⟨w.heap.size, 3, none⟩ = false := bz.free 3; have bz0 : w1.cell? ⟨w.heap.size, 0, none⟩ = some (.int .u8 (0)) := bz.cell 0; have bz1 : w1.cell? ⟨w.heap.size, 1, none⟩ = some (.bool (false)) := bz.cell 1; have bz2 : w1.cell? ⟨w.heap.size, 2, none⟩ = some (.int .i64 (0)) := bz.cell 2; have bz3 : w1.cell? ⟨w.heap.size, 3, none⟩ = some (.string (⟨#[]⟩)) := bz.cell 3)
    have q := bz.set4 (.int .u8 (3)) (.bool (false)) (.int .i64 (c)) (.string (⟨#[]⟩)); refine bodyPost_ret (v := .tuple #[.agg #[.int .u8 (3), .bool (false), .int .i64 (c), .string (⟨#[]⟩)], .int .u16 (0)]) (by simp [results, Tryd.results70, go_sem, q.1, q.2.1, q.2.2.1, q.2.2.2]) rfl ⟨rfl, Ext.set4 (((Ext.refl w).alloc _).trans x1) (by first | omega | simp) _ _ _ _⟩

set_option maxRecDepth 100000 in
set_option maxHeartbeats 800000 in
theorem div_any (a b : Dat) (w : World) (hn : -9223372036854775808 ≤ a.n ∧ a.n ≤ 9223372036854775807) (hn2 : -9223372036854775808 ≤ b.n ∧ b.n ≤ 9223372036854775807) (hs : a.s.size ≤ 9223372036854775807) (hs2 : b.s.size ≤ 9223372036854775807) (G : Good w) : Calls Tryd.prog 29 #[.agg #[.int .u8 a.k, .bool a.b, .int .i64 a.n, .string a.s], .agg #[.int .u8 b.k, .bool b.b, .int .i64 b.n, .string b.s]] w (Out w (divR a b)) := by
  obtain ⟨ka, ba, na, sa⟩ := a
  obtain ⟨kb, bb, nb, sb⟩ := b
  have HN1 := Lib.hid hn
  have HN2 := Lib.hid hn2
  clear hn hn2
  obtain ⟨q, hq⟩ : ∃ q, div1R na nb = q := ⟨_, rfl⟩
  obtain ⟨⟨⟨rk, rb, rn, rs⟩, re⟩, hr⟩ : ∃ r, applyR 3 [⟨ka, ba, na, sa⟩, ⟨kb, bb, nb, sb⟩] q = r := ⟨_, rfl⟩
  have hR : divR ⟨ka, ba, na, sa⟩ ⟨kb, bb, nb, sb⟩ = (⟨rk, rb, rn, rs⟩, re) := by unfold divR; rw [← hr, ← hq]
  rw [hR]
  have HR := Lib.hid hr
  have HQ := Lib.hid hq
  clear hr hR hq
  have hall : ∀ d ∈ ([⟨ka, ba, na, sa⟩, ⟨kb, bb, nb, sb⟩] : List Dat), d.s.size ≤ 9223372036854775807 := by
    intro d hd
    simp at hd
    rcases hd with rfl | rfl
    · exact hs
    · exact hs2
  have HALL := Lib.hid hall
  clear hall
  go_enter Tryd.func29, Tryd.ntmps29
  go_wp2_with (go_at_call 57; refine Calls.mono (HR.out ▸ apply_any 3 69 _ _ 2 2 [⟨ka, ba, na, sa⟩, ⟨kb, bb, nb, sb⟩] _ q (fun _ _ => by kernel_rfl) (Lib.hid fun W x => HQ.out ▸ div1_any _ _ na nb W HN1.out HN2.out (((((((Bk.new w 24 #[.int .u8 ka, .bool ba, .int .i64 na, .string sa]).alloc _).alloc _).alloc _).ext x).cell 2)) (((((Bk.at (g := w.heap.size + 1) (t := 24) (cs := #[.int .u8 kb, .bool bb, .int .i64 nb, .string sb]) (by simp)).alloc _).alloc _).ext x).cell 2) (by have := x.size; simp at this; omega) (by have := x.size; simp at this; omega)) rfl (by omega) (Dats.two (Bk.at (by simp))) HALL.out (G.ext (((((Ext.refl w).alloc _).alloc _).alloc _).alloc _))) ?_; rintro r w1 ⟨rfl, x1⟩; have bz : Bk w1 (w.heap.size + 1 + 1) 24 #[.int .u8 0, .bool false, .int .i64 0, .string ⟨#[]⟩] := ((Bk.at (by simp)).alloc _).ext x1; have bzf0 : w1.frozen? ⟨w.heap.size + 1 + 1, 0, none⟩ = false := bz.free 0; have bzf1 : w1.frozen? ⟨w.heap.size + 1 + 1, 1, none⟩ = false := bz.free 1; have bzf2 : w1.frozen? ⟨w.heap.size + 1 + 1, 2, none⟩ = false := bz.free 2; have bzf3 : w1.frozen? ⟨w.heap.size + 1 + 1, 3, none⟩ = false := bz.free 3; have bz0 : w1.cell? ⟨w.heap.size + 1 + 1, 0, none⟩ = some (.int .u8 (0)) := bz.cell 0; have bz1 : w1.cell? ⟨w.heap.size + 1 + 1, 1, none⟩ = some (.bool (false)) := bz.cell 1; have bz2 : w1.cell? ⟨w.heap.size + 1 + 1, 2, none⟩ = some (.int .i64 (0)) := bz.cell 2; have bz3 : w1.cell? ⟨w.heap.size + 1 + 1, 3, none⟩ = some (.string (⟨#[]⟩)) := bz.cell 3)
  have q := bz.set4 (.int .u8 (rk)) (.bool (rb)) (.int .i64 (rn)) (.string (rs)); refine bodyPost_ret (v := .tuple #[.agg #[.int .u8 (rk), .bool (rb), .int .i64 (rn), .string (rs)], .int .u16 (re)]) (by simp [results, Tryd.results29, go_sem, q.1, q.2.1, q.2.2.1, q.2.2.2]) rfl ⟨rfl, Ext.set4 ((((((Ext.refl w).alloc _).alloc _).alloc _).alloc _).trans x1) (by first | omega | simp) _ _ _ _⟩

set_option maxRecDepth 100000 in
set_option maxHeartbeats 800000 in
theorem mod_any (a b : Dat) (w : World) (hn : -9223372036854775808 ≤ a.n ∧ a.n ≤ 9223372036854775807) (hn2 : -9223372036854775808 ≤ b.n ∧ b.n ≤ 9223372036854775807) (hs : a.s.size ≤ 9223372036854775807) (hs2 : b.s.size ≤ 9223372036854775807) (G : Good w) : Calls Tryd.prog 30 #[.agg #[.int .u8 a.k, .bool a.b, .int .i64 a.n, .string a.s], .agg #[.int .u8 b.k, .bool b.b, .int .i64 b.n, .string b.s]] w (Out w (modR a b)) := by
  obtain ⟨ka, ba, na, sa⟩ := a
  obtain ⟨kb, bb, nb, sb⟩ := b
  have HN1 := Lib.hid hn
  have HN2 := Lib.hid hn2
  clear hn hn2
  obtain ⟨q, hq⟩ : ∃ q, mod1R na nb = q := ⟨_, rfl⟩
  obtain ⟨⟨⟨rk, rb, rn, rs⟩, re⟩, hr⟩ : ∃ r, applyR 3 [⟨ka, ba, na, sa⟩, ⟨kb, bb, nb, sb⟩] q = r := ⟨_, rfl⟩
  have hR : modR ⟨ka, ba, na, sa⟩ ⟨kb, bb, nb, sb⟩ = (⟨rk, rb, rn, rs⟩, re) := by unfold modR; rw [← hr, ← hq]
  rw [hR]
  have HR := Lib.hid hr
  have HQ := Lib.hid hq
  clear hr hR hq
  have hall : ∀ d ∈ ([⟨ka, ba, na, sa⟩, ⟨kb, bb, nb, sb⟩] : List Dat), d.s.size ≤ 9223372036854775807 := by
    intro d hd
    simp at hd
    rcases hd with rfl | rfl
    · exact hs
    · exact hs2
  have HALL := Lib.hid hall
  clear hall
  go_enter Tryd.func30, Tryd.ntmps30
  go_wp2_with (go_at_call 57; refine Calls.mono (HR.out ▸ apply_any 3 70 _ _ 2 2 [⟨ka, ba, na, sa⟩, ⟨kb, bb, nb, sb⟩] _ q (fun _ _ => by kernel_rfl) (Lib.hid fun W x => HQ.out ▸ mod1_any _ _ na nb W HN1.out HN2.out (((((((Bk.new w 24 #[.int .u8 ka, .bool ba, .int .i64 na, .string sa]).alloc _).alloc _).alloc _).ext x).cell 2)) (((((Bk.at (g := w.heap.size + 1) (t := 24) (cs := #[.int .u8 kb, .bool bb, .int .i64 nb, .string sb]) (by simp)).alloc _).alloc _).ext x).cell 2) (by have := x.size; simp at this; omega) (by have := x.size; simp at this; omega)) rfl (by omega) (Dats.two (Bk.at (by simp))) HALL.out (G.ext (((((Ext.refl w).alloc _).alloc _).alloc _).alloc _))) ?_; rintro r w1 ⟨rfl, x1⟩; have bz : Bk w1 (w.heap.size + 1 + 1) 24 #[.int .u8 0, .bool false, .int .i64 0, .string ⟨#[]⟩] := ((Bk.at (by simp)).alloc _).ext x1; have bzf0 : w1.frozen? ⟨w.heap.size + 1 + 1, 0, none⟩ = false := bz.free 0; have bzf1 : w1.frozen? ⟨w.heap.size + 1 + 1, 1, none⟩ = false := bz.free 1; have bzf2 : w1.frozen? ⟨w.heap.size + 1 + 1, 2, none⟩ = false := bz.free 2; have bzf3 : w1.frozen? ⟨w.heap.size + 1 + 1, 3, none⟩ = false := bz.free 3; have bz0 : w1.cell? ⟨w.heap.size + 1 + 1, 0, none⟩ = some (.int .u8 (0)) := bz.cell 0; have bz1 : w1.cell? ⟨w.heap.size + 1 + 1, 1, none⟩ = some (.bool (false)) := bz.cell 1; have bz2 : w1.cell? ⟨w.heap.size + 1 + 1, 2, none⟩ = some (.int .i64 (0)) := bz.cell 2; have bz3 : w1.cell? ⟨w.heap.size + 1 + 1, 3, none⟩ = some (.string (⟨#[]⟩)) := bz.cell 3)
  have q := bz.set4 (.int .u8 (rk)) (.bool (rb)) (.int .i64 (rn)) (.string (rs)); refine bodyPost_ret (v := .tuple #[.agg #[.int .u8 (rk), .bool (rb), .int .i64 (rn), .string (rs)], .int .u16 (re)]) (by simp [results, Tryd.results30, go_sem, q.1, q.2.1, q.2.2.1, q.2.2.2]) rfl ⟨rfl, Ext.set4 ((((((Ext.refl w).alloc _).alloc _).alloc _).alloc _).trans x1) (by first | omega | simp) _ _ _ _⟩
end Go.Proofs.YtobgfegdfcpgfaaDoor
