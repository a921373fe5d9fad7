/- datum.either, And, Or: what they answer. Conditions: the library's tables stand. -/
import Derived.Test.YtobgfegdfcpgfaaDoorDOps
namespace Go.Proofs.YtobgfegdfcpgfaaDoor
open Go.RowKit

def isB (strong : Bool) (d : Dat) : Bool := d.k == 2 && (d.b == strong)
theorem isB_yes {strong : Bool} {k n : Int} {b : Bool} {s : ByteArray} (h : isB strong ⟨k, b, n, s⟩ = true) : k = 2 ∧ b = strong := by simpa [isB] using h
set_option maxRecDepth 100000 in
set_option maxHeartbeats 400000 in
theorem is_any (strong : Bool) (g : Nat) (k : Int) (b : Bool) (n : Int) (s : ByteArray) (w : World) (hc : w.cell? ⟨g, 0, none⟩ = some (.bool strong)) (hg : g < w.heap.size) :
    Calls Tryd.prog 98 #[.agg #[.int .u8 k, .bool b, .int .i64 n, .string s], .pointer (some ⟨g, 0, none⟩)] w fun e w' => e = .returned (.bool (isB strong ⟨k, b, n, s⟩)) ∧ Ext w w' := by
  have hne : ¬ g = w.heap.size := by omega
  by_cases hk : k = 2
  · subst hk
    have hi : isB strong ⟨2, b, n, s⟩ = (b == strong) := by simp [isB]
    rw [hi]
    clear hi
    cases b <;> cases strong
    all_goals
      go_enter Tryd.func98, Tryd.ntmps98
      go_wp2
      go_ret
      exact ⟨rfl, (Ext.refl w).alloc _⟩
  · have z : (k == 2) = false := by simpa using hk
    have hi : isB strong ⟨k, b, n, s⟩ = false := by simp [isB, z]
    rw [hi]
    clear hi hk
    go_enter Tryd.func98, Tryd.ntmps98
    go_wp2
    go_ret
    exact ⟨rfl, (Ext.refl w).alloc _⟩
theorem is_at {r : Bool} (strong : Bool) (g : Nat) (k : Int) (b : Bool) (n : Int) (s : ByteArray) (w : World) (h : Hid (isB strong ⟨k, b, n, s⟩ = r)) (hc : w.cell? ⟨g, 0, none⟩ = some (.bool strong)) (hg : g < w.heap.size) :
    Calls Tryd.prog 98 #[.agg #[.int .u8 k, .bool b, .int .i64 n, .string s], .pointer (some ⟨g, 0, none⟩)] w fun e w' => e = .returned (.bool r) ∧ Ext w w' := h.out ▸ is_any strong g k b n s w hc hg

def eitherR (strong : Bool) (a b : Dat) : Dat × Int :=
  if (ofT 2 [a, b]).2 = 0 then (if isB strong a || isB strong b then (Dat.bool strong, 0) else if (ofT 2 [a, b]).1 then (Dat.null, 0) else (Dat.bool (!strong), 0)) else (Dat.zero, (ofT 2 [a, b]).2)
section
variable (strong : Bool) (ka na kb nb : Int) (ba bb : Bool) (sa sb : ByteArray) (w : World)
set_option maxRecDepth 100000 in
set_option maxHeartbeats 1600000 in
theorem either_raw {u : Bool} {e : Int} {ia ib : Bool} (hof : Hid (ofT 2 [⟨ka, ba, na, sa⟩, ⟨kb, bb, nb, sb⟩] = (u, e))) (hia : Hid (isB strong ⟨ka, ba, na, sa⟩ = ia)) (hib : Hid (isB strong ⟨kb, bb, nb, sb⟩ = ib)) (hcase : (u = false ∧ (e == 0) = false ∧ (e != 0) = true) ∨ (e = 0 ∧ (ia = true ∨ ia = false ∧ (ib = true ∨ ib = false ∧ (u = true ∨ u = false)))))
    (hs : sa.size ≤ 9223372036854775807) (hs2 : sb.size ≤ 9223372036854775807) (G : Good w) :
    Calls Tryd.prog 60 #[.bool strong, .agg #[.int .u8 ka, .bool ba, .int .i64 na, .string sa], .agg #[.int .u8 kb, .bool bb, .int .i64 nb, .string sb]] w
      (Out w (if (e == 0) then (if ia || ib then (Dat.bool strong, 0) else if u then (Dat.null, 0) else (Dat.bool (!strong), 0)) else (Dat.zero, e))) := by
  have hall : ∀ d ∈ ([⟨ka, ba, na, sa⟩, ⟨kb, bb, nb, sb⟩] : List Dat), d.s.size ≤ 9223372036854775807 := by
    intro d hd
    simp at hd
    rcases hd with rfl | rfl
    · exact hs
    · exact hs2
  have HALL := Lib.hid hall
  clear hall
  have m1 : True := trivial
  have m2 : True := trivial
  rcases hcase with ⟨rfl, z1, z2⟩ | ⟨rfl, rfl | ⟨rfl, rfl | ⟨rfl, rfl | rfl⟩⟩⟩
  all_goals
    go_enter Tryd.func60, Tryd.ntmps60
    go_wp2_with (first
      | (have z := m1; clear z m1; go_at_call 97; refine (of_at 2 _ 2 [⟨ka, ba, na, sa⟩, ⟨kb, bb, nb, sb⟩] _ hof (by simp) (Dats.two (Bk.at (by simp))) HALL.out (G.ext ((((((Ext.refl w).alloc _).alloc _).alloc _).alloc _).alloc _))).mono ?_; rintro r w1 ⟨rfl, x1⟩; have b0 : Bk w1 w.heap.size 4 #[.bool strong] := (((((Bk.new w _ _).alloc _).alloc _).alloc _).alloc _).ext x1; have b1 : Bk w1 (w.heap.size + 1) 24 #[.int .u8 ka, .bool ba, .int .i64 na, .string sa] := ((((Bk.at (by simp)).alloc _).alloc _).alloc _).ext x1; have b2 : Bk w1 (w.heap.size + 1 + 1) 24 #[.int .u8 kb, .bool bb, .int .i64 nb, .string sb] := (((Bk.at (by simp)).alloc _).alloc _).ext x1; have bz : Bk w1 (w.heap.size + 1 + 1 + 1) 24 #[.int .u8 0, .bool false, .int .i64 0, .string ⟨#[]⟩] := ((Bk.at (by simp)).alloc _).ext x1; have b10 : w1.cell? ⟨w.heap.size + 1, 0, none⟩ = some (.int .u8 (ka)) := b1.cell 0; have b11 : w1.cell? ⟨w.heap.size + 1, 1, none⟩ = some (.bool (ba)) := b1.cell 1; have b12 : w1.cell? ⟨w.heap.size + 1, 2, none⟩ = some (.int .i64 (na)) := b1.cell 2; have b13 : w1.cell? ⟨w.heap.size + 1, 3, none⟩ = some (.string (sa)) := b1.cell 3; have bzf0 : w1.frozen? ⟨w.heap.size + 1 + 1 + 1, 0, none⟩ = false := bz.free 0; have bzf1 : w1.frozen? ⟨w.heap.size + 1 + 1 + 1, 1, none⟩ = false := bz.free 1; have bzf2 : w1.frozen? ⟨w.heap.size + 1 + 1 + 1, 2, none⟩ = false := bz.free 2; have bzf3 : w1.frozen? ⟨w.heap.size + 1 + 1 + 1, 3, none⟩ = false := bz.free 3; have bz0 : w1.cell? ⟨w.heap.size + 1 + 1 + 1, 0, none⟩ = some (.int .u8 (0)) := bz.cell 0; have bz1 : w1.cell? ⟨w.heap.size + 1 + 1 + 1, 1, none⟩ = some (.bool (false)) := bz.cell 1; have bz2 : w1.cell? ⟨w.heap.size + 1 + 1 + 1, 2, none⟩ = some (.int .i64 (0)) := bz.cell 2; have bz3 : w1.cell? ⟨w.heap.size + 1 + 1 + 1, 3, none⟩ = some (.string (⟨#[]⟩)) := bz.cell 3; have E1 : Ext w w1 := ((((((Ext.refl w).alloc _).alloc _).alloc _).alloc _).alloc _).trans x1; clear x1; have m3 : True := trivial)
      | (have z := m3; clear z m3; go_at_call 98; refine (is_at strong _ ka ba na sa _ hia (b0.cell 0) b0.lt).mono ?_; rintro r w2 ⟨rfl, x2⟩; have c0 := b0.ext x2; have c2 := b2.ext x2; have cz := bz.ext x2; have c00 : w2.cell? ⟨w.heap.size, 0, none⟩ = some (.bool strong) := c0.cell 0; have c20 : w2.cell? ⟨w.heap.size + 1 + 1, 0, none⟩ = some (.int .u8 (kb)) := c2.cell 0; have c21 : w2.cell? ⟨w.heap.size + 1 + 1, 1, none⟩ = some (.bool (bb)) := c2.cell 1; have c22 : w2.cell? ⟨w.heap.size + 1 + 1, 2, none⟩ = some (.int .i64 (nb)) := c2.cell 2; have c23 : w2.cell? ⟨w.heap.size + 1 + 1, 3, none⟩ = some (.string (sb)) := c2.cell 3; have czf0 : w2.frozen? ⟨w.heap.size + 1 + 1 + 1, 0, none⟩ = false := cz.free 0; have czf1 : w2.frozen? ⟨w.heap.size + 1 + 1 + 1, 1, none⟩ = false := cz.free 1; have czf2 : w2.frozen? ⟨w.heap.size + 1 + 1 + 1, 2, none⟩ = false := cz.free 2; have czf3 : w2.frozen? ⟨w.heap.size + 1 + 1 + 1, 3, none⟩ = false := cz.free 3; have cz0 : w2.cell? ⟨w.heap.size + 1 + 1 + 1, 0, none⟩ = some (.int .u8 (0)) := cz.cell 0; have cz1 : w2.cell? ⟨w.heap.size + 1 + 1 + 1, 1, none⟩ = some (.bool (false)) := cz.cell 1; have cz2 : w2.cell? ⟨w.heap.size + 1 + 1 + 1, 2, none⟩ = some (.int .i64 (0)) := cz.cell 2; have cz3 : w2.cell? ⟨w.heap.size + 1 + 1 + 1, 3, none⟩ = some (.string (⟨#[]⟩)) := cz.cell 3; have E2 : Ext w w2 := E1.trans x2; clear x2; have m4 : True := trivial)
      | (have z := m4; clear z m4; go_at_call 98; refine (is_at strong _ kb bb nb sb _ hib (c0.cell 0) c0.lt).mono ?_; rintro r w3 ⟨rfl, x3⟩; have d0 := c0.ext x3; have dz := cz.ext x3; have d00 : w3.cell? ⟨w.heap.size, 0, none⟩ = some (.bool strong) := d0.cell 0; have dzf0 : w3.frozen? ⟨w.heap.size + 1 + 1 + 1, 0, none⟩ = false := dz.free 0; have dzf1 : w3.frozen? ⟨w.heap.size + 1 + 1 + 1, 1, none⟩ = false := dz.free 1; have dzf2 : w3.frozen? ⟨w.heap.size + 1 + 1 + 1, 2, none⟩ = false := dz.free 2; have dzf3 : w3.frozen? ⟨w.heap.size + 1 + 1 + 1, 3, none⟩ = false := dz.free 3; have dz0 : w3.cell? ⟨w.heap.size + 1 + 1 + 1, 0, none⟩ = some (.int .u8 (0)) := dz.cell 0; have dz1 : w3.cell? ⟨w.heap.size + 1 + 1 + 1, 1, none⟩ = some (.bool (false)) := dz.cell 1; have dz2 : w3.cell? ⟨w.heap.size + 1 + 1 + 1, 2, none⟩ = some (.int .i64 (0)) := dz.cell 2; have dz3 : w3.cell? ⟨w.heap.size + 1 + 1 + 1, 3, none⟩ = some (.string (⟨#[]⟩)) := dz.cell 3; have E3 : Ext w w3 := E2.trans x3; clear x3)
      | (go_at_call 85; refine (null_any _).mono ?_; rintro r w4 ⟨rfl, x4⟩; have ez := dz.ext x4; have ezf0 : w4.frozen? ⟨w.heap.size + 1 + 1 + 1, 0, none⟩ = false := ez.free 0; have ezf1 : w4.frozen? ⟨w.heap.size + 1 + 1 + 1, 1, none⟩ = false := ez.free 1; have ezf2 : w4.frozen? ⟨w.heap.size + 1 + 1 + 1, 2, none⟩ = false := ez.free 2; have ezf3 : w4.frozen? ⟨w.heap.size + 1 + 1 + 1, 3, none⟩ = false := ez.free 3; have ez0 : w4.cell? ⟨w.heap.size + 1 + 1 + 1, 0, none⟩ = some (.int .u8 (0)) := ez.cell 0; have ez1 : w4.cell? ⟨w.heap.size + 1 + 1 + 1, 1, none⟩ = some (.bool (false)) := ez.cell 1; have ez2 : w4.cell? ⟨w.heap.size + 1 + 1 + 1, 2, none⟩ = some (.int .i64 (0)) := ez.cell 2; have ez3 : w4.cell? ⟨w.heap.size + 1 + 1 + 1, 3, none⟩ = some (.string (⟨#[]⟩)) := ez.cell 3; have E4 : Ext w w4 := E3.trans x4)
      | (go_at_call 59; refine (boolean_any _ _).mono ?_; rintro r w5 ⟨rfl, x5⟩; have fz : Bk w5 (w.heap.size + 1 + 1 + 1) 24 #[.int .u8 0, .bool false, .int .i64 0, .string ⟨#[]⟩] := (by first | exact dz.ext x5 | exact cz.ext x5); have fzf0 : w5.frozen? ⟨w.heap.size + 1 + 1 + 1, 0, none⟩ = false := fz.free 0; have fzf1 : w5.frozen? ⟨w.heap.size + 1 + 1 + 1, 1, none⟩ = false := fz.free 1; have fzf2 : w5.frozen? ⟨w.heap.size + 1 + 1 + 1, 2, none⟩ = false := fz.free 2; have fzf3 : w5.frozen? ⟨w.heap.size + 1 + 1 + 1, 3, none⟩ = false := fz.free 3; have fz0 : w5.cell? ⟨w.heap.size + 1 + 1 + 1, 0, none⟩ = some (.int .u8 (0)) := fz.cell 0; have fz1 : w5.cell? ⟨w.heap.size + 1 + 1 + 1, 1, none⟩ = some (.bool (false)) := fz.cell 1; have fz2 : w5.cell? ⟨w.heap.size + 1 + 1 + 1, 2, none⟩ = some (.int .i64 (0)) := fz.cell 2; have fz3 : w5.cell? ⟨w.heap.size + 1 + 1 + 1, 3, none⟩ = some (.string (⟨#[]⟩)) := fz.cell 3; have E5 : Ext w w5 := (by first | exact E3.trans x5 | exact E2.trans x5))
      | fail)
  · have q := bz.set4 (.int .u8 (0)) (.bool (false)) (.int .i64 (0)) (.string (⟨#[]⟩)); refine bodyPost_ret (v := .tuple #[.agg #[.int .u8 (0), .bool (false), .int .i64 (0), .string (⟨#[]⟩)], .int .u16 (e)]) (by simp [results, Tryd.results60, go_sem, q.1, q.2.1, q.2.2.1, q.2.2.2]) rfl ⟨rfl, Ext.set4 E1 (by first | omega | simp) _ _ _ _⟩
  · have q := fz.set4 (.int .u8 (2)) (.bool (strong)) (.int .i64 (0)) (.string (⟨#[]⟩)); refine bodyPost_ret (v := .tuple #[.agg #[.int .u8 (2), .bool (strong), .int .i64 (0), .string (⟨#[]⟩)], .int .u16 (0)]) (by simp [results, Tryd.results60, go_sem, q.1, q.2.1, q.2.2.1, q.2.2.2]) rfl ⟨rfl, Ext.set4 E5 (by first | omega | simp) _ _ _ _⟩
  · have q := fz.set4 (.int .u8 (2)) (.bool (strong)) (.int .i64 (0)) (.string (⟨#[]⟩)); refine bodyPost_ret (v := .tuple #[.agg #[.int .u8 (2), .bool (strong), .int .i64 (0), .string (⟨#[]⟩)], .int .u16 (0)]) (by simp [results, Tryd.results60, go_sem, q.1, q.2.1, q.2.2.1, q.2.2.2]) rfl ⟨rfl, Ext.set4 E5 (by first | omega | simp) _ _ _ _⟩
  · have q := ez.set4 (.int .u8 (1)) (.bool (false)) (.int .i64 (0)) (.string (⟨#[]⟩)); refine bodyPost_ret (v := .tuple #[.agg #[.int .u8 (1), .bool (false), .int .i64 (0), .string (⟨#[]⟩)], .int .u16 (0)]) (by simp [results, Tryd.results60, go_sem, q.1, q.2.1, q.2.2.1, q.2.2.2]) rfl ⟨rfl, Ext.set4 E4 (by first | omega | simp) _ _ _ _⟩
  · have q := fz.set4 (.int .u8 (2)) (.bool (!strong)) (.int .i64 (0)) (.string (⟨#[]⟩)); refine bodyPost_ret (v := .tuple #[.agg #[.int .u8 (2), .bool (!strong), .int .i64 (0), .string (⟨#[]⟩)], .int .u16 (0)]) (by simp [results, Tryd.results60, go_sem, q.1, q.2.1, q.2.2.1, q.2.2.2]) rfl ⟨rfl, Ext.set4 E5 (by first | omega | simp) _ _ _ _⟩
end
theorem either_any (strong : Bool) (a b : Dat) (w : World) (hs : a.s.size ≤ 9223372036854775807) (hs2 : b.s.size ≤ 9223372036854775807) (G : Good w) :
    Calls Tryd.prog 60 #[.bool strong, .agg #[.int .u8 a.k, .bool a.b, .int .i64 a.n, .string a.s], .agg #[.int .u8 b.k, .bool b.b, .int .i64 b.n, .string b.s]] w (Out w (eitherR strong a b)) := by
  obtain ⟨ka, ba, na, sa⟩ := a
  obtain ⟨kb, bb, nb, sb⟩ := b
  obtain ⟨⟨u, e⟩, hof⟩ : ∃ r, ofT 2 [⟨ka, ba, na, sa⟩, ⟨kb, bb, nb, sb⟩] = r := ⟨_, rfl⟩
  obtain ⟨ia, hia⟩ : ∃ r, isB strong ⟨ka, ba, na, sa⟩ = r := ⟨_, rfl⟩
  obtain ⟨ib, hib⟩ : ∃ r, isB strong ⟨kb, bb, nb, sb⟩ = r := ⟨_, rfl⟩
  have h := either_raw strong ka na kb nb ba bb sa sb w (Lib.hid hof) (Lib.hid hia) (Lib.hid hib) (by
    by_cases he : e = 0
    · refine Or.inr ⟨he, ?_⟩
      cases ia <;> cases ib <;> cases u <;> simp
    · refine Or.inl ⟨?_, by simpa using he, by simpa using he⟩
      rcases ofT_two 2 [⟨ka, ba, na, sa⟩, ⟨kb, bb, nb, sb⟩] with ⟨e', _, h⟩ | h | h <;> rw [hof] at h <;> simp only [Prod.mk.injEq] at h
      · exact h.1
      · exact absurd h.2 he
      · exact h.1) hs hs2 G
  unfold eitherR
  rw [hof, hia, hib]
  simpa using h
set_option maxRecDepth 100000 in
set_option maxHeartbeats 400000 in
theorem and_any (a b : Dat) (w : World) (hs : a.s.size ≤ 9223372036854775807) (hs2 : b.s.size ≤ 9223372036854775807) (G : Good w) :
    Calls Tryd.prog 19 #[.agg #[.int .u8 a.k, .bool a.b, .int .i64 a.n, .string a.s], .agg #[.int .u8 b.k, .bool b.b, .int .i64 b.n, .string b.s]] w (Out w (eitherR false a b)) := by
  obtain ⟨ka, ba, na, sa⟩ := a
  obtain ⟨kb, bb, nb, sb⟩ := b
  obtain ⟨⟨⟨rk, rb, rn, rs⟩, re⟩, hr⟩ : ∃ r, eitherR false ⟨ka, ba, na, sa⟩ ⟨kb, bb, nb, sb⟩ = r := ⟨_, rfl⟩
  rw [hr]
  have HR := Lib.hid hr
  clear hr
  have hs' : sa.size ≤ 9223372036854775807 := hs
  have hs2' : sb.size ≤ 9223372036854775807 := hs2
  clear hs hs2
  go_enter Tryd.func19, Tryd.ntmps19
  go_wp2_with (go_at_call 60; refine Calls.mono (HR.out ▸ either_any false ⟨ka, ba, na, sa⟩ ⟨kb, bb, nb, sb⟩ _ hs' hs2' (G.ext ((((Ext.refl w).alloc _).alloc _).alloc _))) ?_; rintro r w1 ⟨rfl, x1⟩; have bz : Bk w1 (w.heap.size + 1 + 1) 24 #[.int .u8 0, .bool false, .int .i64 0, .string ⟨#[]⟩] := (Bk.at (by simp)).ext x1; have bzf0 : w1.frozen? ⟨w.heap.size + 1 + 1, 0, none⟩ = false := bz.free 0; have bzf1 : w1.frozen? ⟨w.heap.size + 1 + 1, 1, none⟩ = false := bz.free 1; have bzf2 : w1.frozen? ⟨w.heap.size + 1 + 1, 2, none⟩ = false := bz.free 2; have bzf3 : w1.frozen? ⟨w.heap.size + 1 + 1, 3, none⟩ = false := bz.free 3; have bz0 : w1.cell? ⟨w.heap.size + 1 + 1, 0, none⟩ = some (.int .u8 (0)) := bz.cell 0; have bz1 : w1.cell? ⟨w.heap.size + 1 + 1, 1, none⟩ = some (.bool (false)) := bz.cell 1; have bz2 : w1.cell? ⟨w.heap.size + 1 + 1, 2, none⟩ = some (.int .i64 (0)) := bz.cell 2; have bz3 : w1.cell? ⟨w.heap.size + 1 + 1, 3, none⟩ = some (.string (⟨#[]⟩)) := bz.cell 3)
  have q := bz.set4 (.int .u8 (rk)) (.bool (rb)) (.int .i64 (rn)) (.string (rs)); refine bodyPost_ret (v := .tuple #[.agg #[.int .u8 (rk), .bool (rb), .int .i64 (rn), .string (rs)], .int .u16 (re)]) (by simp [results, Tryd.results19, go_sem, q.1, q.2.1, q.2.2.1, q.2.2.2]) rfl ⟨rfl, Ext.set4 (((((Ext.refl w).alloc _).alloc _).alloc _).trans x1) (by first | omega | simp) _ _ _ _⟩
set_option maxRecDepth 100000 in
set_option maxHeartbeats 400000 in
theorem or_any (a b : Dat) (w : World) (hs : a.s.size ≤ 9223372036854775807) (hs2 : b.s.size ≤ 9223372036854775807) (G : Good w) :
    Calls Tryd.prog 20 #[.agg #[.int .u8 a.k, .bool a.b, .int .i64 a.n, .string a.s], .agg #[.int .u8 b.k, .bool b.b, .int .i64 b.n, .string b.s]] w (Out w (eitherR true a b)) := by
  obtain ⟨ka, ba, na, sa⟩ := a
  obtain ⟨kb, bb, nb, sb⟩ := b
  obtain ⟨⟨⟨rk, rb, rn, rs⟩, re⟩, hr⟩ : ∃ r, eitherR true ⟨ka, ba, na, sa⟩ ⟨kb, bb, nb, sb⟩ = r := ⟨_, rfl⟩
  rw [hr]
  have HR := Lib.hid hr
  clear hr
  have hs' : sa.size ≤ 9223372036854775807 := hs
  have hs2' : sb.size ≤ 9223372036854775807 := hs2
  clear hs hs2
  go_enter Tryd.func20, Tryd.ntmps20
  go_wp2_with (go_at_call 60; refine Calls.mono (HR.out ▸ either_any true ⟨ka, ba, na, sa⟩ ⟨kb, bb, nb, sb⟩ _ hs' hs2' (G.ext ((((Ext.refl w).alloc _).alloc _).alloc _))) ?_; rintro r w1 ⟨rfl, x1⟩; have bz : Bk w1 (w.heap.size + 1 + 1) 24 #[.int .u8 0, .bool false, .int .i64 0, .string ⟨#[]⟩] := (Bk.at (by simp)).ext x1; have bzf0 : w1.frozen? ⟨w.heap.size + 1 + 1, 0, none⟩ = false := bz.free 0; have bzf1 : w1.frozen? ⟨w.heap.size + 1 + 1, 1, none⟩ = false := bz.free 1; have bzf2 : w1.frozen? ⟨w.heap.size + 1 + 1, 2, none⟩ = false := bz.free 2; have bzf3 : w1.frozen? ⟨w.heap.size + 1 + 1, 3, none⟩ = false := bz.free 3; have bz0 : w1.cell? ⟨w.heap.size + 1 + 1, 0, none⟩ = some (.int .u8 (0)) := bz.cell 0; have bz1 : w1.cell? ⟨w.heap.size + 1 + 1, 1, none⟩ = some (.bool (false)) := bz.cell 1; have bz2 : w1.cell? ⟨w.heap.size + 1 + 1, 2, none⟩ = some (.int .i64 (0)) := bz.cell 2; have bz3 : w1.cell? ⟨w.heap.size + 1 + 1, 3, none⟩ = some (.string (⟨#[]⟩)) := bz.cell 3)
  have q := bz.set4 (.int .u8 (rk)) (.bool (rb)) (.int .i64 (rn)) (.string (rs)); refine bodyPost_ret (v := .tuple #[.agg #[.int .u8 (rk), .bool (rb), .int .i64 (rn), .string (rs)], .int .u16 (re)]) (by simp [results, Tryd.results20, go_sem, q.1, q.2.1, q.2.2.1, q.2.2.2]) rfl ⟨rfl, Ext.set4 (((((Ext.refl w).alloc _).alloc _).alloc _).trans x1) (by first | omega | simp) _ _ _ _⟩
end Go.Proofs.YtobgfegdfcpgfaaDoor
