/- datum.apply, whole: what they answer; the closures Not, Add, Sub, Mul, Div, Mod hand to it. Conditions: the library's tables stand. -/
import Derived.Test.YtobgfegdfcpgfaaDoorOf
namespace Go.Proofs.YtobgfegdfcpgfaaDoor
open Go.RowKit

def Out (w : World) (r : Dat × Int) (e : Ending) (w' : World) : Prop :=
  e = .returned (.tuple #[.agg #[.int .u8 r.1.k, .bool r.1.b, .int .i64 r.1.n, .string r.1.s], .int .u16 r.2]) ∧ Ext w w'
def Dat.null : Dat := ⟨1, false, 0, ⟨#[]⟩⟩
def Dat.int (n : Int) : Dat := ⟨3, false, n, ⟨#[]⟩⟩
def Dat.bool (b : Bool) : Dat := ⟨2, b, 0, ⟨#[]⟩⟩
def Dat.text (s : ByteArray) : Dat := ⟨4, false, 0, s⟩
def applyR (k : Int) (l : List Dat) (r : Dat × Int) : Dat × Int := if (ofT k l).2 = 0 then (if (ofT k l).1 then (Dat.null, 0) else r) else (Dat.zero, (ofT k l).2)

theorem of_at {r : Bool × Int} (k : Int) (g c : Nat) (l : List Dat) (w : World) (hr : Hid (ofT k l = r)) (hl : l.length ≤ 1000) (hd : Dats w g l) (hs : ∀ d ∈ l, d.s.size ≤ 9223372036854775807) (G : Good w) :
    Calls Tryd.prog 97 #[.int .u8 k, .slice (some ⟨g, 0, none⟩) l.length c] w fun e w' => e = .returned (.tuple #[.bool r.1, .int .u16 r.2]) ∧ Ext w w' := hr.out ▸ of_any k g c l w hl hd hs G

theorem Bk.set4 {w : World} {g : Nat} {t : TypeId} {a b c d : Value} (h : Bk w g t #[a, b, c, d]) (u v x y : Value) :
    ((((w.setCell ⟨g, 0, none⟩ u).setCell ⟨g, 1, none⟩ v).setCell ⟨g, 2, none⟩ x).setCell ⟨g, 3, none⟩ y).cell? ⟨g, 0, none⟩ = some u ∧ ((((w.setCell ⟨g, 0, none⟩ u).setCell ⟨g, 1, none⟩ v).setCell ⟨g, 2, none⟩ x).setCell ⟨g, 3, none⟩ y).cell? ⟨g, 1, none⟩ = some v ∧
      ((((w.setCell ⟨g, 0, none⟩ u).setCell ⟨g, 1, none⟩ v).setCell ⟨g, 2, none⟩ x).setCell ⟨g, 3, none⟩ y).cell? ⟨g, 2, none⟩ = some x ∧ ((((w.setCell ⟨g, 0, none⟩ u).setCell ⟨g, 1, none⟩ v).setCell ⟨g, 2, none⟩ x).setCell ⟨g, 3, none⟩ y).cell? ⟨g, 3, none⟩ = some y := by
  have bb := (((h.set 0 u).set 1 v).set 2 x).set 3 y
  exact ⟨bb.cell 0, bb.cell 1, bb.cell 2, bb.cell 3⟩
theorem Ext.set4 {a w : World} (h : Ext a w) {g : Nat} (hp : a.heap.size ≤ g) (u v x y : Value) : Ext a ((((w.setCell ⟨g, 0, none⟩ u).setCell ⟨g, 1, none⟩ v).setCell ⟨g, 2, none⟩ x).setCell ⟨g, 3, none⟩ y) :=
  (((h.set (p := ⟨g, 0, none⟩) hp u).set (p := ⟨g, 1, none⟩) hp v).set (p := ⟨g, 2, none⟩) hp x).set (p := ⟨g, 3, none⟩) hp y

section
variable (k : Int) (F : FuncId) (caps : Array Value) (g c n : Nat) (l : List Dat) (w : World)
set_option maxRecDepth 100000 in
set_option maxHeartbeats 800000 in
theorem apply_off (hr : ∃ e, e ≠ 0 ∧ ofT k l = (false, e)) (hn : l.length = n) (hl : n ≤ 1000) (hd : Dats w g l) (hs : ∀ d ∈ l, d.s.size ≤ 9223372036854775807) (G : Good w) :
    Calls Tryd.prog 57 #[.int .u8 k, .func (.func F) #[] caps, .slice (some ⟨g, 0, none⟩) n c] w (Out w (Dat.zero, (ofT k l).2)) := by
  obtain ⟨e, he, hr⟩ := hr
  have HR := Lib.hid hr
  subst hn
  rw [hr]
  clear hr
  have z1 : (e != 0) = true := by simpa using he
  clear he
  have HD := Lib.hid hd
  have HS := Lib.hid hs
  clear hd hs
  go_enter Tryd.func57, Tryd.ntmps57
  go_wp2_with (go_at_call 97; refine (of_at k g c l _ HR hl (HD.out.ext ((Ext.refl w).alloc _)) HS.out (G.ext ((Ext.refl w).alloc _))).mono ?_; rintro r w1 ⟨rfl, x1⟩; have bz := (Bk.new w 24 #[.int .u8 0, .bool false, .int .i64 0, .string ⟨#[]⟩]).ext x1; have bzf0 : w1.frozen? ⟨w.heap.size, 0, none⟩ = false := bz.free 0; have bzf1 : w1.frozen? ⟨w.heap.size, 1, none⟩ = false := bz.free 1; have bzf2 : w1.frozen? ⟨w.heap.size, 2, none⟩ = false := bz.free 2; have bzf3 : w1.frozen? ⟨w.heap.size, 3, none⟩ = false := bz.free 3; have bz0 : w1.cell? ⟨w.heap.size, 0, none⟩ = some (.int .u8 (0)) := bz.cell 0; have bz1 : w1.cell? ⟨w.heap.size, 1, none⟩ = some (.bool (false)) := bz.cell 1; have bz2 : w1.cell? ⟨w.heap.size, 2, none⟩ = some (.int .i64 (0)) := bz.cell 2; have bz3 : w1.cell? ⟨w.heap.size, 3, none⟩ = some (.string (⟨#[]⟩)) := bz.cell 3)
  have q := bz.set4 (.int .u8 (0)) (.bool (false)) (.int .i64 (0)) (.string (⟨#[]⟩)); refine bodyPost_ret (v := .tuple #[.agg #[.int .u8 (0), .bool (false), .int .i64 (0), .string (⟨#[]⟩)], .int .u16 (e)]) (by simp [results, Tryd.results57, go_sem, q.1, q.2.1, q.2.2.1, q.2.2.2]) rfl ⟨rfl, Ext.set4 (((Ext.refl w).alloc _).trans x1) (by first | omega | simp) _ _ _ _⟩
set_option maxRecDepth 100000 in
set_option maxHeartbeats 800000 in
theorem apply_null (hr : ofT k l = (true, 0)) (hn : l.length = n) (hl : n ≤ 1000) (hd : Dats w g l) (hs : ∀ d ∈ l, d.s.size ≤ 9223372036854775807) (G : Good w) :
    Calls Tryd.prog 57 #[.int .u8 k, .func (.func F) #[] caps, .slice (some ⟨g, 0, none⟩) n c] w (Out w (Dat.null, 0)) := by
  have HR := Lib.hid hr
  subst hn
  clear hr
  have HD := Lib.hid hd
  have HS := Lib.hid hs
  clear hd hs
  go_enter Tryd.func57, Tryd.ntmps57
  go_wp2_with (first
    | (go_at_call 97; refine (of_at k g c l _ HR hl (HD.out.ext ((Ext.refl w).alloc _)) HS.out (G.ext ((Ext.refl w).alloc _))).mono ?_; rintro r w1 ⟨rfl, x1⟩; have bz := (Bk.new w 24 #[.int .u8 0, .bool false, .int .i64 0, .string ⟨#[]⟩]).ext x1)
    | (go_at_call 85; refine (null_any _).mono ?_; rintro r w2 ⟨rfl, x2⟩; have cz := bz.ext x2; have czf0 : w2.frozen? ⟨w.heap.size, 0, none⟩ = false := cz.free 0; have czf1 : w2.frozen? ⟨w.heap.size, 1, none⟩ = false := cz.free 1; have czf2 : w2.frozen? ⟨w.heap.size, 2, none⟩ = false := cz.free 2; have czf3 : w2.frozen? ⟨w.heap.size, 3, none⟩ = false := cz.free 3; have cz0 : w2.cell? ⟨w.heap.size, 0, none⟩ = some (.int .u8 (0)) := cz.cell 0; have cz1 : w2.cell? ⟨w.heap.size, 1, none⟩ = some (.bool (false)) := cz.cell 1; have cz2 : w2.cell? ⟨w.heap.size, 2, none⟩ = some (.int .i64 (0)) := cz.cell 2; have cz3 : w2.cell? ⟨w.heap.size, 3, none⟩ = some (.string (⟨#[]⟩)) := cz.cell 3))
  have q := cz.set4 (.int .u8 (1)) (.bool (false)) (.int .i64 (0)) (.string (⟨#[]⟩)); refine bodyPost_ret (v := .tuple #[.agg #[.int .u8 (1), .bool (false), .int .i64 (0), .string (⟨#[]⟩)], .int .u16 (0)]) (by simp [results, Tryd.results57, go_sem, q.1, q.2.1, q.2.2.1, q.2.2.2]) rfl ⟨rfl, Ext.set4 ((((Ext.refl w).alloc _).trans x1).trans x2) (by first | omega | simp) _ _ _ _⟩
set_option maxRecDepth 100000 in
set_option maxHeartbeats 800000 in
theorem apply_do (r : Dat × Int) (hent : ∀ args w, Sem.run Tryd.prog (callFunc F args) w = .ok (.enter F args) w) (HF : Hid (∀ W, Ext w W → Calls Tryd.prog F caps W (Out W r))) (hr : ofT k l = (false, 0)) (hn : l.length = n) (hl : n ≤ 1000) (hd : Dats w g l) (hs : ∀ d ∈ l, d.s.size ≤ 9223372036854775807) (G : Good w) :
    Calls Tryd.prog 57 #[.int .u8 k, .func (.func F) #[] caps, .slice (some ⟨g, 0, none⟩) n c] w (Out w r) := by
  have HR := Lib.hid hr
  subst hn
  clear hr
  have HD := Lib.hid hd
  have HS := Lib.hid hs
  clear hd hs
  obtain ⟨⟨rk, rb, rn, rs⟩, re⟩ := r
  go_enter Tryd.func57, Tryd.ntmps57
  go_wp2_with (first
    | (go_at_call 97; refine (of_at k g c l _ HR hl (HD.out.ext ((Ext.refl w).alloc _)) HS.out (G.ext ((Ext.refl w).alloc _))).mono ?_; rintro r w1 ⟨rfl, x1⟩; have bz := (Bk.new w 24 #[.int .u8 0, .bool false, .int .i64 0, .string ⟨#[]⟩]).ext x1)
    | ((with_reducible refine (HF.out _ (((Ext.refl w).alloc _).trans x1)).mono ?_); rintro r w2 ⟨rfl, x2⟩; have cz := bz.ext x2; have czf0 : w2.frozen? ⟨w.heap.size, 0, none⟩ = false := cz.free 0; have czf1 : w2.frozen? ⟨w.heap.size, 1, none⟩ = false := cz.free 1; have czf2 : w2.frozen? ⟨w.heap.size, 2, none⟩ = false := cz.free 2; have czf3 : w2.frozen? ⟨w.heap.size, 3, none⟩ = false := cz.free 3; have cz0 : w2.cell? ⟨w.heap.size, 0, none⟩ = some (.int .u8 (0)) := cz.cell 0; have cz1 : w2.cell? ⟨w.heap.size, 1, none⟩ = some (.bool (false)) := cz.cell 1; have cz2 : w2.cell? ⟨w.heap.size, 2, none⟩ = some (.int .i64 (0)) := cz.cell 2; have cz3 : w2.cell? ⟨w.heap.size, 3, none⟩ = some (.string (⟨#[]⟩)) := cz.cell 3))
  have q := cz.set4 (.int .u8 (rk)) (.bool (rb)) (.int .i64 (rn)) (.string (rs)); refine bodyPost_ret (v := .tuple #[.agg #[.int .u8 (rk), .bool (rb), .int .i64 (rn), .string (rs)], .int .u16 (re)]) (by simp [results, Tryd.results57, go_sem, q.1, q.2.1, q.2.2.1, q.2.2.2]) rfl ⟨rfl, Ext.set4 ((((Ext.refl w).alloc _).trans x1).trans x2) (by first | omega | simp) _ _ _ _⟩
theorem ofT_two (k : Int) (l : List Dat) : (∃ e, e ≠ 0 ∧ ofT k l = (false, e)) ∨ ofT k l = (true, 0) ∨ ofT k l = (false, 0) := by
  unfold ofT
  split
  · cases l.any fun d => d.k == 1
    · exact Or.inr (Or.inr rfl)
    · exact Or.inr (Or.inl rfl)
  · exact Or.inl ⟨13, by omega, rfl⟩
theorem apply_any (r : Dat × Int) (hent : ∀ args w, Sem.run Tryd.prog (callFunc F args) w = .ok (.enter F args) w) (HF : Hid (∀ W, Ext w W → Calls Tryd.prog F caps W (Out W r))) (hn : l.length = n) (hl : n ≤ 1000) (hd : Dats w g l) (hs : ∀ d ∈ l, d.s.size ≤ 9223372036854775807) (G : Good w) :
    Calls Tryd.prog 57 #[.int .u8 k, .func (.func F) #[] caps, .slice (some ⟨g, 0, none⟩) n c] w (Out w (applyR k l r)) := by
  unfold applyR
  rcases ofT_two k l with h | h | h
  · obtain ⟨e, he, h2⟩ := id h
    rw [if_neg (by rw [h2]; exact he)]
    exact apply_off k F caps g c n l w h hn hl hd hs G
  · rw [if_pos (by rw [h]), if_pos (by rw [h])]
    exact apply_null k F caps g c n l w h hn hl hd hs G
  · rw [if_pos (by rw [h]), if_neg (by rw [h]; simp)]
    exact apply_do k F caps g c n l w r hent HF h hn hl hd hs G
end

/-! ### whole -/
def wholeR (n : Int) (wide : Bool) : Dat × Int := if wide then (Dat.zero, 10) else (Dat.int n, 0)
set_option maxRecDepth 100000 in
set_option maxHeartbeats 400000 in
theorem whole_any (n : Int) (wide : Bool) (w : World) : Calls Tryd.prog 65 #[.int .i64 n, .bool wide] w (Out w (wholeR n wide)) := by
  cases wide
  · go_enter Tryd.func65, Tryd.ntmps65
    go_wp2_with (refine (number_any _ _).mono ?_; rintro r w1 ⟨rfl, x1⟩; have bz := (Bk.new w 24 #[.int .u8 0, .bool false, .int .i64 0, .string ⟨#[]⟩]).ext x1; have bzf0 : w1.frozen? ⟨w.heap.size, 0, none⟩ = false := bz.free 0; have bzf1 : w1.frozen? ⟨w.heap.size, 1, none⟩ = false := bz.free 1; have bzf2 : w1.frozen? ⟨w.heap.size, 2, none⟩ = false := bz.free 2; have bzf3 : w1.frozen? ⟨w.heap.size, 3, none⟩ = false := bz.free 3; have bz0 : w1.cell? ⟨w.heap.size, 0, none⟩ = some (.int .u8 (0)) := bz.cell 0; have bz1 : w1.cell? ⟨w.heap.size, 1, none⟩ = some (.bool (false)) := bz.cell 1; have bz2 : w1.cell? ⟨w.heap.size, 2, none⟩ = some (.int .i64 (0)) := bz.cell 2; have bz3 : w1.cell? ⟨w.heap.size, 3, none⟩ = some (.string (⟨#[]⟩)) := bz.cell 3)
    have q := bz.set4 (.int .u8 (3)) (.bool (false)) (.int .i64 (n)) (.string (⟨#[]⟩)); refine bodyPost_ret (v := .tuple #[.agg #[.int .u8 (3), .bool (false), .int .i64 (n), .string (⟨#[]⟩)], .int .u16 (0)]) (by simp [results, Tryd.results65, go_sem, q.1, q.2.1, q.2.2.1, q.2.2.2]) rfl ⟨rfl, Ext.set4 (((Ext.refl w).alloc _).trans x1) (by first | omega | simp) _ _ _ _⟩
  · go_enter Tryd.func65, Tryd.ntmps65
    go_wp2
    go_returns
    exact ⟨rfl, (Ext.refl w).alloc _⟩
end Go.Proofs.YtobgfegdfcpgfaaDoor
