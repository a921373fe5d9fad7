/- Two elements of a list of rows with counts change places. Conditions: each theorem states its own. -/
import Derived.Test.YtngeioghihbkeaaDoorInsS
import Derived.Test.YtngeioghihbkeaaDoorMergeLaw
namespace Go.Proofs.YtngeioghihbkeaaDoor
open Go.RowKit

theorem getD_here {P Q : List Ct} {x : Ct} {p : Nat} (hp : p = P.length) : (P ++ x :: Q).getD p Ct.zero = x := by subst hp; exact getD_mid P x Q
theorem Arr.here {w : World} {B g c p : Nat} {P Q : List Ct} {x : Ct} (h : Arr w B g c (P ++ x :: Q)) (hp : p = P.length) :
    w.cell? ⟨g, p * 2, none⟩ = some (.slice x.A x.l.length x.c) ∧ w.cell? ⟨g, p * 2 + 1, none⟩ = some (.int .i64 x.k) := by
  have := h.at (i := p) (by subst hp; simp)
  rwa [getD_here hp] at this
theorem set_two (P M Q : List Ct) (x y : Ct) : ((P ++ x :: (M ++ y :: Q)).set P.length y).set (P.length + 1 + M.length) x = P ++ y :: (M ++ x :: Q) := by
  rw [set_mid]
  have := set_mid (P ++ y :: M) y x Q
  simp only [List.append_assoc, List.cons_append, List.length_append, List.length_cons] at this
  rwa [show P.length + 1 + M.length = P.length + (M.length + 1) by omega]
theorem set_two' (P M Q : List Ct) (x y : Ct) : ((P ++ x :: (M ++ y :: Q)).set (P.length + 1 + M.length) x).set P.length y = P ++ y :: (M ++ x :: Q) := by
  have := set_mid (P ++ x :: M) y x Q
  simp only [List.append_assoc, List.cons_append, List.length_append, List.length_cons] at this
  rw [show P.length + 1 + M.length = P.length + (M.length + 1) by omega, this, set_mid]
section
variable {w : World} {B g c p q : Nat} {P M Q : List Ct} {x y : Ct}
/-- the first one is written first -/
theorem Arr.swapA (h : Arr w B g c (P ++ x :: (M ++ y :: Q))) (hp : p = P.length) (hq : q = P.length + 1 + M.length) {nx ny : Nat} (hx : nx = x.l.length) (hy : ny = y.l.length) :
    Arr ((((w.setCell ⟨g, p * 2, none⟩ (.slice y.A ny y.c)).setCell ⟨g, p * 2 + 1, none⟩ (.int .i64 y.k)).setCell ⟨g, q * 2, none⟩ (.slice x.A nx x.c)).setCell ⟨g, q * 2 + 1, none⟩ (.int .i64 x.k)) B g c (P ++ y :: (M ++ x :: Q)) := by
  subst hp hq hx hy
  have h1 := (h.set P.length y).set (P.length + 1 + M.length) x
  rwa [set_two] at h1
/-- the second one is written first -/
theorem Arr.swapB (h : Arr w B g c (P ++ x :: (M ++ y :: Q))) (hp : p = P.length) (hq : q = P.length + 1 + M.length) {nx ny : Nat} (hx : nx = x.l.length) (hy : ny = y.l.length) :
    Arr ((((w.setCell ⟨g, q * 2, none⟩ (.slice x.A nx x.c)).setCell ⟨g, q * 2 + 1, none⟩ (.int .i64 x.k)).setCell ⟨g, p * 2, none⟩ (.slice y.A ny y.c)).setCell ⟨g, p * 2 + 1, none⟩ (.int .i64 y.k)) B g c (P ++ y :: (M ++ x :: Q)) := by
  subst hp hq hx hy
  have h1 := (h.set (P.length + 1 + M.length) x).set P.length y
  rwa [set_two'] at h1
end
theorem cons_of {α : Type} {l : List α} (h : 0 < l.length) : ∃ x t, l = x :: t := by
  cases l with
  | nil => exact absurd h (Nat.lt_irrefl 0)
  | cons x t => exact ⟨x, t, rfl⟩
end Go.Proofs.YtngeioghihbkeaaDoor
