/- slices.insertionSortCmpFunc at rows with counts: it sorts, those that are alike in their order. Conditions: the rows lie in memory, apart from the list. -/
import Derived.Test.YtngeioghihbkeaaDoorCts
import Derived.Deep.LoopGhost
namespace Go.Proofs.YtngeioghihbkeaaDoor
open Go.RowKit

set_option maxRecDepth 100000 in
set_option maxHeartbeats 1000000 in
theorem sum1_any (A1 A2 : Option Addr) (c1 c2 n1 n2 : Nat) (k1 k2 v : Int) (l m : List Dat) (w : World) (hv : Hid (cmpR l m = v)) (e1 : Hid (n1 = l.length)) (e2 : Hid (n2 = m.length)) (h1 : Hid (Rw w A1 c1 l)) (h2 : Hid (Rw w A2 c2 m)) :
    Calls Tryd.prog 59 #[.agg #[.slice A1 n1 c1, .int .i64 k1], .agg #[.slice A2 n2 c2, .int .i64 k2]] w fun e w' => e = .returned (.int .i64 v) ∧ Ext w w' := by
  have X : Ext w ((w.alloc (.cells #[.slice A1 n1 c1, .int .i64 k1] 32)).alloc (.cells #[.slice A2 n2 c2, .int .i64 k2] 32)) := ((Ext.refl w).alloc _).alloc _
  have b0 : Bk ((w.alloc (.cells #[.slice A1 n1 c1, .int .i64 k1] 32)).alloc (.cells #[.slice A2 n2 c2, .int .i64 k2] 32)) w.heap.size 32 #[.slice A1 n1 c1, .int .i64 k1] := (Bk.new _ _ _).alloc _
  have p0 := b0.cell 0
  go_enter Tryd.func59, Tryd.ntmps59
  go_wp2_with (go_at_call 14; refine (rowCmp_any A1 A2 c1 c2 n1 n2 l m _ e1.out e2.out (h1.out.ext X) (h2.out.ext X)).mono ?_; rintro e w1 ⟨rfl, x1⟩)
  go_ret
  exact ⟨(by rw [hv.out]; rfl), X.trans x1⟩
/-- what stands at the end of the first of two lists -/
theorem getD_mid (P : List Ct) (x : Ct) (Q : List Ct) : (P ++ x :: Q).getD P.length Ct.zero = x := by
  rw [List.getD_eq_getElem?_getD, List.getElem?_append_right (Nat.le_refl _), Nat.sub_self]
  rfl
theorem set_mid (P : List Ct) (x y : Ct) (Q : List Ct) : (P ++ x :: Q).set P.length y = P ++ y :: Q := by
  rw [List.set_append_right _ _ (Nat.le_refl _), Nat.sub_self]
  rfl
/-- the list that is being sorted: P, the sorted part up to its last place, the one that is being put in, the rest -/
theorem Arr.two {w : World} {B g c q : Nat} {P s2 Q : List Ct} {x y : Ct} (h : Arr w B g c (P ++ y :: x :: Q)) (hq : q = P.length) :
    (w.cell? ⟨g, q * 2, none⟩ = some (.slice y.A y.l.length y.c) ∧ w.cell? ⟨g, q * 2 + 1, none⟩ = some (.int .i64 y.k)) ∧ w.cell? ⟨g, (q + 1) * 2, none⟩ = some (.slice x.A x.l.length x.c) ∧ w.cell? ⟨g, (q + 1) * 2 + 1, none⟩ = some (.int .i64 x.k) := by
  subst hq
  have h1 := h.at (i := P.length) (by simp)
  have h2 := h.at (i := P.length + 1) (by simp)
  rw [getD_mid] at h1
  have e : (P ++ y :: x :: Q).getD (P.length + 1) Ct.zero = x := by
    have := getD_mid (P ++ [y]) x Q
    rwa [List.append_assoc, List.length_append] at this
  rw [e] at h2
  exact ⟨h1, h2⟩
theorem Arr.swap {w : World} {B g c q : Nat} {P Q : List Ct} {x y : Ct} (h : Arr w B g c (P ++ y :: x :: Q)) (hq : q = P.length) :
    Arr ((((w.setCell ⟨g, (q + 1) * 2, none⟩ (.slice y.A y.l.length y.c)).setCell ⟨g, (q + 1) * 2 + 1, none⟩ (.int .i64 y.k)).setCell ⟨g, q * 2, none⟩ (.slice x.A x.l.length x.c)).setCell ⟨g, q * 2 + 1, none⟩ (.int .i64 x.k)) B g c (P ++ x :: y :: Q) := by
  subst hq
  have h1 := (h.set (P.length + 1) y).set P.length x
  have e : ((P ++ y :: x :: Q).set (P.length + 1) y).set P.length x = P ++ x :: y :: Q := by
    have e1 : (P ++ y :: x :: Q).set (P.length + 1) y = P ++ y :: y :: Q := by
      have := set_mid (P ++ [y]) x y Q
      rwa [List.append_assoc, List.length_append, List.append_assoc] at this
    rw [e1, set_mid]
  rwa [e] at h1
theorem upd_swap (w : World) (g a b c d : Nat) (u1 u2 u3 u4 : Value) : w.grownBy ((((w.setCell ⟨g, a, none⟩ u1).setCell ⟨g, b, none⟩ u2).setCell ⟨g, c, none⟩ u3).setCell ⟨g, d, none⟩ u4) (some g) :=
  (((upd_set w g a u1).trans (upd_set _ g b u2)).trans (upd_set _ g c u3)).trans (upd_set _ g d u4)
/-- the inner loop's relation -/
def InsIn (B g c a : Nat) (P S T Q D' : List Ct) (x : Ct) (w wi : World) (j : Nat) (s1 s2 : List Ct) : Prop :=
  j = a + s1.length ∧ D' = s1 ++ s2 ∧ (∀ y ∈ s2, cmpC x y < 0) ∧ Arr wi B g c (P ++ (s1 ++ x :: (s2 ++ (T ++ Q)))) ∧ w.grownBy wi (some g) ∧ Rws wi g (x :: S)
/-- the outer loop's relation -/
def InsOut (B g c a : Nat) (P S Q : List Ct) (w wo : World) (i : Nat) (D D' T : List Ct) : Prop :=
  S = D ++ T ∧ i = a + D.length ∧ Stable cmpC D D' ∧ Arr wo B g c (P ++ (D' ++ (T ++ Q))) ∧ w.grownBy wo (some g) ∧ Rws wo g S
theorem stable_len {L M : List Ct} (h : Stable cmpC L M) : M.length = L.length := by
  have key : ∀ (n : Nat) (L M : List Ct), L.length ≤ n → Stable cmpC L M → M.length = L.length := by
    intro n
    induction n with
    | zero =>
      intro L M hn h
      have : L = [] := List.eq_nil_of_length_eq_zero (by omega)
      subst this
      cases M with
      | nil => rfl
      | cons y M => exact absurd ((h.mem cmpC_tot y).1 (List.mem_cons_self ..)) List.not_mem_nil
    | succ n ih =>
      intro L M hn h
      cases M with
      | nil =>
        cases L with
        | nil => rfl
        | cons y L => exact absurd ((h.mem cmpC_tot y).2 (List.mem_cons_self ..)) List.not_mem_nil
      | cons y M =>
        have hy := (h.mem cmpC_tot y).1 (List.mem_cons_self ..)
        have p1 : ∀ K : List Ct, (alike cmpC y K).length + (K.filter fun z => !(cmpC y z == 0)).length = K.length := fun K => by
          unfold alike
          rw [← List.length_append]
          exact (List.filter_append_perm (fun z => cmpC y z == 0) K).length_eq
        have h1 := p1 L
        have h2 := p1 (y :: M)
        have h3 : (alike cmpC y L).length = (alike cmpC y (y :: M)).length := by rw [h.same y]
        have h4 : 0 < (alike cmpC y L).length := List.length_pos_of_mem (List.mem_filter.2 ⟨hy, by rw [beq_iff_eq]; exact cmpC_tot.refl y⟩)
        have h5 := ih (L.filter fun z => !(cmpC y z == 0)) ((y :: M).filter fun z => !(cmpC y z == 0)) (by omega) ⟨h.sorted.filter _, fun z => by
          have q := h.same z
          unfold alike at q ⊢
          rw [List.filter_filter, List.filter_filter]
          have e : ∀ K : List Ct, K.filter (fun a => (cmpC z a == 0) && !(cmpC y a == 0)) = (K.filter (fun a => cmpC z a == 0)).filter (fun a => !(cmpC y a == 0)) := fun K => by
            rw [List.filter_filter]
            congr 1
            funext a
            rw [Bool.and_comm]
          rw [e, e, q]⟩
        omega
  exact key L.length L M (Nat.le_refl _) h
end Go.Proofs.YtngeioghihbkeaaDoor
