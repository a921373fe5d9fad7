/- Rows with counts in memory. Conditions: each theorem states its own. -/
import Derived.Test.YtngeioghihbkeaaDoorRowCmp
import Derived.Test.YtngeioghihbkeaaDoorSortLaw
import Derived.Test.YtngeioghihbkeaaDoorDOrdLaw
namespace Go.Proofs.YtngeioghihbkeaaDoor
open Go.RowKit

theorem cmpR_neg : ∀ l m : List Dat, cmpR l m = -cmpR m l
  | [], [] => rfl
  | [], _ :: _ => rfl
  | _ :: _, [] => rfl
  | a :: l, b :: m => by
    unfold cmpR
    have h := cmpD_neg a b
    by_cases q : cmpD a b = 0
    · rw [if_pos q, if_pos (by omega), cmpR_neg l m]
    · rw [if_neg q, if_neg (by omega), h]
theorem cmpD_tot : TotPre cmpD := ⟨cmpD_neg, fun _ _ _ => cmpD_trans⟩
theorem cmpR_trans : ∀ l m n : List Dat, cmpR l m ≤ 0 → cmpR m n ≤ 0 → cmpR l n ≤ 0
  | [], _, [], _, _ => Int.le_refl _
  | [], _, _ :: _, _, _ => by unfold cmpR; decide
  | _ :: _, [], _, h, _ => by unfold cmpR at h; exact absurd h (by decide)
  | _ :: _, _ :: _, [], _, k => by unfold cmpR at k; exact absurd k (by decide)
  | a :: l, b :: m, c :: n, h, k => by
    unfold cmpR at h k ⊢
    by_cases q1 : cmpD a b = 0
    · rw [if_pos q1] at h
      by_cases q2 : cmpD b c = 0
      · rw [if_pos q2] at k
        rw [if_pos (cmpD_tot.eq_trans q1 q2)]
        exact cmpR_trans l m n h k
      · rw [if_neg q2] at k
        have := cmpD_tot.lt_of_le_lt (show cmpD a b ≤ 0 by omega) (show cmpD b c < 0 by omega)
        rw [if_neg (by omega)]
        omega
    · rw [if_neg q1] at h
      have hbc : cmpD b c ≤ 0 := by
        by_cases q2 : cmpD b c = 0
        · omega
        · rw [if_neg q2] at k; exact k
      have := cmpD_tot.lt_of_lt_le (show cmpD a b < 0 by omega) hbc
      rw [if_neg (by omega)]
      omega
/-- a row that lies in memory, so many times -/
structure Ct where
  A : Option Addr
  c : Nat
  l : List Dat
  k : Int
def Ct.zero : Ct := ⟨none, 0, [], 0⟩
def cmpC (x y : Ct) : Int := cmpR x.l y.l
theorem cmpC_tot : TotPre cmpC := ⟨fun x y => cmpR_neg x.l y.l, fun x y z => cmpR_trans x.l y.l z.l⟩
def ctC (x : Ct) : List Value := [.slice x.A x.l.length x.c, .int .i64 x.k]
def ctsC (L : List Ct) : List Value := L.flatMap ctC
theorem ctsC_len (L : List Ct) : (ctsC L).length = L.length * 2 := by
  unfold ctsC
  induction L with
  | nil => rfl
  | cons d l ih => rw [List.flatMap_cons, List.length_append, ih, List.length_cons, show (ctC d).length = 2 from rfl]; omega
theorem ctsC_at : ∀ (L : List Ct) (i j : Nat), i < L.length → j < 2 → (ctsC L)[i * 2 + j]? = (ctC (L.getD i Ct.zero))[j]?
  | [], i, j, h, _ => absurd h (Nat.not_lt_zero _)
  | d :: l, 0, j, _, hj => by
    unfold ctsC
    rw [List.flatMap_cons, Nat.zero_mul, Nat.zero_add, List.getElem?_append_left (by rw [show (ctC d).length = 2 from rfl]; exact hj)]
    rfl
  | d :: l, i + 1, j, h, hj => by
    unfold ctsC
    rw [List.flatMap_cons, List.getElem?_append_right (by rw [show (ctC d).length = 2 from rfl]; omega), show (i + 1) * 2 + j - (ctC d).length = i * 2 + j by rw [show (ctC d).length = 2 from rfl]; omega]
    exact ctsC_at l i j (Nat.lt_of_succ_lt_succ h) hj
theorem ctsC_append (L M : List Ct) : ctsC (L ++ M) = ctsC L ++ ctsC M := List.flatMap_append
theorem ctsC_set : ∀ (L : List Ct) (i : Nat) (x : Ct), ((ctsC L).set (i * 2) (.slice x.A x.l.length x.c)).set (i * 2 + 1) (.int .i64 x.k) = ctsC (L.set i x)
  | [], i, x => rfl
  | d :: l, 0, x => rfl
  | d :: l, i + 1, x => by
    have ih := ctsC_set l i x
    show ((ctC d ++ ctsC l).set ((i + 1) * 2) _).set ((i + 1) * 2 + 1) _ = ctC d ++ ctsC (l.set i x)
    rw [← ih, List.set_append_right _ _ (by show 2 ≤ _; omega), List.set_append_right _ _ (by show 2 ≤ _; omega), show (i + 1) * 2 - (ctC d).length = i * 2 by show _ - 2 = _; omega, show (i + 1) * 2 + 1 - (ctC d).length = i * 2 + 1 by show _ - 2 = _; omega]
theorem ctsC_one (L : List Ct) : ∀ u ∈ ctsC L, u.oneCell' = true := by
  intro u hu
  obtain ⟨d, _, h⟩ := List.mem_flatMap.1 hu
  simp only [ctC, List.mem_cons, List.not_mem_nil, or_false] at h
  rcases h with rfl | rfl <;> rfl
/-- the rows of such a list lie in memory, none of them in block g -/
def Rws (w : World) (g : Nat) (L : List Ct) : Prop := ∀ x ∈ L, Rw w x.A x.c x.l ∧ ∀ ad, x.A = some ad → ad.block ≠ g
/-- the block g holds the list, from its head on; it was made from block B on -/
def Arr (w : World) (B g c : Nat) (L : List Ct) : Prop := Own w B 32 2 (some ⟨g, 0, none⟩) L.length c (ctsC L) ∧ 0 < c
section
variable {w w' : World} {B g c : Nat} {L : List Ct}
theorem Arr.ext (h : Arr w B g c L) (x : Ext w w') : Arr w' B g c L := ⟨h.1.ext x, h.2⟩
theorem Rws.ext (h : Rws w g L) (x : Ext w w') : Rws w' g L := fun y hy => ⟨(h y hy).1.ext x, (h y hy).2⟩
theorem Rw.upd {A : Option Addr} {l : List Dat} (h : Rw w A c l) (hx : w.grownBy w' (some g)) (ha : ∀ ad, A = some ad → ad.block ≠ g) : Rw w' A c l :=
  ⟨h.1, h.2.1, h.2.2.1, h.2.2.2.1, fun hn => by
    obtain ⟨ad, e, hc⟩ := h.2.2.2.2 hn
    exact ⟨ad, e, fun j u hu => hx.cell (hc j u hu) (by rw [block_add]; intro q; injection q with q; exact ha ad e q)⟩⟩
theorem Rws.upd (h : Rws w g L) (hx : w.grownBy w' (some g)) : Rws w' g L := fun y hy => ⟨(h y hy).1.upd hx (h y hy).2, (h y hy).2⟩
theorem Rws.sub {M : List Ct} (h : Rws w g L) (hs : ∀ x ∈ M, x ∈ L) : Rws w g M := fun x hx => h x (hs x hx)
theorem Arr.lt (h : Arr w B g c L) : B ≤ g ∧ g < w.heap.size := by
  have := h.1.lt g (by obtain ⟨k, hk⟩ : ∃ k, c = k + 1 := ⟨c - 1, by have := h.2; omega⟩
                       rw [hk]; rfl)
  exact this
theorem Arr.le (h : Arr w B g c L) : L.length ≤ 9223372036854775807 := by have := h.1.le; omega
/-- an element's two cells; they may be written -/
theorem Arr.at (h : Arr w B g c L) {i : Nat} (hi : i < L.length) : w.cell? ⟨g, i * 2, none⟩ = some (.slice (L.getD i Ct.zero).A (L.getD i Ct.zero).l.length (L.getD i Ct.zero).c) ∧ w.cell? ⟨g, i * 2 + 1, none⟩ = some (.int .i64 (L.getD i Ct.zero).k) := by
  obtain ⟨g', e, _, _, _, hc, _⟩ := h.1.form (by omega)
  cases e
  exact ⟨hc _ _ (by rw [← Nat.add_zero (i * 2), ctsC_at L i 0 hi (by omega)]; rfl), hc _ _ (by rw [ctsC_at L i 1 hi (by omega)]; rfl)⟩
theorem Arr.free (h : Arr w B g c L) (j : Nat) : w.frozen? ⟨g, j, none⟩ = false := by
  rcases h.1.2 with ⟨h1, h2⟩ | ⟨g', cur, e, hb, hg, _⟩
  · have := h.2; omega
  · cases e
    simp [World.frozen?, hg]
/-- an element that is stored -/
theorem Arr.set (h : Arr w B g c L) (i : Nat) (x : Ct) : Arr ((w.setCell ⟨g, i * 2, none⟩ (.slice x.A x.l.length x.c)).setCell ⟨g, i * 2 + 1, none⟩ (.int .i64 x.k)) B g c (L.set i x) := by
  have := (h.1.put (i * 2) (.slice x.A x.l.length x.c)).put (i * 2 + 1) (.int .i64 x.k)
  rw [ctsC_set] at this
  refine ⟨?_, h.2⟩
  rw [List.length_set]
  exact this
theorem upd_set (w : World) (g i : Nat) (u : Value) : w.grownBy (w.setCell ⟨g, i, none⟩ u) (some g) :=
  ⟨rfl, rfl, rfl, by rw [World.size_setCell]; exact Nat.le_refl _, fun k _ hk => Below.heap_setCell w ⟨g, i, none⟩ u k (fun e => hk (by rw [e]))⟩
theorem upd_ext (x : Ext w w') (g : Nat) : w.grownBy w' (some g) := ⟨x.os, x.tape, x.output, x.size, fun k hk _ => x.block k hk⟩
theorem upd_below (x : w.grownBy w' (some g)) {B : Nat} (hb : B ≤ w.heap.size) (hg : B ≤ g) : Below B w w' := Below.grown (Below.refl B w) x hb (fun k e => by cases e; exact hg)
end
end Go.Proofs.YtngeioghihbkeaaDoor
