/- Rows in memory: a slice of data, read. Conditions: each theorem states its own. -/
import Derived.Test.YtngeioghihbkeaaDoorDCmps
namespace Go.Proofs.YtngeioghihbkeaaDoor
open Go.RowKit

/-- a datum's four cells -/
def datC (d : Dat) : List Value := [.int .u8 d.k, .bool d.b, .int .i64 d.n, .string d.s]
def rowC (l : List Dat) : List Value := l.flatMap datC
/-- the slice '.slice A l.length c' reads as the row l -/
def Rw (w : World) (A : Option Addr) (c : Nat) (l : List Dat) : Prop := Sl w 4 A l.length c (rowC l)
theorem rowC_len (l : List Dat) : (rowC l).length = l.length * 4 := by
  unfold rowC
  induction l with
  | nil => rfl
  | cons d l ih => rw [List.flatMap_cons, List.length_append, ih, List.length_cons, show (datC d).length = 4 from rfl]; omega
theorem rowC_at : ∀ (l : List Dat) (i j : Nat), i < l.length → j < 4 → (rowC l)[i * 4 + j]? = (datC (l.getD i Dat.zero))[j]?
  | [], i, j, h, _ => absurd h (Nat.not_lt_zero _)
  | d :: l, 0, j, _, hj => by
    unfold rowC
    rw [List.flatMap_cons, Nat.zero_mul, Nat.zero_add, List.getElem?_append_left (by rw [show (datC d).length = 4 from rfl]; exact hj)]
    rfl
  | d :: l, i + 1, j, h, hj => by
    unfold rowC
    rw [List.flatMap_cons, List.getElem?_append_right (by rw [show (datC d).length = 4 from rfl]; omega), show (i + 1) * 4 + j - (datC d).length = i * 4 + j by rw [show (datC d).length = 4 from rfl]; omega]
    exact rowC_at l i j (Nat.lt_of_succ_lt_succ h) hj
theorem rowC_append (l m : List Dat) : rowC (l ++ m) = rowC l ++ rowC m := List.flatMap_append
theorem rowC_take : ∀ (l : List Dat) (k : Nat), (rowC l).take (k * 4) = rowC (l.take k)
  | [], k => by simp [rowC]
  | d :: l, 0 => rfl
  | d :: l, k + 1 => by
    unfold rowC
    rw [List.flatMap_cons, List.take_succ_cons, List.flatMap_cons, List.take_append, show (datC d).length = 4 from rfl, List.take_of_length_le (show (datC d).length ≤ (k + 1) * 4 by rw [show (datC d).length = 4 from rfl]; omega), show (k + 1) * 4 - 4 = k * 4 by omega]
    exact congrArg _ (rowC_take l k)
theorem rowC_one (l : List Dat) : ∀ u ∈ rowC l, u.oneCell' = true := by
  intro u hu
  obtain ⟨d, _, h⟩ := List.mem_flatMap.1 hu
  simp only [datC, List.mem_cons, List.not_mem_nil, or_false] at h
  rcases h with rfl | rfl | rfl | rfl <;> rfl
section
variable {w w' : World} {A : Option Addr} {c : Nat} {l : List Dat}
theorem Rw.ext (h : Rw w A c l) (x : Ext w w') : Rw w' A c l := Sl.ext h x
theorem Rw.le (h : Rw w A c l) : l.length ≤ 9223372036854775807 := Sl.le h
theorem Rw.nil (w : World) : Rw w none 0 [] := Sl.nil w 4
/-- an element's address, and the addresses of its fields, as the walk spells them -/
theorem add_fld (ad : Addr) (i j : Nat) (hj : j ≠ 0) : ad.add (i + j) = ⟨(ad.add i).block, (ad.add i).off + j, none⟩ := by
  rw [← add_add']
  generalize ad.add i = x
  unfold Addr.add
  rw [if_neg hj]
/-- the four cells of one of its data -/
theorem Rw.at (h : Rw w A c l) {i : Nat} (hi : i < l.length) : ∃ ad, A = some ad ∧ w.cell? (ad.add (i * 4)) = some (.int .u8 (l.getD i Dat.zero).k) ∧ w.cell? ⟨(ad.add (i * 4)).block, (ad.add (i * 4)).off + 1, none⟩ = some (.bool (l.getD i Dat.zero).b) ∧
    w.cell? ⟨(ad.add (i * 4)).block, (ad.add (i * 4)).off + 2, none⟩ = some (.int .i64 (l.getD i Dat.zero).n) ∧ w.cell? ⟨(ad.add (i * 4)).block, (ad.add (i * 4)).off + 3, none⟩ = some (.string (l.getD i Dat.zero).s) := by
  obtain ⟨ad, e, hc⟩ := h.2.2.2.2 (by omega)
  refine ⟨ad, e, hc _ _ (by rw [← Nat.add_zero (i * 4), rowC_at l i 0 hi (by omega)]; rfl), ?_, ?_, ?_⟩
  · rw [← add_fld ad _ 1 (by decide)]; exact hc _ _ (by rw [rowC_at l i 1 hi (by omega)]; rfl)
  · rw [← add_fld ad _ 2 (by decide)]; exact hc _ _ (by rw [rowC_at l i 2 hi (by omega)]; rfl)
  · rw [← add_fld ad _ 3 (by decide)]; exact hc _ _ (by rw [rowC_at l i 3 hi (by omega)]; rfl)
end
end Go.Proofs.YtngeioghihbkeaaDoor
