/- What comes in at chapter 02: rows with counts. Conditions: none. -/
import Derived.Test.YtngeioghihbkeaaDoorRowCome
import Derived.Test.YtngeioghihbkeaaDoorRowSumsLaw
namespace Go.Proofs.YtngeioghihbkeaaDoor
open Go.ChangeShapes Go.WideShapes Go.ChangeAt Go.RowKit Go.WideElems

instance : Inhabited Ct := ⟨Ct.zero⟩
section
variable {H : Type} {enc : TypeId × Value → H} {W : World}
theorem list2 {α : Type} {l : List α} (h : l.length = 2) : ∃ a b, l = [a, b] := by
  match l, h with
  | [a, b], _ => exact ⟨a, b, rfl⟩
theorem one_row : Tryd.prog.cellsOf 23 = 1 := by kernel_rfl
theorem two_ct : Tryd.prog.cellsOf 32 = 2 := by kernel_rfl
theorem come_ctC {fuel : Nat} {cs : List Value} {y : DataW H × List MemPlace} (h : DataW.trod enc Tryd.prog W 0 (fun _ => true) true fuel 32 cs = some y) :
    ∃ x : Ct, cs = ctC x ∧ Rw W x.A x.c x.l ∧ RwIn x.l ∧ InV (valC x) := by
  obtain ⟨y0, y1, n, _, hl, h0, h1⟩ := Go.ChangeShapes.trod_struct2 Tryd.underlying32 h
  rw [two_ct] at hl
  obtain ⟨c0, c1, rfl⟩ := list2 hl
  have g0 : DataW.trod enc Tryd.prog W 0 (fun _ => true) true n 23 [c0] = some y0 := by
    have : DataW.trod enc Tryd.prog W 0 (fun _ => true) true n 23 (([c0, c1].drop 0).take (Tryd.prog.cellsOf 23)) = some y0 := h0
    rw [one_row] at this
    exact this
  have g1 : DataW.trod enc Tryd.prog W 0 (fun _ => true) true n 2 [c1] = some y1 := by
    have : DataW.trod enc Tryd.prog W 0 (fun _ => true) true n 2 (([c0, c1].drop 1).take (Tryd.prog.cellsOf 2)) = some y1 := h1
    rw [one_i64] at this
    exact this
  obtain ⟨A, c, l, e0, r0, i0⟩ := come_rowC g0
  obtain ⟨k, e1, _, w1⟩ := DataW.trod_int Tryd.underlying2 g1
  obtain rfl : c0 = .slice A l.length c := by simpa using e0
  obtain rfl : c1 = .int .i64 k := by simpa using e1
  exact ⟨⟨A, c, l, k⟩, rfl, r0, i0, wf_i64 w1⟩
theorem come_ctsC {fuel : Nat} {cs : List Value} {y : DataW H × List MemPlace} (h : DataW.trod enc Tryd.prog W 0 (fun _ => true) true fuel 27 cs = some y) :
    ∃ A c L, cs = [.slice A L.length c] ∧ Cin W A c L ∧ InL L := by
  rcases Go.Deep.open_slice Tryd.underlying27 h with ⟨hcs, _⟩ | ⟨a, n, c, m, fu, D, Pl, hcs, _, hnc, hcm, hm, _, hx⟩
  · exact ⟨none, 0, [], hcs, ⟨Sl.nil W 2, fun x hx => (nomatch hx)⟩, fun x hx => (nomatch hx)⟩
  · rw [two_ct] at hx
    have hmn : n ≤ m := by rw [hm]; split <;> omega
    obtain ⟨F, hF⟩ := Go.Deep.choose_lt (α := Ct) (n := n) (p := fun i d => (∀ j, j < 2 → W.cell? (a.add (i * 2 + j)) = (ctC d)[j]?) ∧ Rw W d.A d.c d.l ∧ RwIn d.l ∧ InV (valC d)) (fun i hi => by
      obtain ⟨cs', h1, h2⟩ := hx i (by omega)
      obtain ⟨_, _, h3⟩ := World.cells?_some h1
      obtain ⟨d, rfl, h4⟩ := come_ctC h2
      exact ⟨d, fun j hj => by rw [← add_add']; exact h3 j hj, h4⟩)
    have hlen : ((List.range n).map F).length = n := by simp
    have hmem : ∀ d ∈ (List.range n).map F, Rw W d.A d.c d.l ∧ RwIn d.l ∧ InV (valC d) := fun d hd => by
      obtain ⟨i, hi, rfl⟩ := List.mem_map.1 hd
      exact (hF i (List.mem_range.1 hi)).2
    refine ⟨some a, c, (List.range n).map F, by rw [hlen]; exact hcs, ⟨⟨by rw [ctsC_len], by rw [hlen]; exact hnc, hcm, (fun h => nomatch h), fun _ => ⟨a, rfl, fun j u hu => ?_⟩⟩, fun d hd => (hmem d hd).1⟩, fun d hd => (hmem d hd).2⟩
    have hj : j < n * 2 := by
      rcases Nat.lt_or_ge j (n * 2) with q | q
      · exact q
      · rw [List.getElem?_eq_none (by rw [ctsC_len, hlen]; exact q)] at hu
        cases hu
    have e : j = j / 2 * 2 + j % 2 := by omega
    rw [e, ctsC_at _ _ _ (by rw [hlen]; omega) (by omega)] at hu
    have e2 : ((List.range n).map F).getD (j / 2) Ct.zero = F (j / 2) := by
      rw [List.getD_eq_getElem?_getD, List.getElem?_map, List.getElem?_range (by omega)]
      rfl
    rw [e2] at hu
    rw [e, (hF (j / 2) (by omega)).1 (j % 2) (by omega)]
    exact hu
set_option maxRecDepth 100000 in
theorem come_cts {base : Nat} {v : Value} {d : DataW H} {p : List MemPlace} (hv : Value.okWide Tryd.prog W .any base 27 v) (h : DataW.Trod enc Tryd.prog W 0 (fun _ => true) true 27 v d p) :
    ∃ A c L, v = .slice A L.length c ∧ Cin W A c L ∧ InL L := by
  obtain ⟨fuel, hf⟩ := h
  obtain ⟨A, c, l, e, h1, h2⟩ := come_ctsC hf
  obtain ⟨A', n', c', rfl⟩ := okWide_slice Tryd.underlying27 hv
  have e' : (Value.slice A' n' c') = .slice A l.length c := by injection e
  exact ⟨A, c, l, e', h1, h2⟩
end
end Go.Proofs.YtngeioghihbkeaaDoor
