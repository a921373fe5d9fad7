/- What comes in at chapter 02: rows. What comes in: bytes. Conditions: each theorem states its own. -/
import Derived.Test.YtngeioghihbkeaaDoorDCome
import Derived.Test.YtngeioghihbkeaaDoorRowKnown
import Derived.Test.YtngeioghihbkeaaDoorRowEncs
namespace Go.Proofs.YtngeioghihbkeaaDoor
open Go.ChangeShapes Go.WideShapes Go.ChangeAt Go.RowKit Go.WideElems

instance : Inhabited Dat := ⟨Dat.zero⟩
section
variable {H : Type} {enc : TypeId × Value → H} {W : World}
theorem list4 {α : Type} {l : List α} (h : l.length = 4) : ∃ a b c d, l = [a, b, c, d] := by
  match l, h with
  | [a, b, c, d], _ => exact ⟨a, b, c, d, rfl⟩
theorem one_kind : Tryd.prog.cellsOf 89 = 1 := by kernel_rfl
theorem one_bool : Tryd.prog.cellsOf 4 = 1 := by kernel_rfl
theorem one_i64 : Tryd.prog.cellsOf 2 = 1 := by kernel_rfl
theorem one_str : Tryd.prog.cellsOf 9 = 1 := by kernel_rfl
theorem four_dat : Tryd.prog.cellsOf 91 = 4 := by kernel_rfl
/-- a datum's cells, read -/
theorem come_datC {sp : Nat → Bool} {held : Bool} {fuel : Nat} {cs : List Value} {y : DataW H × List MemPlace} (h : DataW.trod enc Tryd.prog W 0 sp held fuel 91 cs = some y) :
    ∃ d : Dat, cs = datC d ∧ InD d ∧ d.s.size ≤ 9223372036854775807 ∧ (0 ≤ d.k ∧ d.k ≤ 255) := by
  obtain ⟨y0, y1, y2, y3, n, _, hl, h0, h1, h2, h3⟩ := Go.Joins.trod_struct4 Tryd.underlying91 h
  rw [four_dat] at hl
  obtain ⟨c0, c1, c2, c3, rfl⟩ := list4 hl
  have g0 : DataW.trod enc Tryd.prog W 0 sp held n 89 [c0] = some y0 := by
    have : DataW.trod enc Tryd.prog W 0 sp held n 89 (([c0, c1, c2, c3].drop 0).take (Tryd.prog.cellsOf 89)) = some y0 := h0
    rw [one_kind] at this
    exact this
  have g1 : DataW.trod enc Tryd.prog W 0 sp held n 4 [c1] = some y1 := by
    have : DataW.trod enc Tryd.prog W 0 sp held n 4 (([c0, c1, c2, c3].drop 1).take (Tryd.prog.cellsOf 4)) = some y1 := h1
    rw [one_bool] at this
    exact this
  have g2 : DataW.trod enc Tryd.prog W 0 sp held n 2 [c2] = some y2 := by
    have : DataW.trod enc Tryd.prog W 0 sp held n 2 (([c0, c1, c2, c3].drop 2).take (Tryd.prog.cellsOf 2)) = some y2 := h2
    rw [one_i64] at this
    exact this
  have g3 : DataW.trod enc Tryd.prog W 0 sp held n 9 [c3] = some y3 := by
    have : DataW.trod enc Tryd.prog W 0 sp held n 9 (([c0, c1, c2, c3].drop 3).take (Tryd.prog.cellsOf 9)) = some y3 := h3
    rw [one_str] at this
    exact this
  obtain ⟨k, e0, _, w0⟩ := DataW.trod_int Tryd.underlying89 g0
  obtain ⟨b, e1, _⟩ := DataW.trod_bool Tryd.underlying4 g1
  obtain ⟨m, e2, _, w2⟩ := DataW.trod_int Tryd.underlying2 g2
  obtain ⟨s, e3, _, w3⟩ := DataW.trod_string Tryd.underlying9 g3
  obtain rfl : c0 = .int .u8 k := by simpa using e0
  obtain rfl : c1 = .bool b := by simpa using e1
  obtain rfl : c2 = .int .i64 m := by simpa using e2
  obtain rfl : c3 = .string s := by simpa using e3
  exact ⟨⟨k, b, m, s⟩, rfl, wf_i64 w2, w3, wf_u8 w0⟩
/-- what is known of a row that comes in -/
structure RwIn (l : List Dat) : Prop where
  txt : RwTxt l
  int : RwInt l
  kind : ∀ d ∈ l, 0 ≤ d.k ∧ d.k ≤ 255
theorem come_rowC {fuel : Nat} {cs : List Value} {y : DataW H × List MemPlace} (h : DataW.trod enc Tryd.prog W 0 (fun _ => true) true fuel 23 cs = some y) :
    ∃ A c l, cs = [.slice A l.length c] ∧ Rw W A c l ∧ RwIn l := by
  rcases Go.Deep.open_slice Tryd.underlying23 h with ⟨hcs, _⟩ | ⟨a, n, c, m, fu, D, Pl, hcs, _, hnc, hcm, hm, _, hx⟩
  · exact ⟨none, 0, [], hcs, Rw.nil W, ⟨fun d hd => (nomatch hd), fun d hd => (nomatch hd), fun d hd => (nomatch hd)⟩⟩
  · rw [four_dat] at hx
    have hmn : n ≤ m := by rw [hm]; split <;> omega
    obtain ⟨F, hF⟩ := Go.Deep.choose_lt (α := Dat) (n := n) (p := fun i d => (∀ j, j < 4 → W.cell? (a.add (i * 4 + j)) = (datC d)[j]?) ∧ InD d ∧ d.s.size ≤ 9223372036854775807 ∧ (0 ≤ d.k ∧ d.k ≤ 255)) (fun i hi => by
      obtain ⟨cs', h1, h2⟩ := hx i (by omega)
      obtain ⟨_, _, h3⟩ := World.cells?_some h1
      obtain ⟨d, rfl, h4⟩ := come_datC h2
      exact ⟨d, fun j hj => by rw [← add_add']; exact h3 j hj, h4⟩)
    have hlen : ((List.range n).map F).length = n := by simp
    have hmem : ∀ d ∈ (List.range n).map F, InD d ∧ d.s.size ≤ 9223372036854775807 ∧ (0 ≤ d.k ∧ d.k ≤ 255) := fun d hd => by
      obtain ⟨i, hi, rfl⟩ := List.mem_map.1 hd
      exact (hF i (List.mem_range.1 hi)).2
    refine ⟨some a, c, (List.range n).map F, by rw [hlen]; exact hcs, ⟨by rw [rowC_len], by rw [hlen]; exact hnc, hcm, (fun h => nomatch h), fun _ => ⟨a, rfl, fun j u hu => ?_⟩⟩, ⟨fun d hd => (hmem d hd).2.1, fun d hd => (hmem d hd).1, fun d hd => (hmem d hd).2.2⟩⟩
    have hj : j < n * 4 := by
      rcases Nat.lt_or_ge j (n * 4) with q | q
      · exact q
      · rw [List.getElem?_eq_none (by rw [rowC_len, hlen]; exact q)] at hu
        cases hu
    have e : j = j / 4 * 4 + j % 4 := by omega
    rw [e, rowC_at _ _ _ (by rw [hlen]; omega) (by omega)] at hu
    have e2 : ((List.range n).map F).getD (j / 4) Dat.zero = F (j / 4) := by
      rw [List.getD_eq_getElem?_getD, List.getElem?_map, List.getElem?_range (by omega)]
      rfl
    rw [e2] at hu
    rw [e, (hF (j / 4) (by omega)).1 (j % 4) (by omega)]
    exact hu
set_option maxRecDepth 100000 in
theorem come_row {base : Nat} {v : Value} {d : DataW H} {p : List MemPlace} (hv : Value.okWide Tryd.prog W .any base 23 v) (h : DataW.Trod enc Tryd.prog W 0 (fun _ => true) true 23 v d p) :
    ∃ A c l, v = .slice A l.length c ∧ Rw W A c l ∧ RwIn l := by
  obtain ⟨fuel, hf⟩ := h
  obtain ⟨A, c, l, e, h1, h2⟩ := come_rowC hf
  obtain ⟨A', n', c', rfl⟩ := okWide_slice Tryd.underlying23 hv
  have e' : (Value.slice A' n' c') = .slice A l.length c := by injection e
  exact ⟨A, c, l, e', h1, h2⟩
end
end Go.Proofs.YtngeioghihbkeaaDoor
namespace Go.Proofs.YtngeioghihbkeaaDoor
open Go.ChangeShapes Go.WideShapes Go.ChangeAt Go.RowKit Go.WideElems

section
variable {H : Type} {enc : TypeId × Value → H} {W : World}
set_option maxRecDepth 100000 in
theorem come_bytes {base : Nat} {v : Value} {d : DataW H} {p : List MemPlace} (hv : Value.okWide Tryd.prog W .any base 35 v) (h : DataW.Trod enc Tryd.prog W 0 (fun _ => true) true 35 v d p) :
    ∃ A c l, v = .slice A l.length c ∧ Bs W A c l := by
  obtain ⟨A', n', c', rfl⟩ := okWide_slice Tryd.underlying35 hv
  obtain ⟨fuel, hf⟩ := h
  rcases open_ints Tryd.underlying35 Tryd.underlying5 (by kernel_rfl) hf with ⟨hcs, _⟩ | ⟨a, n, c, zs, hcs, _, hnc, hcm, hzl, _, hcell, hwf⟩
  · have e : (Value.slice A' n' c') = .slice none 0 0 := by injection hcs
    obtain ⟨rfl, rfl, rfl⟩ : A' = none ∧ n' = 0 ∧ c' = 0 := by simpa using e
    exact ⟨none, 0, [], rfl, Sl.nil W 1⟩
  · have e : (Value.slice A' n' c') = .slice (some a) n c := by injection hcs
    obtain ⟨rfl, rfl, rfl⟩ : A' = some a ∧ n' = n ∧ c' = c := by simpa using e
    have hz : zs.length = c' := by simpa using hzl
    have hl : ((zs.take n').map fun x => UInt8.ofNat x.toNat).length = n' := by rw [List.length_map, List.length_take]; omega
    refine ⟨some a, c', (zs.take n').map fun x => UInt8.ofNat x.toNat, by rw [hl], ⟨by rw [Lib.byteCells_length, Nat.mul_one], by rw [hl]; exact hnc, hcm, (fun h => nomatch h), fun _ => ⟨a, rfl, fun j u hu => ?_⟩⟩⟩
    simp only [Lib.byteCells, List.getElem?_map, List.getElem?_take] at hu
    split at hu
    · rename_i hj
      have hc1 := hcell j (by omega)
      rw [List.getD_eq_getElem?_getD, List.getElem?_eq_getElem (show j < zs.length by omega)] at hc1
      rw [List.getElem?_eq_getElem (show j < zs.length by omega)] at hu
      simp only [Option.map_some, Option.some.injEq] at hu
      have hw := wf_u8 (hwf _ (List.getElem_mem (show j < zs.length by omega)))
      rw [← hu, hc1, Option.getD_some]
      have e3 : ((UInt8.ofNat (zs[j]'(by omega)).toNat).toNat : Int) = zs[j]'(by omega) := by
        have : (zs[j]'(by omega)).toNat < 256 := by omega
        simp only [UInt8.toNat_ofNat']
        omega
      rw [e3]
    · cases hu
end
end Go.Proofs.YtngeioghihbkeaaDoor
