/- What the bound of a second form gives: the texts and the lengths of what comes in. Conditions: none. -/
import Derived.Test.YtngeioghihbkeaaDoorComes
import Derived.Test.YtngeioghihbkeaaDoorHashes
namespace Go.Proofs.YtngeioghihbkeaaDoor
open Go.ChangeShapes Go.WideShapes Go.ChangeAt Go.RowKit Go.WideElems

theorem bulk_one {H : Type} (d : DataW H) : 1 ≤ Rows.uptoBulk d := by
  cases d with
  | lit l => cases l <;> simp [Rows.uptoBulk]
  | nil => simp [Rows.uptoBulk]
  | ptr d => simp [Rows.uptoBulk]
  | slice elems spare => simp [Rows.uptoBulk]
  | agg parts => simp [Rows.uptoBulk]
  | iface t d => simp [Rows.uptoBulk]
  | map entries => simp [Rows.uptoBulk]
  | held h => simp [Rows.uptoBulk]
theorem bulk_part {H : Type} {d : DataW H} : ∀ {l : List (DataW H)}, d ∈ l → Rows.uptoBulk d ≤ Rows.uptoBulkAll l
  | x :: r, h => by
    simp only [Rows.uptoBulkAll]
    rcases List.mem_cons.1 h with rfl | h
    · omega
    · have := bulk_part h
      omega
theorem bulk_len {H : Type} : ∀ l : List (DataW H), l.length ≤ Rows.uptoBulkAll l
  | [] => Nat.zero_le _
  | x :: r => by
    have := bulk_one x
    have := bulk_len r
    simp only [Rows.uptoBulkAll, List.length_cons]
    omega
section
variable {H : Type} {enc : TypeId × Value → H} {W : World}
theorem datC_bulk {sp : Nat → Bool} {held : Bool} {fuel : Nat} {d : Dat} {y : DataW H × List MemPlace} (h : DataW.trod enc Tryd.prog W 0 sp held fuel 91 (datC d) = some y) : d.s.size ≤ Rows.uptoBulk y.1 := by
  obtain ⟨y0, y1, y2, y3, n, rfl, hl, h0, h1, h2, h3⟩ := Go.Joins.trod_struct4 Tryd.underlying91 h
  have g3 : DataW.trod enc Tryd.prog W 0 sp held n 9 [.string d.s] = some y3 := by
    have : DataW.trod enc Tryd.prog W 0 sp held n 9 (((datC d).drop 3).take (Tryd.prog.cellsOf 9)) = some y3 := h3
    rw [one_str] at this
    exact this
  obtain ⟨s, e3, ey, _⟩ := DataW.trod_string Tryd.underlying9 g3
  have e : d.s = s := by simpa using e3
  subst ey
  show d.s.size ≤ Rows.uptoBulk (DataW.agg [y0.1, y1.1, y2.1, DataW.lit (.string s.data.toList)])
  simp only [Rows.uptoBulk, Rows.uptoBulkAll]
  rw [e]
  have : s.data.toList.length = s.size := by simp
  omega
theorem row_bulk {fuel : Nat} {A : Option Addr} {c : Nat} {l : List Dat} {y : DataW H × List MemPlace} (h : DataW.trod enc Tryd.prog W 0 (fun _ => true) true fuel 23 [.slice A l.length c] = some y) (hr : Rw W A c l) :
    (∀ d ∈ l, d.s.size ≤ Rows.uptoBulk y.1) ∧ l.length ≤ Rows.uptoBulk y.1 := by
  rcases Go.Deep.open_slice Tryd.underlying23 h with ⟨hcs, _⟩ | ⟨a, n, k, m, fu, D, Pl, hcs, _, hnc, hcm, hm, rfl, hx⟩
  · have e : l = [] := List.eq_nil_of_length_eq_zero (by injection hcs with q; injection q)
    subst e
    exact ⟨fun d hd => (nomatch hd), Nat.zero_le _⟩
  · rw [four_dat] at hx
    have hn : l.length = n := by injection hcs with q; injection q
    have hA : A = some a := by injection hcs with q; injection q
    subst hA
    have hmn : n ≤ m := by rw [hm]; split <;> omega
    have hb : Rows.uptoBulkAll ((List.range n).map D) ≤ Rows.uptoBulk (DataW.slice ((List.range n).map D) ((List.range (m - n)).map fun j => D (n + j))) := by
      simp only [Rows.uptoBulk]
      omega
    refine ⟨fun d hd => ?_, ?_⟩
    · obtain ⟨i, hi, rfl⟩ := List.getElem_of_mem hd
      obtain ⟨cs', h1, h2⟩ := hx i (by omega)
      obtain ⟨_, h4, h3⟩ := World.cells?_some h1
      have e : cs' = datC l[i] := by
        refine List.ext_getElem? fun j => ?_
        rcases Nat.lt_or_ge j 4 with q | q
        · rw [← h3 j q, add_add']
          obtain ⟨ad, e1, hc⟩ := hr.2.2.2.2 (by omega)
          injection e1 with e1
          subst e1
          have e2 := rowC_at l i j hi q
          rw [List.getD_eq_getElem?_getD, List.getElem?_eq_getElem hi] at e2
          have e3 : (datC l[i])[j]? = some ((datC l[i])[j]'q) := List.getElem?_eq_getElem q
          rw [e3]
          exact hc _ _ (by rw [e2]; exact e3)
        · rw [List.getElem?_eq_none (by omega), List.getElem?_eq_none q]
      subst e
      exact Nat.le_trans (datC_bulk h2) (Nat.le_trans (bulk_part (d := D i) (l := (List.range n).map D) (List.mem_map.2 ⟨i, List.mem_range.2 (by omega), rfl⟩)) hb)
    · have := bulk_len ((List.range n).map D)
      rw [List.length_map, List.length_range] at this
      show l.length ≤ Rows.uptoBulk (DataW.slice ((List.range n).map D) ((List.range (m - n)).map fun j => D (n + j)))
      omega
set_option maxRecDepth 100000 in
theorem come_row_up {base : Nat} {v : Value} {d : DataW H} {p : List MemPlace} (hv : Value.okWide Tryd.prog W .any base 23 v) (h : DataW.Trod enc Tryd.prog W 0 (fun _ => true) true 23 v d p) :
    ∃ A c l, v = .slice A l.length c ∧ Rw W A c l ∧ RwIn l ∧ (∀ t ∈ l, t.s.size ≤ Rows.uptoBulk d) ∧ l.length ≤ Rows.uptoBulk d := by
  obtain ⟨A, c, l, rfl, h1, h2⟩ := come_row hv h
  obtain ⟨fuel, hf⟩ := h
  have h3 := row_bulk hf h1
  exact ⟨A, c, l, rfl, h1, h2, h3⟩
set_option maxRecDepth 100000 in
theorem come_ints {base : Nat} {v : Value} {d : DataW H} {p : List MemPlace} (hv : Value.okWide Tryd.prog W .any base 43 v) (h : DataW.Trod enc Tryd.prog W 0 (fun _ => true) true 43 v d p) :
    ∃ A c l, v = .slice A l.length c ∧ Is W A c l ∧ (∀ x ∈ l, -9223372036854775808 ≤ x ∧ x ≤ 9223372036854775807) := by
  obtain ⟨A', n', c', rfl⟩ := okWide_slice Tryd.underlying43 hv
  obtain ⟨fuel, hf⟩ := h
  rcases open_ints Tryd.underlying43 Tryd.underlying3 (by kernel_rfl) hf with ⟨hcs, _⟩ | ⟨a, n, c, zs, hcs, _, hnc, hcm, hzl, _, hcell, hwf⟩
  · have e : (Value.slice A' n' c') = .slice none 0 0 := by injection hcs
    obtain ⟨rfl, rfl, rfl⟩ : A' = none ∧ n' = 0 ∧ c' = 0 := by simpa using e
    exact ⟨none, 0, [], rfl, Sl.nil W 1, fun x hx => by cases hx⟩
  · have e : (Value.slice A' n' c') = .slice (some a) n c := by injection hcs
    obtain ⟨rfl, rfl, rfl⟩ : A' = some a ∧ n' = n ∧ c' = c := by simpa using e
    have hz : zs.length = c' := by simpa using hzl
    have hl : (zs.take n').length = n' := by rw [List.length_take]; omega
    refine ⟨some a, c', zs.take n', by rw [hl], ⟨by simp [ints], by rw [hl]; exact hnc, hcm, (fun h => nomatch h), fun _ => ⟨a, rfl, fun j u hu => ?_⟩⟩, fun x hx => wf_i64 (hwf x (List.mem_of_mem_take hx))⟩
    simp only [ints, List.getElem?_map, List.getElem?_take] at hu
    split at hu
    · rename_i hj
      have hc1 := hcell j (by omega)
      rw [List.getD_eq_getElem?_getD, List.getElem?_eq_getElem (show j < zs.length by omega)] at hc1
      rw [List.getElem?_eq_getElem (show j < zs.length by omega)] at hu
      simp only [Option.map_some, Option.some.injEq] at hu
      rw [← hu]
      exact hc1
    · cases hu
theorem ints_bulk {v : Value} {d : DataW H} {p : List MemPlace} {A : Option Addr} {n c : Nat} (e : v = .slice A n c) (h : DataW.Trod enc Tryd.prog W 0 (fun _ => true) true 43 v d p) : n ≤ Rows.uptoBulk d := by
  subst e
  obtain ⟨fuel, hf⟩ := h
  rcases Go.Deep.open_slice Tryd.underlying43 hf with ⟨hcs, _⟩ | ⟨a, n', k, m, fu, D, Pl, hcs, _, hnc, hcm, hm, hx, _⟩
  · have q : (Value.slice A n c) = .slice none 0 0 := by injection hcs
    injection q with _ q2 _
    omega
  · have q : (Value.slice A n c) = .slice (some a) n' k := by injection hcs
    injection q with _ q2 _
    have e2 : d = DataW.slice ((List.range n').map D) ((List.range (m - n')).map fun j => D (n' + j)) := by injection hx
    have := bulk_len ((List.range n').map D)
    rw [List.length_map, List.length_range] at this
    rw [e2]
    simp only [Rows.uptoBulk]
    omega
end
end Go.Proofs.YtngeioghihbkeaaDoor
