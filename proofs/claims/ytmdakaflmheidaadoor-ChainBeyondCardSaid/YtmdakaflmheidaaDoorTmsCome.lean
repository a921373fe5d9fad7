/- What comes in: lists of times. Conditions: none. -/
import Derived.Test.YtmdakaflmheidaaDoorComeA
import Derived.Test.YtmdakaflmheidaaDoorTms
import Derived.Deep.Slices
namespace Go.Proofs.YtmdakaflmheidaaDoor
open Go.ChangeShapes Go.WideShapes Go.ChangeAt Go.RowKit Go.WideElems

section
variable {H : Type} {enc : TypeId × Value → H} {W : World}
theorem list2 {α : Type} {l : List α} (h : l.length = 2) : ∃ a b, l = [a, b] := by
  match l, h with
  | [a, b], _ => exact ⟨a, b, rfl⟩
theorem one_u64 : Tryd.prog.cellsOf 23 = 1 := by kernel_rfl
theorem one_wds : Tryd.prog.cellsOf 24 = 1 := by kernel_rfl
theorem two_tm : Tryd.prog.cellsOf 26 = 2 := by kernel_rfl
/-- what is known of a time that comes in -/
structure TmIn (x : Tm) : Prop where
  u : U32 x.l
  e : 0 ≤ x.e ∧ x.e ≤ 18446744073709551615
theorem come_timeC {fuel : Nat} {cs : List Value} {y : DataW H × List MemPlace} (h : DataW.trod enc Tryd.prog W 0 (fun _ => true) true fuel 26 cs = some y) :
    ∃ x : Tm, cs = tmC x ∧ Sl W 1 x.A x.l.length x.c (wds x.l) ∧ TmIn x := by
  obtain ⟨y0, y1, n, _, hl, h0, h1⟩ := Go.ChangeShapes.trod_struct2 Tryd.underlying26 h
  rw [two_tm] at hl
  obtain ⟨c0, c1, rfl⟩ := list2 hl
  have g0 : DataW.trod enc Tryd.prog W 0 (fun _ => true) true n 23 [c0] = some y0 := by
    have : DataW.trod enc Tryd.prog W 0 (fun _ => true) true n 23 (([c0, c1].drop 0).take (Tryd.prog.cellsOf 23)) = some y0 := h0
    rw [one_u64] at this
    exact this
  have g1 : DataW.trod enc Tryd.prog W 0 (fun _ => true) true n 24 [c1] = some y1 := by
    have : DataW.trod enc Tryd.prog W 0 (fun _ => true) true n 24 (([c0, c1].drop 1).take (Tryd.prog.cellsOf 24)) = some y1 := h1
    rw [one_wds] at this
    exact this
  obtain ⟨k, e0, _, w0⟩ := DataW.trod_int Tryd.underlying23 g0
  obtain ⟨A, m, c, l, rfl, hs, hu⟩ := come_words g1
  obtain rfl : c0 = .int .u64 k := by simpa using e0
  have hm := hs.wlen
  subst hm
  exact ⟨⟨k, A, c, l⟩, rfl, hs, ⟨hu, wf_u64 w0⟩⟩
theorem come_timesC {fuel : Nat} {cs : List Value} {y : DataW H × List MemPlace} (h : DataW.trod enc Tryd.prog W 0 (fun _ => true) true fuel 22 cs = some y) :
    ∃ A c L, cs = [.slice A (List.length L) c] ∧ Tin W A c L ∧ ∀ x ∈ L, TmIn x := by
  rcases Go.Deep.open_slice Tryd.underlying22 h with ⟨hcs, _⟩ | ⟨a, n, c, m, fu, D, Pl, hcs, _, hnc, hcm, hm, _, hx⟩
  · exact ⟨none, 0, [], hcs, Tin.nil W, fun x hx => (nomatch hx)⟩
  · rw [two_tm] at hx
    have hmn : n ≤ m := by rw [hm]; split <;> omega
    obtain ⟨F, hF⟩ := Go.Deep.choose_lt (α := Tm) (n := n) (p := fun i d => (∀ j, j < 2 → W.cell? (a.add (i * 2 + j)) = (tmC d)[j]?) ∧ Sl W 1 d.A d.l.length d.c (wds d.l) ∧ TmIn d) (fun i hi => by
      obtain ⟨cs', h1, h2⟩ := hx i (by omega)
      obtain ⟨_, _, h3⟩ := World.cells?_some h1
      obtain ⟨d, rfl, h4⟩ := come_timeC h2
      exact ⟨d, fun j hj => by rw [← add_add']; exact h3 j hj, h4⟩)
    have hlen : ((List.range n).map F).length = n := by simp
    have hmem : ∀ d ∈ (List.range n).map F, Sl W 1 d.A d.l.length d.c (wds d.l) ∧ TmIn d := fun d hd => by
      obtain ⟨i, hi, rfl⟩ := List.mem_map.1 hd
      exact (hF i (List.mem_range.1 hi)).2
    refine ⟨some a, c, (List.range n).map F, by rw [hlen]; exact hcs, ⟨⟨by rw [tmsC_len], by rw [hlen]; exact hnc, hcm, (fun h => nomatch h), fun _ => ⟨a, rfl, fun j u hu => ?_⟩⟩, fun d hd => (hmem d hd).1⟩, fun d hd => (hmem d hd).2⟩
    have hj : j < n * 2 := by
      rcases Nat.lt_or_ge j (n * 2) with q | q
      · exact q
      · rw [List.getElem?_eq_none (by rw [tmsC_len, hlen]; exact q)] at hu
        cases hu
    have e : j = j / 2 * 2 + j % 2 := by omega
    rw [e, tmsC_at _ _ _ (by rw [hlen]; omega) (by omega)] at hu
    have e2 : ((List.range n).map F).getD (j / 2) Tm.zero = F (j / 2) := by
      rw [List.getD_eq_getElem?_getD, List.getElem?_map, List.getElem?_range (by omega)]
      rfl
    rw [e2] at hu
    rw [e, (hF (j / 2) (by omega)).1 (j % 2) (by omega)]
    exact hu
set_option maxRecDepth 100000 in
theorem come_times {base : Nat} {v : Value} {d : DataW H} {p : List MemPlace} (hv : Value.okWide Tryd.prog W .any base 22 v) (h : DataW.Trod enc Tryd.prog W 0 (fun _ => true) true 22 v d p) :
    ∃ A c L, v = .slice A (List.length L) c ∧ Tin W A c L ∧ ∀ x ∈ L, TmIn x := by
  obtain ⟨fuel, hf⟩ := h
  obtain ⟨A, c, l, e, h1, h2⟩ := come_timesC hf
  obtain ⟨A', n', c', rfl⟩ := okWide_slice Tryd.underlying22 hv
  have e' : (Value.slice A' n' c') = .slice A l.length c := by injection e
  exact ⟨A, c, l, e', h1, h2⟩
end
end Go.Proofs.YtmdakaflmheidaaDoor
