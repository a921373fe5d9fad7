/- What comes in: times, lists of counters, integers. What comes in: lists of times. Conditions: each theorem states its own. -/
import Derived.Test.YtmdakaflmheidaaGreatDoorLaw
import Derived.Test.YtmdakaflmheidaaGreatDoorTms
import Derived.Deep.Slices
namespace Go.Proofs.YtmdakaflmheidaaGreatDoor
open Go.ChangeShapes Go.WideShapes Go.ChangeAt Go.RowKit Go.WideElems

theorem wf_i64 {n : Int} (h : (Lit.int .i64 n).wf = true) : -9223372036854775808 ≤ n ∧ n ≤ 9223372036854775807 := by
  simpa [Lit.wf, IntKind.min, IntKind.max, IntKind.signed, IntKind.bits] using h
theorem wf_u64 {n : Int} (h : (Lit.int .u64 n).wf = true) : 0 ≤ n ∧ n ≤ 18446744073709551615 := by
  simpa [Lit.wf, IntKind.min, IntKind.max, IntKind.signed, IntKind.bits] using h
theorem wf_u32 {n : Int} (h : (Lit.int .u32 n).wf = true) : 0 ≤ n ∧ n ≤ 4294967295 := by
  simpa [Lit.wf, IntKind.min, IntKind.max, IntKind.signed, IntKind.bits] using h

section
variable {H : Type} {enc : TypeId × Value → H} {W : World}
set_option maxRecDepth 100000 in
theorem come_words {fuel : Nat} {v : Value} {y : DataW H × List MemPlace} (h : DataW.trod enc Tryz.prog W 0 (fun _ => true) true fuel 24 [v] = some y) :
    ∃ A n c l, v = .slice A n c ∧ Sl W 1 A n c (wds l) ∧ U32 l := by
  rcases open_ints Tryz.underlying24 Tryz.underlying74 (by kernel_rfl) h with ⟨hcs, _⟩ | ⟨a, n, c, zs, hcs, _, hnc, hcm, hzl, _, hcell, hwf⟩
  · obtain rfl : v = .slice none 0 0 := by simpa using hcs
    exact ⟨none, 0, 0, [], rfl, Sl.nil W 1, fun x hx => by cases hx⟩
  · obtain rfl : v = .slice (some a) n c := by simpa using hcs
    have hz : zs.length = c := by simpa using hzl
    refine ⟨some a, n, c, zs.take n, rfl, ⟨by simp [wds]; omega, hnc, hcm, (fun h => nomatch h), fun _ => ⟨a, rfl, fun j u hu => ?_⟩⟩, fun x hx => wf_u32 (hwf x (List.mem_of_mem_take hx))⟩
    simp only [wds, List.getElem?_map, List.getElem?_take] at hu
    split at hu
    · rename_i hj
      have hc1 := hcell j (by omega)
      rw [List.getD_eq_getElem?_getD, List.getElem?_eq_getElem (show j < zs.length by omega)] at hc1
      rw [List.getElem?_eq_getElem (show j < zs.length by omega)] at hu
      simp only [Option.map_some, Option.some.injEq] at hu
      rw [← hu]
      exact hc1
    · cases hu

set_option maxRecDepth 100000 in
theorem come_time {base : Nat} {v : Value} {d : DataW H} {p : List MemPlace} (hv : Value.okWide Tryz.prog W .any base 26 v) (h : DataW.Trod enc Tryz.prog W 0 (fun _ => true) true 26 v d p) :
    ∃ e A n c l, v = .agg #[.int .u64 e, .slice A n c] ∧ Sl W 1 A n c (wds l) ∧ U32 l ∧ 0 ≤ e ∧ e ≤ 18446744073709551615 := by
  obtain ⟨v0, v1, y0, y1, n, rfl, _, _, h0, h1⟩ := Go.Joins.open_agg2 Tryz.underlying26 (by kernel_rfl) (by kernel_rfl) hv h
  obtain ⟨L, e0, _, w0⟩ := DataW.trod_int Tryz.underlying23 h0
  obtain ⟨A, k, c, l, rfl, hs, hu⟩ := come_words h1
  obtain rfl : v0 = .int .u64 L := by simpa using e0
  exact ⟨L, A, k, c, l, rfl, hs, hu, wf_u64 w0⟩

set_option maxRecDepth 100000 in
theorem come_int {base : Nat} {v : Value} {d : DataW H} {p : List MemPlace} (hv : Value.okWide Tryz.prog W .any base 3 v) (h : DataW.Trod enc Tryz.prog W 0 (fun _ => true) true 3 v d p) :
    ∃ n, v = .int .i64 n ∧ -9223372036854775808 ≤ n ∧ n ≤ 9223372036854775807 := by
  obtain ⟨n, rfl, _, _, hw⟩ := open_int Tryz.underlying3 hv h
  exact ⟨n, rfl, wf_i64 hw⟩
end
end Go.Proofs.YtmdakaflmheidaaGreatDoor
namespace Go.Proofs.YtmdakaflmheidaaGreatDoor
open Go.ChangeShapes Go.WideShapes Go.ChangeAt Go.RowKit Go.WideElems

section
variable {H : Type} {enc : TypeId × Value → H} {W : World}
theorem list2 {α : Type} {l : List α} (h : l.length = 2) : ∃ a b, l = [a, b] := by
  match l, h with
  | [a, b], _ => exact ⟨a, b, rfl⟩
theorem one_u64 : Tryz.prog.cellsOf 23 = 1 := by kernel_rfl
theorem one_wds : Tryz.prog.cellsOf 24 = 1 := by kernel_rfl
theorem two_tm : Tryz.prog.cellsOf 26 = 2 := by kernel_rfl
/-- what is known of a time that comes in -/
structure TmIn (x : Tm) : Prop where
  u : U32 x.l
  e : 0 ≤ x.e ∧ x.e ≤ 18446744073709551615
theorem come_timeC {fuel : Nat} {cs : List Value} {y : DataW H × List MemPlace} (h : DataW.trod enc Tryz.prog W 0 (fun _ => true) true fuel 26 cs = some y) :
    ∃ x : Tm, cs = tmC x ∧ Sl W 1 x.A x.l.length x.c (wds x.l) ∧ TmIn x := by
  obtain ⟨y0, y1, n, _, hl, h0, h1⟩ := Go.ChangeShapes.trod_struct2 Tryz.underlying26 h
  rw [two_tm] at hl
  obtain ⟨c0, c1, rfl⟩ := list2 hl
  have g0 : DataW.trod enc Tryz.prog W 0 (fun _ => true) true n 23 [c0] = some y0 := by
    have : DataW.trod enc Tryz.prog W 0 (fun _ => true) true n 23 (([c0, c1].drop 0).take (Tryz.prog.cellsOf 23)) = some y0 := h0
    rw [one_u64] at this
    exact this
  have g1 : DataW.trod enc Tryz.prog W 0 (fun _ => true) true n 24 [c1] = some y1 := by
    have : DataW.trod enc Tryz.prog W 0 (fun _ => true) true n 24 (([c0, c1].drop 1).take (Tryz.prog.cellsOf 24)) = some y1 := h1
    rw [one_wds] at this
    exact this
  obtain ⟨k, e0, _, w0⟩ := DataW.trod_int Tryz.underlying23 g0
  obtain ⟨A, m, c, l, rfl, hs, hu⟩ := come_words g1
  obtain rfl : c0 = .int .u64 k := by simpa using e0
  have hm := hs.wlen
  subst hm
  exact ⟨⟨k, A, c, l⟩, rfl, hs, ⟨hu, wf_u64 w0⟩⟩
theorem come_timesC {fuel : Nat} {cs : List Value} {y : DataW H × List MemPlace} (h : DataW.trod enc Tryz.prog W 0 (fun _ => true) true fuel 54 cs = some y) :
    ∃ A c L, cs = [.slice A (List.length L) c] ∧ Tin W A c L ∧ ∀ x ∈ L, TmIn x := by
  rcases Go.Deep.open_slice Tryz.underlying54 h with ⟨hcs, _⟩ | ⟨a, n, c, m, fu, D, Pl, hcs, _, hnc, hcm, hm, _, hx⟩
  · exact ⟨none, 0, [], hcs, Tin.nil W, fun x hx => (nomatch hx)⟩
  · rw [two_tm] at hx
    have hmn : n ≤ m := by rw [hm]; split <;> omega
    obtain ⟨F, hF⟩ := Go.Deep.choose_lt (α := Tm) (n := n) (p := fun i d => (∀ j, j < 2 → W.cell? (a.add (i * 2 + j)) = (tmC d)[j]?) ∧ Sl W 1 d.A d.l.length d.c (wds d.l) ∧ TmIn d) (fun i hi => by
      obtain ⟨cs', h1, h2⟩ := hx i (by omega)
      obtain ⟨_, _, h3⟩ := World.cells?_some h1
      obtain ⟨d, rfl, h4⟩ := come_timeC h2
      exact ⟨d, fun j hj => by rw [← add_add']; exact h3 j hj, h4⟩)
    have hlen : ((List.range n).map F).length = n := by simp
    have hmem : ∀ d ∈ (List.range n).map F, Sl W 1 d.A d.l.length d.c (wds d.l) ∧ TmIn d := fun d hd => by
      obtain ⟨i, hi, rfl⟩ := List.mem_map.1 hd
      exact (hF i (List.mem_range.1 hi)).2
    refine ⟨some a, c, (List.range n).map F, by rw [hlen]; exact hcs, ⟨⟨by rw [tmsC_len], by rw [hlen]; exact hnc, hcm, (fun h => nomatch h), fun _ => ⟨a, rfl, fun j u hu => ?_⟩⟩, fun d hd => (hmem d hd).1⟩, fun d hd => (hmem d hd).2⟩
    have hj : j < n * 2 := by
      rcases Nat.lt_or_ge j (n * 2) with q | q
      · exact q
      · rw [List.getElem?_eq_none (by rw [tmsC_len, hlen]; exact q)] at hu
        cases hu
    have e : j = j / 2 * 2 + j % 2 := by omega
    rw [e, tmsC_at _ _ _ (by rw [hlen]; omega) (by omega)] at hu
    have e2 : ((List.range n).map F).getD (j / 2) Tm.zero = F (j / 2) := by
      rw [List.getD_eq_getElem?_getD, List.getElem?_map, List.getElem?_range (by omega)]
      rfl
    rw [e2] at hu
    rw [e, (hF (j / 2) (by omega)).1 (j % 2) (by omega)]
    exact hu
set_option maxRecDepth 100000 in
theorem come_times {base : Nat} {v : Value} {d : DataW H} {p : List MemPlace} (hv : Value.okWide Tryz.prog W .any base 54 v) (h : DataW.Trod enc Tryz.prog W 0 (fun _ => true) true 54 v d p) :
    ∃ A c L, v = .slice A (List.length L) c ∧ Tin W A c L ∧ ∀ x ∈ L, TmIn x := by
  obtain ⟨fuel, hf⟩ := h
  obtain ⟨A, c, l, e, h1, h2⟩ := come_timesC hf
  obtain ⟨A', n', c', rfl⟩ := okWide_slice Tryz.underlying54 hv
  have e' : (Value.slice A' n' c') = .slice A l.length c := by injection e
  exact ⟨A, c, l, e', h1, h2⟩
end
end Go.Proofs.YtmdakaflmheidaaGreatDoor
