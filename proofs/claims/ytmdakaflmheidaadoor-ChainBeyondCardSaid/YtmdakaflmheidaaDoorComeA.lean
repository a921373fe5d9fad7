/- What comes in: times, lists of counters, integers. Conditions: none. -/
import Derived.Test.YtmdakaflmheidaaDoorLaw
namespace Go.Proofs.YtmdakaflmheidaaDoor
open Go.ChangeShapes Go.WideShapes Go.ChangeAt Go.RowKit Go.WideElems

theorem wf_i64 {n : Int} (h : (Lit.int .i64 n).wf = true) : -9223372036854775808 ≤ n ∧ n ≤ 9223372036854775807 := by
  simpa [Lit.wf, IntKind.min, IntKind.max, IntKind.signed, IntKind.bits] using h
theorem wf_u64 {n : Int} (h : (Lit.int .u64 n).wf = true) : 0 ≤ n ∧ n ≤ 18446744073709551615 := by
  simpa [Lit.wf, IntKind.min, IntKind.max, IntKind.signed, IntKind.bits] using h
theorem wf_u32 {n : Int} (h : (Lit.int .u32 n).wf = true) : 0 ≤ n ∧ n ≤ 4294967295 := by
  simpa [Lit.wf, IntKind.min, IntKind.max, IntKind.signed, IntKind.bits] using h

section
variable {H : Type} {enc : TypeId × Value → H} {W : World}
set_option maxRecDepth 100000 in
theorem come_words {fuel : Nat} {v : Value} {y : DataW H × List MemPlace} (h : DataW.trod enc Tryd.prog W 0 (fun _ => true) true fuel 24 [v] = some y) :
    ∃ A n c l, v = .slice A n c ∧ Sl W 1 A n c (wds l) ∧ U32 l := by
  rcases open_ints Tryd.underlying24 Tryd.underlying39 (by kernel_rfl) h with ⟨hcs, _⟩ | ⟨a, n, c, zs, hcs, _, hnc, hcm, hzl, _, hcell, hwf⟩
  · obtain rfl : v = .slice none 0 0 := by simpa using hcs
    exact ⟨none, 0, 0, [], rfl, Sl.nil W 1, fun x hx => by cases hx⟩
  · obtain rfl : v = .slice (some a) n c := by simpa using hcs
    have hz : zs.length = c := by simpa using hzl
    refine ⟨some a, n, c, zs.take n, rfl, ⟨by simp [wds]; omega, hnc, hcm, (fun h => nomatch h), fun _ => ⟨a, rfl, fun j u hu => ?_⟩⟩, fun x hx => wf_u32 (hwf x (List.mem_of_mem_take hx))⟩
    simp only [wds, List.getElem?_map, List.getElem?_take] at hu
    split at hu
    · rename_i hj
      have hc1 := hcell j (by omega)
      rw [List.getD_eq_getElem?_getD, List.getElem?_eq_getElem (show j < zs.length by omega)] at hc1
      rw [List.getElem?_eq_getElem (show j < zs.length by omega)] at hu
      simp only [Option.map_some, Option.some.injEq] at hu
      rw [← hu]
      exact hc1
    · cases hu

set_option maxRecDepth 100000 in
theorem come_time {base : Nat} {v : Value} {d : DataW H} {p : List MemPlace} (hv : Value.okWide Tryd.prog W .any base 26 v) (h : DataW.Trod enc Tryd.prog W 0 (fun _ => true) true 26 v d p) :
    ∃ e A n c l, v = .agg #[.int .u64 e, .slice A n c] ∧ Sl W 1 A n c (wds l) ∧ U32 l ∧ 0 ≤ e ∧ e ≤ 18446744073709551615 := by
  obtain ⟨v0, v1, y0, y1, n, rfl, _, _, h0, h1⟩ := Go.Joins.open_agg2 Tryd.underlying26 (by kernel_rfl) (by kernel_rfl) hv h
  obtain ⟨L, e0, _, w0⟩ := DataW.trod_int Tryd.underlying23 h0
  obtain ⟨A, k, c, l, rfl, hs, hu⟩ := come_words h1
  obtain rfl : v0 = .int .u64 L := by simpa using e0
  exact ⟨L, A, k, c, l, rfl, hs, hu, wf_u64 w0⟩

set_option maxRecDepth 100000 in
theorem come_int {base : Nat} {v : Value} {d : DataW H} {p : List MemPlace} (hv : Value.okWide Tryd.prog W .any base 3 v) (h : DataW.Trod enc Tryd.prog W 0 (fun _ => true) true 3 v d p) :
    ∃ n, v = .int .i64 n ∧ -9223372036854775808 ≤ n ∧ n ≤ 9223372036854775807 := by
  obtain ⟨n, rfl, _, _, hw⟩ := open_int Tryd.underlying3 hv h
  exact ⟨n, rfl, wf_i64 hw⟩
end
end Go.Proofs.YtmdakaflmheidaaDoor
