/- What comes in: a time, with the size that the row gives. Conditions: none. -/
import Derived.Test.YtmdakaflmheidaaDoorComeA
import Derived.SizedLaws
namespace Go.Proofs.YtmdakaflmheidaaDoor
open Go.ChangeShapes Go.WideShapes Go.ChangeAt Go.RowKit Go.WideElems

theorem reach_leT {n : Nat} (h : n ≤ reachBytes) : n ≤ 140737488355328 := by
  have := reachBytes_lt
  have e : (2 : Nat) ^ 47 = 140737488355328 := by decide
  omega
section
variable {H : Type} {enc : TypeId × Value → H} {W : World}
theorem sized_time {ts : List TypeId} {ds : List (DataW H)} (h : (DataW.weightsEach Tryd.prog ts ds).all (· ≤ reachBytes) = true) {j : Nat} {a : DataW H} {x y : List (DataW H)} (ht : ts[j]? = some 26) (hd : ds[j]? = some (.agg [a, .slice x y])) : (x.length + y.length) * 4 ≤ reachBytes := by
  have := List.all_eq_true.1 h _ (DataW.weights_mem_each ht hd ((x.length + y.length) * Tryd.prog.bytesOf 39) (by unfold DataW.weights; rw [Tryd.underlying26]; simp [DataW.weightsEach, DataW.weights, Tryd.underlying24]))
  rw [show Tryd.prog.bytesOf 39 = 4 by kernel_rfl] at this
  simpa using this
set_option maxRecDepth 100000 in
theorem words_size {fuel : Nat} {A : Option Addr} {n c : Nat} {y : DataW H × List MemPlace} (h : DataW.trod enc Tryd.prog W 0 (fun _ => true) true fuel 24 [.slice A n c] = some y) : n = 0 ∨ ∃ a b, y.1 = .slice a b ∧ n ≤ a.length + b.length := by
  rcases open_ints Tryd.underlying24 Tryd.underlying39 (by kernel_rfl) h with ⟨hcs, _⟩ | ⟨a, n', c', zs, hcs, _, hnc, hcm, hzl, hy, hcell, hwf⟩
  · exact .inl (by simp at hcs; omega)
  · obtain ⟨_, rfl, rfl⟩ : A = some a ∧ n = n' ∧ c = c' := by simpa using hcs
    have hz : zs.length = c := by simpa using hzl
    exact .inr ⟨_, _, congrArg Prod.fst hy, by simp only [lits, List.length_map, List.length_take, List.length_drop]; omega⟩
set_option maxRecDepth 100000 in
theorem come_time_z {base : Nat} {v : Value} {d : DataW H} {p : List MemPlace} (hv : Value.okWide Tryd.prog W .any base 26 v) (h : DataW.Trod enc Tryd.prog W 0 (fun _ => true) true 26 v d p) :
    ∃ e A n c l, v = .agg #[.int .u64 e, .slice A n c] ∧ Sl W 1 A n c (wds l) ∧ U32 l ∧
      ∀ (ts : List TypeId) (ds : List (DataW H)) (j : Nat), ts[j]? = some 26 → ds[j]? = some d → (DataW.weightsEach Tryd.prog ts ds).all (· ≤ reachBytes) = true → n ≤ 140737488355328 := by
  obtain ⟨v0, v1, y0, y1, n, rfl, hd, _, h0, h1⟩ := Go.Joins.open_agg2 Tryd.underlying26 (by kernel_rfl) (by kernel_rfl) hv h
  obtain ⟨L, e0, _, w0⟩ := DataW.trod_int Tryd.underlying23 h0
  obtain ⟨A, k, c, l, rfl, hs, hu⟩ := come_words h1
  obtain rfl : v0 = .int .u64 L := by simpa using e0
  refine ⟨L, A, k, c, l, rfl, hs, hu, fun ts ds j ht hd' hz => ?_⟩
  rcases words_size h1 with rfl | ⟨a, b, hy, hle⟩
  · omega
  · rw [hd, hy] at hd'
    have := reach_leT (sized_time hz ht hd')
    omega
end
end Go.Proofs.YtmdakaflmheidaaDoor
