/- What comes in at this seat, with its size: data whose texts lie in memory. Conditions: none. -/
import Derived.Test.YtobgfegdfcpgfaaDoorDCome
import Derived.SizedLaws
namespace Go.Proofs.YtobgfegdfcpgfaaDoor
open Go.ChangeShapes Go.WideShapes Go.ChangeAt Go.RowKit Go.WideElems

theorem reach_le {n : Nat} (h : n ≤ reachBytes) : n ≤ 140737488355328 := by
  have := reachBytes_lt
  have e : (2 : Nat) ^ 47 = 140737488355328 := by decide
  omega
section
variable {H : Type} {enc : TypeId × Value → H} {W : World}
theorem sized_datum {ts : List TypeId} {ds : List (DataW H)} (h : (DataW.weightsEach Tryd.prog ts ds).all (· ≤ reachBytes) = true) {j : Nat} {a b c : DataW H} {l : List UInt8} (ht : ts[j]? = some 24) (hd : ds[j]? = some (.agg [a, b, c, .lit (.string l)])) : l.length ≤ reachBytes := by
  have := List.all_eq_true.1 h _ (DataW.weights_mem_each ht hd l.length (by unfold DataW.weights; rw [Tryd.underlying24]; simp [DataW.weightsEach, DataW.weights]))
  simpa using this
set_option maxRecDepth 100000 in
theorem come_datum_z {base : Nat} {v : Value} {d : DataW H} {p : List MemPlace} (hv : Value.okWide Tryd.prog W .any base 24 v) (h : DataW.Trod enc Tryd.prog W 0 (fun _ => true) true 24 v d p) :
    ∃ (k : Int) (b : Bool) (n : Int) (s : ByteArray), v = .agg #[.int .u8 k, .bool b, .int .i64 n, .string s] ∧ (0 ≤ k ∧ k ≤ 255) ∧ (-9223372036854775808 ≤ n ∧ n ≤ 9223372036854775807) ∧
      ∀ (ts : List TypeId) (ds : List (DataW H)) (j : Nat), ts[j]? = some 24 → ds[j]? = some d → (DataW.weightsEach Tryd.prog ts ds).all (· ≤ reachBytes) = true → s.size ≤ 140737488355328 := by
  obtain ⟨v0, v1, v2, v3, y0, y1, y2, y3, n, rfl, rfl, _, h0, h1, h2, h3⟩ := Go.Joins.open_agg4 Tryd.underlying24 (by kernel_rfl) (by kernel_rfl) hv h
  obtain ⟨k, e0, _, w0⟩ := DataW.trod_int Tryd.underlying22 h0
  obtain ⟨b, e1, _⟩ := DataW.trod_bool Tryd.underlying4 h1
  obtain ⟨m, e2, _, w2⟩ := DataW.trod_int Tryd.underlying2 h2
  obtain ⟨s, e3, x3, w3⟩ := DataW.trod_string Tryd.underlying9 h3
  obtain rfl : v0 = .int .u8 k := by simpa using e0
  obtain rfl : v1 = .bool b := by simpa using e1
  obtain rfl : v2 = .int .i64 m := by simpa using e2
  obtain rfl : v3 = .string s := by simpa using e3
  refine ⟨k, b, m, s, rfl, wf_u8 w0, wf_i64 w2, fun ts ds j ht hd hz => ?_⟩
  rw [x3] at hd
  have := reach_le (sized_datum hz ht hd)
  simpa using this
set_option maxRecDepth 100000 in
theorem come_string_z {base : Nat} {v : Value} {d : DataW H} {p : List MemPlace} (hv : Value.okWide Tryd.prog W .any base 9 v) (h : DataW.Trod enc Tryd.prog W 0 (fun _ => true) true 9 v d p) :
    ∃ s : ByteArray, v = .string s ∧ ∀ (ts : List TypeId) (ds : List (DataW H)) (j : Nat), ts[j]? = some 9 → ds[j]? = some d → (DataW.weightsEach Tryd.prog ts ds).all (· ≤ reachBytes) = true → s.size ≤ 140737488355328 := by
  obtain ⟨s, rfl, x3, _, hs⟩ := Go.ChangeMaps.open_string Tryd.underlying9 hv h
  refine ⟨s, rfl, fun ts ds j ht hd hz => ?_⟩
  rw [x3] at hd
  have := reach_le (sized_string hz ht hd)
  simpa using this
end
end Go.Proofs.YtobgfegdfcpgfaaDoor
