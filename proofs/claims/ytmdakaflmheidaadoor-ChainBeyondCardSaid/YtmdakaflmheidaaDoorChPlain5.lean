/- What the laws on antichains lean on. Plain. -/
import Derived.Test.YtmdakaflmheidaaDoorMuch5
namespace Go.Proofs.YtmdakaflmheidaaDoor
open Go.RowKit

def FineV (V : List TV) : Prop := ∀ v ∈ V, U32 v.2 ∧ v.2.length ≤ 100000
theorem fine_map {L : List Tm} {V : List TV} (h : FineV V) (e : L.map Tm.v = V) : Fine L := fun x hx => h x.v (e ▸ List.mem_map.2 ⟨x, hx, rfl⟩)
theorem fineV_map {L : List Tm} (h : Fine L) : FineV (L.map Tm.v) := fun v hv => by
  obtain ⟨x, hx, rfl⟩ := List.mem_map.1 hv
  exact h x hx
theorem fineV_of {V : List TV} (h : FineV V) : FineV (ofV V) := fun v hv => h v (((ofV_is V).mem v).1 hv).1
theorem fineV_join {A B : List TV} (hA : FineV A) (hB : FineV B) : FineV (joinV A B) := by
  refine fineV_of fun v hv => ?_
  obtain ⟨x, hx, y, hy, _, rfl⟩ := pairs_mem.1 hv
  refine ⟨u32_max (hA x hx).1 (hB y hy).1, ?_⟩
  have := (hA x hx).2
  show (List.zipWith max x.2 y.2).length ≤ _
  rw [List.length_zipWith]
  omega
theorem pairs_len (A B : List TV) : (pairsV A B).length ≤ A.length * B.length := by
  unfold pairsV
  induction A with
  | nil => simp
  | cons x A ih =>
    rw [List.flatMap_cons, List.length_append, List.length_map, List.length_cons, Nat.add_mul]
    have := List.length_filter_le (same x) B
    omega
theorem join_len (A B : List TV) : (joinV A B).length ≤ A.length * B.length := Nat.le_trans (ofV_len _) (pairs_len A B)
theorem join_few {A B V : List TV} {m n k a b : Nat} {L : List Tm} (e : L.map Tm.v = V) (hV : V = joinV A B) (hk : k = L.length) (hA : A.length ≤ a) (hB : B.length ≤ b) (hab : a * b ≤ m) : k ≤ m := by
  have h1 : L.length = (joinV A B).length := by rw [← hV, ← e, List.length_map]
  have h2 := join_len A B
  have h3 : A.length * B.length ≤ a * b := Nat.mul_le_mul hA hB
  omega
theorem of_few {A : List TV} {k a : Nat} {L : List Tm} (e : L.map Tm.v = ofV A) (hk : k = L.length) (hA : A.length ≤ a) : k ≤ a := by
  have h1 : L.length = (ofV A).length := by rw [← e, List.length_map]
  have h2 := ofV_len A
  omega
theorem insert_self (A : List TV) (t : TV) : beyondV (ofV (A ++ [t])) t = true := by
  rw [beyond_ofV, beyond_append, tleq_refl, Bool.or_true]
theorem insert_leq (A : List TV) (t : TV) : leqV (ofV (A ++ [t])) A = true := leqV_iff.2 fun x hx => by
  rw [beyond_ofV, beyond_append, beyond_iff.2 ⟨x, hx, tleq_refl x⟩, Bool.true_or]
theorem fine_of_much {L : List Tm} (h : muchV (L.map Tm.v) = false) (hi : ∀ x ∈ L, U32 x.l) : Fine L := fun x hx => ⟨hi x hx, by have := (much_small h).2 x hx; omega⟩
end Go.Proofs.YtmdakaflmheidaaDoor
