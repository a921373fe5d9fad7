/- A row of structs that the library has sorted, in the words of owned slices. Conditions: each theorem states its own. -/
import Derived.Test.YtmdakaflmheidaaGreatDoorOwnLaw
import Derived.Shelf.SlSortCmp.WholeK
namespace Go.Proofs.YtmdakaflmheidaaGreatDoor
open Go.RowKit

section
variable {α : Type} [Inhabited α] (enc : α → List Value) (k : Nat) (hk : ∀ x, (enc x).length = k) (k0 : 0 < k)
include hk
omit [Inhabited α] in
theorem flat_len : ∀ l : List α, (l.flatMap enc).length = l.length * k
  | [] => by simp
  | x :: l => by rw [List.flatMap_cons, List.length_append, hk, flat_len l, List.length_cons, Nat.add_mul]; omega
include k0
theorem flat_at : ∀ (l : List α) (t : Nat), t < l.length * k → (l.flatMap enc)[t]? = (enc (l.getD (t / k) default))[t % k]?
  | [], t, h => absurd h (by simp)
  | x :: l, t, h => by
    rw [List.flatMap_cons]
    by_cases q : t < k
    · rw [List.getElem?_append_left (by rw [hk]; exact q), Nat.div_eq_of_lt q, Nat.mod_eq_of_lt q]; rfl
    · rw [List.length_cons, Nat.add_mul] at h
      rw [List.getElem?_append_right (by rw [hk]; omega), hk, flat_at l (t - k) (by omega)]
      have e1 : t / k = (t - k) / k + 1 := Nat.div_eq_sub_div k0 (by omega)
      have e2 : t % k = (t - k) % k := Nat.mod_eq_sub_mod (by omega)
      rw [e1, e2]
      rfl
theorem flat_get (d : Array α) {t : Nat} (h : t < d.size * k) : (d.toList.flatMap enc)[t]? = some ((Go.Sort.flatK enc k d)[t]!) := by
  rw [flat_at enc k hk k0 _ t (by simpa using h), Go.Sort.get_flatK enc k d t h]
  have h1 : t / k < d.size := (Nat.div_lt_iff_lt_mul k0).2 h
  have h2 : t % k < k := Nat.mod_lt _ k0
  have e : d.toList.getD (t / k) default = d[t / k]! := by
    rw [List.getD_eq_getElem?_getD, Array.getElem?_toList, Array.getElem!_eq_getD, Array.getD_eq_getD_getElem?]
  rw [e]
  have h3 : t % k < (enc d[t / k]!).length := by rw [hk]; exact h2
  rw [List.getElem?_eq_getElem h3, getElem!_pos (enc d[t / k]!) _ h3]
theorem own_holds {w : World} {B blk c : Nat} {T : TypeId} {d : Array α} (h : Own w B T k (some ⟨blk, 0, none⟩) d.size c (d.toList.flatMap enc)) (hd : 0 < d.size) : Go.Sort.HoldsK enc k w blk 0 d := by
  obtain ⟨g, e, _, _, _, hc, hf⟩ := h.form hd
  injection e with e
  injection e with e
  subst e
  intro j hj
  rw [Go.Sort.size_flatK] at hj
  refine ⟨?_, hf _⟩
  rw [Nat.zero_add]
  exact hc j _ (flat_get enc k hk k0 d hj)
theorem sorted_own {w : World} {B blk c n : Nat} {T : TypeId} {d d' : Array α} {os : Array Obj} (h : Own w B T k (some ⟨blk, 0, none⟩) d.size c (d.toList.flatMap enc)) (hd : 0 < d.size) (hs : d'.size = d.size) :
    Own (sortWorldK enc k w blk 0 n d' os) B T k (some ⟨blk, 0, none⟩) d.size c (d'.toList.flatMap enc) ∧ Upd (fun q => q = blk) w (sortWorldK enc k w blk 0 n d' os) := by
  obtain ⟨h1, h2⟩ := h
  rcases h2 with h2 | ⟨g, cur, e, hb, hg, hnc, hcm, hcs, htake⟩
  · omega
  · injection e with e
    injection e with e
    subst e
    have hlt : blk < w.heap.size := (Array.getElem?_eq_some_iff.1 hg).1
    have hheap : (sortWorldK enc k w blk 0 n d' os).heap[blk]? = some (.cells (Go.Sort.putCells id 0 (Go.Sort.flatK enc k d') cur) T (0, 0)) := by
      show (w.heap.modify blk _ ++ os)[blk]? = _
      rw [Array.getElem?_append_left (by simpa using hlt), Array.getElem?_modify, if_pos rfl, hg]
      rfl
    refine ⟨⟨by rw [flat_len enc k hk, Array.length_toList, hs], .inr ⟨blk, _, rfl, hb, hheap, hnc, hcm, by simp [Go.Sort.putCells, hcs], ?_⟩⟩, ?_⟩
    · refine List.ext_getElem? fun t => ?_
      rw [List.getElem?_take]
      by_cases ht : t < d.size * k
      · rw [if_pos ht, flat_get enc k hk k0 d' (by rw [hs]; exact ht), Array.getElem?_toList]
        have hcz : t < cur.size := by rw [hcs]; exact Nat.lt_of_lt_of_le ht (Nat.mul_le_mul_right _ hnc)
        simp only [Go.Sort.putCells, Array.getElem?_mapIdx, Array.getElem?_eq_getElem hcz, Option.map_some]
        rw [if_pos ⟨Nat.zero_le _, by rw [Go.Sort.size_flatK, hs]; omega⟩]
        rfl
      · rw [if_neg ht, List.getElem?_eq_none (by rw [flat_len enc k hk, Array.length_toList, hs]; omega)]
    · refine ⟨rfl, rfl, rfl, ?_, fun q hq hn => ?_⟩
      · show w.heap.size ≤ (w.heap.modify blk _ ++ os).size
        simp
      · show (w.heap.modify blk _ ++ os)[q]? = _
        rw [Array.getElem?_append_left (by simpa using hq), Array.getElem?_modify, if_neg (fun e => hn e.symm)]
end
/-- the sort's answer as lists -/
theorem sorted_list {α : Type} [Inhabited α] {lt : α → α → Bool} {d d' : Array α} (hp : Go.Sort.PermIn 0 d.size d d') (hs : Go.Sort.SortedIn lt 0 d.size d') : d'.size = d.size ∧ d'.toList.Perm d.toList ∧ d'.toList.Pairwise fun x y => lt y x = false := by
  obtain ⟨h1, _, h3⟩ := hp
  refine ⟨h1, ?_, List.pairwise_iff_getElem.2 fun i j hi hj hij => ?_⟩
  · have e1 : d.extract 0 d.size = d := by simp
    have e2 : d'.extract 0 d.size = d' := by rw [← h1]; simp
    rwa [e1, e2] at h3
  · have hi' : i < d'.size := by simpa using hi
    have hj' : j < d'.size := by simpa using hj
    have := hs i j (Nat.zero_le _) hij (by omega)
    rw [getElem!_pos d' j hj', getElem!_pos d' i hi'] at this
    simpa using this
end Go.Proofs.YtmdakaflmheidaaGreatDoor
