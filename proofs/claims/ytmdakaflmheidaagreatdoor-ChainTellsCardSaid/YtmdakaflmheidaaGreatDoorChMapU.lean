/- The map of counts, changed at one time. Conditions: each theorem states its own. -/
import Derived.Test.YtmdakaflmheidaaGreatDoorChg
namespace Go.Proofs.YtmdakaflmheidaaGreatDoor
open Go.RowKit

/-! ### plain -/
/-- counts with one change more -/
def addC (D : List CV) (x : CV) : List CV := D.filter (fun y => decide (y.1 ≠ x.1)) ++ (if IntKind.i64.wrap (x.2 + getC D x.1) = 0 then [] else [(x.1, IntKind.i64.wrap (x.2 + getC D x.1))])
theorem getC_filter (D : List CV) (v t : TV) : getC (D.filter fun y => decide (y.1 ≠ v)) t = if t = v then 0 else getC D t := by
  by_cases h : t = v
  · rw [if_pos h]
    refine getC_none fun x hx e => ?_
    have := (List.mem_filter.1 hx).2
    rw [decide_eq_true_iff] at this
    exact this (e.trans h)
  · rw [if_neg h]
    unfold getC
    rw [List.find?_filter]
    congr 2
    congr 1
    funext x
    by_cases e : x.1 = t
    · simp [e, h]
    · simp [e]
theorem getC_snoc (D : List CV) (x : CV) (t : TV) : getC (D ++ [x]) t = if (∃ y ∈ D, y.1 = t) then getC D t else if x.1 = t then x.2 else 0 := by
  unfold getC
  rw [List.find?_append]
  cases h : D.find? fun y => decide (y.1 = t) with
  | none =>
    rw [if_neg (fun ⟨y, hy, e⟩ => by have := List.find?_eq_none.1 h y hy; simp [e] at this)]
    by_cases e : x.1 = t
    · simp [e]
    · simp [e]
  | some y =>
    rw [if_pos ⟨y, List.mem_of_find?_eq_some h, by simpa using List.find?_some h⟩]
    rfl
theorem getC_addC (D : List CV) (x : CV) (t : TV) : getC (addC D x) t = if t = x.1 then IntKind.i64.wrap (x.2 + getC D x.1) else getC D t := by
  unfold addC
  split
  · rename_i h
    rw [List.append_nil, getC_filter]
    split
    · rw [h]
    · rfl
  · rename_i h
    rw [getC_snoc, getC_filter]
    by_cases e : t = x.1
    · subst e
      rw [if_neg (fun ⟨y, hy, e⟩ => by have := (List.mem_filter.1 hy).2; rw [decide_eq_true_iff] at this; exact this e), if_pos rfl, if_pos rfl]
    · have e' : ¬ (x.1, IntKind.i64.wrap (x.2 + getC D x.1)).1 = t := fun q => e q.symm
      simp only [if_neg e, if_neg e']
      split
      · rfl
      · rename_i hn
        exact (getC_none (fun y hy e2 => hn ⟨y, List.mem_filter.2 ⟨hy, decide_eq_true (by rw [e2]; exact e)⟩, e2⟩)).symm
theorem addC_keys {D : List CV} (h : KeysC D) (x : CV) : KeysC (addC D x) := by
  unfold addC KeysC at *
  refine List.pairwise_append.2 ⟨h.filter _, ?_, fun y hy z hz => ?_⟩
  · split
    · exact List.Pairwise.nil
    · exact List.pairwise_singleton _ _
  · split at hz
    · cases hz
    · rw [List.mem_singleton] at hz
      subst hz
      have := (List.mem_filter.1 hy).2
      rwa [decide_eq_true_iff] at this

/-! ### the map -/
theorem Sl.turned {w w' : World} {size n c b : Nat} {A : Option Addr} {xs : List Value} (h : Sl w size A n c xs) (u : w.grownBy w' (some b)) (hb : ∃ es cl, w.heap[b]? = some (.map es cl)) : Sl w' size A n c xs := by
  refine ⟨h.1, h.2.1, h.2.2.1, h.2.2.2.1, fun hn => ?_⟩
  obtain ⟨ad, e, hc⟩ := h.2.2.2.2 hn
  refine ⟨ad, e, fun j v hj => ?_⟩
  have h1 := hc j v hj
  refine u.cell h1 (fun e2 => ?_)
  injection e2 with e2
  obtain ⟨es, cl, hm⟩ := hb
  unfold World.cell? at h1
  rw [e2, hm] at h1
  cases h1
section
variable {w w' : World} {b n : Nat} {D : DataW Value} {L : List Cg}
theorem owns_map (h : w.ownsMap Tryz.prog 9 tok b n D) : ∃ es cl, w.heap[b]? = some (.map es cl) := by
  obtain ⟨es, clock, hb, _⟩ := h
  exact ⟨es, clock, hb⟩
theorem keyLit (v : TV) : WideAt.IsKeyLit (keyT v) := trivial
theorem MapC.del (h : MapC w b n D L) {v : TV} (hv : InV v) (ho : w'.ownsMap Tryz.prog 9 tok b n (D.del (keyT v))) (ht : w.mapTurned w' b) : MapC w' b n (D.del (keyT v)) (L.filter fun y => decide (y.t.v ≠ v)) := by
  have hne : ∀ x ∈ L.filter (fun y => decide (y.t.v ≠ v)), x ∈ L ∧ keyT x.t.v ≠ keyT v := fun x hx => by
    obtain ⟨h1, h2⟩ := List.mem_filter.1 hx
    rw [decide_eq_true_iff] at h2
    exact ⟨h1, fun e => h2 (keyT_inj (h.inv x h1) hv e)⟩
  refine ⟨ho, fun kl => ?_, fun x hx z => ?_, ?_, fun x hx => ((h.ls x (hne x hx).1).turned ht.grown (owns_map h.own)), fun x hx => h.inv x (hne x hx).1, Nat.le_trans (List.length_filter_le _ _) h.cnt⟩
  · by_cases e : kl = keyT v
    · subst e
      rw [Maps.has_del_same]
      constructor
      · intro q; cases q
      · rintro ⟨x, hx, e⟩; exact absurd e (hne x hx).2
    · rw [Maps.has_del_other e, h.has]
      constructor
      · rintro ⟨x, hx, rfl⟩
        exact ⟨x, List.mem_filter.2 ⟨hx, decide_eq_true (fun q => e (by rw [q]))⟩, rfl⟩
      · rintro ⟨x, hx, rfl⟩
        exact ⟨x, (hne x hx).1, rfl⟩
  · rw [Maps.atKey_del_other (hne x hx).2]
    exact h.atk x (hne x hx).1 z
  · have := h.keys
    unfold KeysC at *
    rw [List.pairwise_map] at *
    exact this.filter _
theorem MapC.put (h : MapC w b n D L) {x : Cg} (hv : InV x.t.v) (ho : w'.ownsMap Tryz.prog 9 tok b (n + 1) (D.put (keyT x.t.v) (.held (cgV x)))) (ht : w.mapTurned w' b) (hs : Sl w 1 x.t.A x.t.l.length x.t.c (wds x.t.l)) :
    MapC w' b (n + 1) (D.put (keyT x.t.v) (.held (cgV x))) (L.filter (fun y => decide (y.t.v ≠ x.t.v)) ++ [x]) := by
  have hne : ∀ y ∈ L.filter (fun y => decide (y.t.v ≠ x.t.v)), y ∈ L ∧ keyT y.t.v ≠ keyT x.t.v := fun y hy => by
    obtain ⟨h1, h2⟩ := List.mem_filter.1 hy
    rw [decide_eq_true_iff] at h2
    exact ⟨h1, fun e => h2 (keyT_inj (h.inv y h1) hv e)⟩
  have hcase : ∀ y ∈ L.filter (fun y => decide (y.t.v ≠ x.t.v)) ++ [x], (y ∈ L ∧ keyT y.t.v ≠ keyT x.t.v) ∨ y = x := fun y hy => by
    rcases List.mem_append.1 hy with hy | hy
    · exact .inl (hne y hy)
    · rw [List.mem_singleton] at hy; exact .inr hy
  have him := h.own.isMap
  refine ⟨ho, fun kl => ?_, fun y hy z => ?_, ?_, fun y hy => ?_, fun y hy => ?_, by rw [List.length_append]; have a := List.length_filter_le (fun y => decide (y.t.v ≠ x.t.v)) L; have b := h.cnt; show _ + 1 ≤ n + 1; omega⟩
  · by_cases e : kl = keyT x.t.v
    · subst e
      rw [Maps.has_put_same him (keyLit _)]
      exact ⟨fun _ => ⟨x, List.mem_append_right _ (by simp), rfl⟩, fun _ => rfl⟩
    · rw [Maps.has_put_other e, h.has]
      constructor
      · rintro ⟨y, hy, rfl⟩
        exact ⟨y, List.mem_append_left _ (List.mem_filter.2 ⟨hy, decide_eq_true (fun q => e (by rw [q]))⟩), rfl⟩
      · rintro ⟨y, hy, rfl⟩
        rcases hcase y hy with q | rfl
        · exact ⟨y, q.1, rfl⟩
        · exact absurd rfl e
  · rcases hcase y hy with q | rfl
    · rw [Maps.atKey_put_other q.2]
      exact h.atk y q.1 z
    · exact Maps.atKey_put_same him (keyLit _) _ _
  · have := h.keys
    unfold KeysC at *
    rw [List.map_append]
    refine List.pairwise_append.2 ⟨?_, List.pairwise_singleton _ _, fun y hy z hz => ?_⟩
    · rw [List.pairwise_map] at *
      exact this.filter _
    · have hz2 : z = x.cv := by simpa using hz
      subst hz2
      obtain ⟨y2, hy2, e2⟩ := List.mem_map.1 hy
      have := of_decide_eq_true (List.mem_filter.1 hy2).2
      rw [← e2]
      exact this
  · rcases hcase y hy with q | rfl
    · exact (h.ls y q.1).turned ht.grown (owns_map h.own)
    · exact hs.turned ht.grown (owns_map h.own)
  · rcases hcase y hy with q | rfl
    · exact h.inv y q.1
    · exact hv
end
theorem addC_map (L : List Cg) (x : Cg) (d : Int) : (IntKind.i64.wrap (d + (atC L x.t.v).d) = x.d) → x.d ≠ 0 → (L.filter (fun y => decide (y.t.v ≠ x.t.v)) ++ [x]).map Cg.cv = addC (L.map Cg.cv) (x.t.v, d) := by
  intro h h0
  unfold addC
  rw [← atC_d, h, if_neg h0, List.map_append, List.filter_map]
  rfl
theorem addC_map0 (L : List Cg) (v : TV) (d : Int) : (IntKind.i64.wrap (d + (atC L v).d) = 0) → (L.filter (fun y => decide (y.t.v ≠ v))).map Cg.cv = addC (L.map Cg.cv) (v, d) := by
  intro h
  unfold addC
  rw [← atC_d, h, if_pos rfl, List.append_nil, List.filter_map]
  rfl
end Go.Proofs.YtmdakaflmheidaaGreatDoor
