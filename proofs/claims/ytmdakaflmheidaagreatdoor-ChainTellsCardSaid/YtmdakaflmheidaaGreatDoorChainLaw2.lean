/- Antichains: what is beyond both, with one more, the time that stands for another one. Plain. -/
import Derived.Test.YtmdakaflmheidaaGreatDoorChainLaw
namespace Go.Proofs.YtmdakaflmheidaaGreatDoor

def same (x y : TV) : Bool := decide (x.2.length = y.2.length)
def maxT (x y : TV) : TV := (max x.1 y.1, List.zipWith max x.2 y.2)
def minT (x y : TV) : TV := (min x.1 y.1, List.zipWith min x.2 y.2)
/-- all joins of one of each -/
def pairsV (a b : List TV) : List TV := a.flatMap fun x => (b.filter (same x)).map (maxT x)
def joinV (a b : List TV) : List TV := ofV (pairsV a b)
theorem pairs_mem {a b : List TV} {v : TV} : v ∈ pairsV a b ↔ ∃ x ∈ a, ∃ y ∈ b, same x y = true ∧ maxT x y = v := by
  unfold pairsV
  rw [List.mem_flatMap]
  constructor
  · rintro ⟨x, hx, hv⟩
    obtain ⟨y, hy, rfl⟩ := List.mem_map.1 hv
    exact ⟨x, hx, y, (List.mem_filter.1 hy).1, (List.mem_filter.1 hy).2, rfl⟩
  · rintro ⟨x, hx, y, hy, h, rfl⟩
    exact ⟨x, hx, List.mem_map.2 ⟨y, List.mem_filter.2 ⟨hy, h⟩, rfl⟩⟩
theorem same_of_leq {x t : TV} (h : tleq x t = true) : x.2.length = t.2.length := ((leq_iff _ _ _ _).1 h).1
theorem maxT_leq {x y t : TV} (h : same x y = true) : tleq (maxT x y) t = (tleq x t && tleq y t) := join_least (of_decide_eq_true h)
theorem minT_geq {x y t : TV} (h : same x y = true) : tleq t (minT x y) = (tleq t x && tleq t y) := meet_greatest (of_decide_eq_true h)
theorem leq_max1 {x y : TV} (h : same x y = true) : tleq x (maxT x y) = true := join_up1 (of_decide_eq_true h)
theorem leq_max2 {x y : TV} (h : same x y = true) : tleq y (maxT x y) = true := join_up2 (of_decide_eq_true h)
theorem min_leq1 {x y : TV} (h : same x y = true) : tleq (minT x y) x = true := meet_low1 (of_decide_eq_true h)
theorem min_leq2 {x y : TV} (h : same x y = true) : tleq (minT x y) y = true := meet_low2 (of_decide_eq_true h)
theorem maxT_len {x y : TV} (h : same x y = true) : (maxT x y).2.length = x.2.length := by
  have := of_decide_eq_true h
  show (List.zipWith max x.2 y.2).length = _
  rw [List.length_zipWith]
  omega
theorem minT_len {x y : TV} (h : same x y = true) : (minT x y).2.length = x.2.length := by
  have := of_decide_eq_true h
  show (List.zipWith min x.2 y.2).length = _
  rw [List.length_zipWith]
  omega
theorem beyond_pairs (a b : List TV) (t : TV) : beyondV (pairsV a b) t = (beyondV a t && beyondV b t) := by
  rw [Bool.eq_iff_iff, Bool.and_eq_true, beyond_iff, beyond_iff, beyond_iff]
  constructor
  · rintro ⟨v, hv, h⟩
    obtain ⟨x, hx, y, hy, hs, rfl⟩ := pairs_mem.1 hv
    rw [maxT_leq hs, Bool.and_eq_true] at h
    exact ⟨⟨x, hx, h.1⟩, ⟨y, hy, h.2⟩⟩
  · rintro ⟨⟨x, hx, h1⟩, ⟨y, hy, h2⟩⟩
    have hs : same x y = true := decide_eq_true (by have := same_of_leq h1; have := same_of_leq h2; omega)
    exact ⟨_, pairs_mem.2 ⟨x, hx, y, hy, hs, rfl⟩, by rw [maxT_leq hs, h1, h2]; rfl⟩
theorem beyond_join (a b : List TV) (t : TV) : beyondV (joinV a b) t = (beyondV a t && beyondV b t) := (beyond_ofV _ t).trans (beyond_pairs a b t)
/-- two lists with one antichain: just if the same is beyond -/
theorem ofV_ext {L M : List TV} (h : ∀ t, beyondV L t = beyondV M t) : ofV L = ofV M := by
  have key : ∀ {L M : List TV}, (∀ t, beyondV L t = beyondV M t) → ∀ v, Least L v → Least M v := fun {L M} h v hv => by
    have h1 : beyondV M v = true := by rw [← h]; exact beyond_iff.2 ⟨v, hv.1, tleq_refl v⟩
    obtain ⟨x, hx, hxv⟩ := beyond_iff.1 h1
    have h2 : beyondV L x = true := by rw [h]; exact beyond_iff.2 ⟨x, hx, tleq_refl x⟩
    obtain ⟨y, hy, hyx⟩ := beyond_iff.1 h2
    have e := hv.2 y hy (tleq_trans hyx hxv)
    have e2 : x = v := tleq_anti hxv (e ▸ hyx)
    subst e2
    refine ⟨hx, fun u hu huv => ?_⟩
    have h3 : beyondV L u = true := by rw [h]; exact beyond_iff.2 ⟨u, hu, tleq_refl u⟩
    obtain ⟨z, hz, hzu⟩ := beyond_iff.1 h3
    have e3 := hv.2 z hz (tleq_trans hzu huv)
    exact tleq_anti huv (e3 ▸ hzu)
  exact IsOf.unique (L := L) (ofV_is L) ⟨(ofV_is M).rising, fun v => ((ofV_is M).mem v).trans ⟨key (fun t => (h t).symm) v, key h v⟩⟩
theorem ofV_twice (L : List TV) : ofV (ofV L) = ofV L := ofV_ext (beyond_ofV L)
theorem joinV_comm (a b : List TV) : joinV a b = joinV b a := ofV_ext fun t => by rw [beyond_pairs, beyond_pairs, Bool.and_comm]
theorem joinV_assoc (a b c : List TV) : joinV (joinV a b) c = joinV a (joinV b c) := ofV_ext fun t => by rw [beyond_pairs, beyond_pairs, beyond_join, beyond_join, Bool.and_assoc]
theorem joinV_self (a : List TV) : joinV a a = ofV a := ofV_ext fun t => by rw [beyond_pairs, Bool.and_self]
theorem beyond_append (a : List TV) (s t : TV) : beyondV (a ++ [s]) t = (beyondV a t || tleq s t) := by unfold beyondV; simp
theorem insert_beyond {a : List TV} {t : TV} (h : beyondV a t = true) : ofV (a ++ [t]) = ofV a := ofV_ext fun s => by
  rw [beyond_append]
  by_cases q : tleq t s = true
  · obtain ⟨x, hx, hxt⟩ := beyond_iff.1 h
    have : beyondV a s = true := beyond_iff.2 ⟨x, hx, tleq_trans hxt q⟩
    rw [this, Bool.true_or]
  · rw [show tleq t s = false by simpa using q, Bool.or_false]
/-- is all of b beyond a? -/
def leqV (a b : List TV) : Bool := b.all fun t => beyondV a t
theorem leqV_iff {a b : List TV} : leqV a b = true ↔ ∀ t ∈ b, beyondV a t = true := List.all_eq_true
theorem leqV_of1 (a : List TV) : leqV (ofV a) a = true := leqV_iff.2 fun t ht => by rw [beyond_ofV]; exact beyond_iff.2 ⟨t, ht, tleq_refl t⟩
theorem leqV_of2 (a : List TV) : leqV a (ofV a) = true := leqV_iff.2 fun t ht => beyond_iff.2 ⟨t, (((ofV_is a).mem t).1 ht).1, tleq_refl t⟩
/-! ### the time that stands for another one -/
def advStep (t : TV) (acc : Option TV) (x : TV) : Option TV := if same t x then some (match acc with | none => maxT t x | some o => minT o (maxT t x)) else acc
def advO (a : List TV) (t : TV) : Option TV := a.foldl (advStep t) none
def advV (a : List TV) (t : TV) : TV := (advO a t).getD t
theorem advStep_len {t x : TV} {acc : Option TV} (h : ∀ o, acc = some o → o.2.length = t.2.length) : ∀ o, advStep t acc x = some o → o.2.length = t.2.length := by
  intro o ho
  unfold advStep at ho
  split at ho
  · rename_i hs
    cases acc with
    | none =>
      injection ho with ho
      rw [← ho, maxT_len hs]
    | some q =>
      injection ho with ho
      have hq := h q rfl
      rw [← ho, minT_len (decide_eq_true (by rw [maxT_len hs]; exact hq)), hq]
  · exact h o ho
theorem advO_len {t : TV} : ∀ (a : List TV) (acc : Option TV), (∀ o, acc = some o → o.2.length = t.2.length) → ∀ o, a.foldl (advStep t) acc = some o → o.2.length = t.2.length
  | [], acc, h, o, ho => h o ho
  | x :: a, acc, h, o, ho => advO_len a _ (advStep_len h) o ho
theorem advV_len (a : List TV) (t : TV) : (advV a t).2.length = t.2.length := by
  unfold advV
  cases h : advO a t with
  | none => rfl
  | some o => exact advO_len a none (fun _ h => nomatch h) o h
/-- s stays ahead of what stands for it; and that is ahead of each join -/
theorem adv_spec {s : TV} : ∀ (a : List TV) (acc : Option TV), (∀ o, acc = some o → o.2.length = s.2.length ∧ tleq s o = true) →
    ∀ o, a.foldl (advStep s) acc = some o → tleq s o = true ∧ (∀ q, acc = some q → tleq o q = true) ∧ ∀ x ∈ a, same s x = true → tleq o (maxT s x) = true
  | [], acc, h, o, ho => ⟨(h o ho).2, fun q hq => by rw [show o = q from Option.some.inj (ho.symm.trans hq)]; exact tleq_refl q, fun x hx => (nomatch hx)⟩
  | x :: a, acc, h, o, ho => by
    have hn : ∀ p, advStep s acc x = some p → p.2.length = s.2.length ∧ tleq s p = true := fun p hp => by
      refine ⟨advStep_len (fun q hq => (h q hq).1) p hp, ?_⟩
      unfold advStep at hp
      split at hp
      · rename_i hs
        cases acc with
        | none => injection hp with hp; rw [← hp]; exact leq_max1 hs
        | some q =>
          injection hp with hp
          have hq := h q rfl
          rw [← hp, minT_geq (decide_eq_true (by rw [maxT_len hs]; exact hq.1)), hq.2, leq_max1 hs]
          rfl
      · exact (h p hp).2
    obtain ⟨h1, h2, h3⟩ := adv_spec a (advStep s acc x) hn o ho
    refine ⟨h1, fun q hq => ?_, fun y hy hs => ?_⟩
    · subst hq
      unfold advStep at h2
      split at h2
      · rename_i hs
        have hq := h q rfl
        exact tleq_trans (h2 _ rfl) (min_leq1 (decide_eq_true (by rw [maxT_len hs]; exact hq.1)))
      · exact h2 q rfl
    · rcases List.mem_cons.1 hy with rfl | hy
      · unfold advStep at h2
        rw [if_pos hs] at h2
        cases acc with
        | none => exact h2 _ rfl
        | some q =>
          have hq := h q rfl
          exact tleq_trans (h2 _ rfl) (min_leq2 (decide_eq_true (by rw [maxT_len hs]; exact hq.1)))
      · exact h3 y hy hs
theorem foldl_some {t : TV} : ∀ (a : List TV) (acc : Option TV), (∃ o, acc = some o) → ∃ o, a.foldl (advStep t) acc = some o
  | [], acc, h => h
  | x :: a, acc, ⟨q, hq⟩ => foldl_some a _ (by
    subst hq
    unfold advStep
    split
    · exact ⟨_, rfl⟩
    · exact ⟨_, rfl⟩)
theorem adv_some {t x : TV} (hs : same t x = true) : ∀ (a : List TV) (acc : Option TV), x ∈ a → ∃ o, a.foldl (advStep t) acc = some o
  | y :: a, acc, h => by
    rcases List.mem_cons.1 h with rfl | h
    · exact foldl_some a _ (by unfold advStep; rw [if_pos hs]; exact ⟨_, rfl⟩)
    · exact adv_some hs a _ h
theorem adv_law {a : List TV} {s t : TV} (hb : beyondV a t = true) (hl : s.2.length = t.2.length) : tleq s t = tleq (advV a s) t := by
  obtain ⟨x, hx, hxt⟩ := beyond_iff.1 hb
  have hs : same s x = true := decide_eq_true (by have := same_of_leq hxt; omega)
  obtain ⟨o, ho⟩ := adv_some hs a none hx
  have hv : advV a s = o := by unfold advV advO; rw [ho]; rfl
  rw [hv]
  obtain ⟨h1, _, h3⟩ := adv_spec a none (fun _ h => nomatch h) o ho
  rw [Bool.eq_iff_iff]
  exact ⟨fun q => tleq_trans (h3 x hx hs) (by rw [maxT_leq hs, q, hxt]; rfl), fun q => tleq_trans h1 q⟩
/-- none of an antichain is behind another one -/
theorem of_apart {L : List TV} {i k : Nat} (hi : i < (ofV L).length) (hk : k < (ofV L).length) (hik : i ≠ k) : tleq (ofV L)[i] (ofV L)[k] = false := by
  by_cases h : tleq (ofV L)[i] (ofV L)[k] = true
  · exfalso
    have h1 := ((ofV_is L).mem _).1 (List.getElem_mem hi)
    have h2 := ((ofV_is L).mem _).1 (List.getElem_mem hk)
    have e := h2.2 _ h1.1 h
    have hr := (ofV_is L).rising
    unfold Rising at hr
    rcases Nat.lt_or_gt_of_ne hik with q | q
    · have := List.pairwise_iff_getElem.1 hr i k hi hk q
      rw [e, tcmp_zero.2 rfl] at this
      omega
    · have := List.pairwise_iff_getElem.1 hr k i hk hi q
      rw [e, tcmp_zero.2 rfl] at this
      omega
  · simpa using h
end Go.Proofs.YtmdakaflmheidaaGreatDoor
