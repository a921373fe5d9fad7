/- Counts of times: their frontier, and how it moves. Plain. -/
import Derived.Test.YtmdakaflmheidaaGreatDoorChainLaw2
namespace Go.Proofs.YtmdakaflmheidaaGreatDoor

theorem rise_ext {α : Type} (k : α → TV) : ∀ {a b : List α}, a.Pairwise (fun x y => tcmp (k x) (k y) < 0) → b.Pairwise (fun x y => tcmp (k x) (k y) < 0) → (∀ x, x ∈ a ↔ x ∈ b) → a = b
  | [], [], _, _, _ => rfl
  | [], y :: b, _, _, h => by have := (h y).2 (by simp); simp at this
  | x :: a, [], _, _, h => by have := (h x).1 (by simp); simp at this
  | x :: a, y :: b, ha, hb, h => by
    rw [List.pairwise_cons] at ha hb
    have e : x = y := by
      have h1 : x ∈ y :: b := (h x).1 (by simp)
      have h2 : y ∈ x :: a := (h y).2 (by simp)
      rcases List.mem_cons.1 h1 with h1 | h1
      · exact h1
      · rcases List.mem_cons.1 h2 with h2 | h2
        · exact h2.symm
        · have q1 := hb.1 x h1
          have q2 := ha.1 y h2
          have := tcmp_neg (k x) (k y)
          omega
    subst e
    rw [rise_ext k ha.2 hb.2 (fun z => by
      constructor
      · intro hz
        rcases List.mem_cons.1 ((h z).1 (List.mem_cons_of_mem _ hz)) with e | e
        · have := ha.1 z hz
          rw [e, tcmp_zero.2 rfl] at this
          omega
        · exact e
      · intro hz
        rcases List.mem_cons.1 ((h z).2 (List.mem_cons_of_mem _ hz)) with e | e
        · have := hb.1 z hz
          rw [e, tcmp_zero.2 rfl] at this
          omega
        · exact e)]
/-- a change: a time, and by how much -/
abbrev CV := TV × Int
/-- counts, as a list of changes no time of which stands twice -/
def getC (D : List CV) (t : TV) : Int := ((D.find? fun x => decide (x.1 = t)).map (·.2)).getD 0
def KeysC (D : List CV) : Prop := D.Pairwise fun x y => x.1 ≠ y.1
theorem getC_mem {D : List CV} (h : KeysC D) {x : CV} (hx : x ∈ D) : getC D x.1 = x.2 := by
  induction D with
  | nil => cases hx
  | cons y D ih =>
    obtain ⟨h1, h2⟩ := List.pairwise_cons.1 h
    unfold getC
    rw [List.find?_cons]
    rcases List.mem_cons.1 hx with rfl | hx
    · simp
    · have hn : ¬ y.1 = x.1 := h1 x hx
      simp only [hn, decide_false]
      exact ih h2 hx
theorem getC_none {D : List CV} {t : TV} (h : ∀ x ∈ D, x.1 ≠ t) : getC D t = 0 := by
  unfold getC
  rw [List.find?_eq_none.2 (fun x hx => by simpa using h x hx)]
  rfl
theorem getC_cases (D : List CV) (t : TV) : (∃ x ∈ D, x.1 = t ∧ getC D t = x.2) ∨ ((∀ x ∈ D, x.1 ≠ t) ∧ getC D t = 0) := by
  by_cases h : ∃ x ∈ D, x.1 = t
  · unfold getC
    cases hf : D.find? fun x => decide (x.1 = t) with
    | none =>
      obtain ⟨x, hx, e⟩ := h
      have := List.find?_eq_none.1 hf x hx
      simp [e] at this
    | some x =>
      refine .inl ⟨x, List.mem_of_find?_eq_some hf, ?_, rfl⟩
      have := List.find?_some hf
      simpa using this
  · have h2 : ∀ x ∈ D, x.1 ≠ t := fun x hx e => h ⟨x, hx, e⟩
    exact .inr ⟨h2, getC_none h2⟩
/-- the times whose count is above 0 -/
def liveV (D : List CV) : List TV := (D.filter fun x => decide (0 < x.2)).map (·.1)
theorem live_mem {D : List CV} (h : KeysC D) (t : TV) : t ∈ liveV D ↔ 0 < getC D t := by
  unfold liveV
  rw [List.mem_map]
  constructor
  · rintro ⟨x, hx, rfl⟩
    obtain ⟨h1, h2⟩ := List.mem_filter.1 hx
    rw [getC_mem h h1]
    exact of_decide_eq_true h2
  · intro ht
    rcases getC_cases D t with ⟨x, hx, e, q⟩ | ⟨_, q⟩
    · exact ⟨x, List.mem_filter.2 ⟨hx, decide_eq_true (by omega)⟩, e⟩
    · omega
/-- counts that tell the same have one frontier -/
theorem live_same {D E : List CV} (h : KeysC D) (k : KeysC E) (hs : ∀ t, getC D t = getC E t) : ofV (liveV D) = ofV (liveV E) := ofV_congr fun t => by rw [live_mem h, live_mem k, hs]
/-! ### how a frontier moves -/
def movedL (was now : List TV) : List CV := ((was.filter fun t => !(decide (t ∈ now))).map fun t => (t, (-1 : Int))) ++ ((now.filter fun t => !(decide (t ∈ was))).map fun t => (t, (1 : Int)))
theorem moved_mem {was now : List TV} {x : CV} : x ∈ movedL was now ↔ (x.1 ∈ was ∧ x.1 ∉ now ∧ x.2 = -1) ∨ (x.1 ∈ now ∧ x.1 ∉ was ∧ x.2 = 1) := by
  unfold movedL
  rw [List.mem_append, List.mem_map, List.mem_map]
  constructor
  · rintro (⟨t, ht, rfl⟩ | ⟨t, ht, rfl⟩)
    · obtain ⟨h1, h2⟩ := List.mem_filter.1 ht
      exact .inl ⟨h1, by simpa using h2, rfl⟩
    · obtain ⟨h1, h2⟩ := List.mem_filter.1 ht
      exact .inr ⟨h1, by simpa using h2, rfl⟩
  · rintro (⟨h1, h2, h3⟩ | ⟨h1, h2, h3⟩)
    · exact .inl ⟨x.1, List.mem_filter.2 ⟨h1, by simpa using h2⟩, by rw [← h3]⟩
    · exact .inr ⟨x.1, List.mem_filter.2 ⟨h1, by simpa using h2⟩, by rw [← h3]⟩
def insC (v : CV) : List CV → List CV
  | [] => [v]
  | m :: r => if tcmp v.1 m.1 < 0 then v :: m :: r else m :: insC v r
theorem insC_mem (v x : CV) : ∀ M, x ∈ insC v M ↔ x = v ∨ x ∈ M
  | [] => by simp [insC]
  | m :: r => by
    unfold insC
    split
    · simp
    · simp only [List.mem_cons, insC_mem v x r]
      constructor
      · rintro (h | h | h)
        · exact .inr (.inl h)
        · exact .inl h
        · exact .inr (.inr h)
      · rintro (h | h | h)
        · exact .inr (.inl h)
        · exact .inl h
        · exact .inr (.inr h)
def RisingC (l : List CV) : Prop := l.Pairwise fun x y => tcmp x.1 y.1 < 0
theorem insC_rising (v : CV) : ∀ {M}, RisingC M → (∀ x ∈ M, x.1 ≠ v.1) → RisingC (insC v M)
  | [], _, _ => List.pairwise_singleton _ _
  | m :: r, h, hn => by
    unfold RisingC at h
    obtain ⟨h1, h2⟩ := List.pairwise_cons.1 h
    unfold insC
    split
    · rename_i hv
      exact List.pairwise_cons.2 ⟨fun y hy => by
        rcases List.mem_cons.1 hy with rfl | hy
        · exact hv
        · exact tcmp_lt_trans hv (by have := h1 y hy; omega), h⟩
    · rename_i q1
      have q3 := tcmp_neg m.1 v.1
      have q2 : tcmp v.1 m.1 ≠ 0 := fun e => hn m (by simp) (tcmp_zero.1 e).symm
      exact List.pairwise_cons.2 ⟨fun y hy => by
        rcases (insC_mem v y r).1 hy with rfl | hy
        · omega
        · exact h1 y hy, insC_rising v h2 (fun x hx => hn x (List.mem_cons_of_mem _ hx))⟩
/-- what is told: sorted -/
def movedV (was now : List TV) : List CV := (movedL was now).foldr insC []
theorem foldr_insC : ∀ {L : List CV}, KeysC L → RisingC (L.foldr insC []) ∧ ∀ x, x ∈ L.foldr insC [] ↔ x ∈ L
  | [], _ => ⟨List.Pairwise.nil, fun _ => Iff.rfl⟩
  | v :: L, h => by
    obtain ⟨h1, h2⟩ := List.pairwise_cons.1 h
    have ih := foldr_insC h2
    rw [List.foldr_cons]
    refine ⟨insC_rising v ih.1 (fun x hx e => h1 x ((ih.2 x).1 hx) e.symm), fun x => ?_⟩
    rw [insC_mem, ih.2 x, List.mem_cons]
theorem rising_ne {l : List TV} (h : Rising l) : l.Pairwise (· ≠ ·) := List.Pairwise.imp (fun q e => by rw [e, tcmp_zero.2 rfl] at q; omega) h
theorem movedL_keys {was now : List TV} (h : Rising was) (k : Rising now) : KeysC (movedL was now) := by
  unfold KeysC movedL
  refine List.pairwise_append.2 ⟨?_, ?_, fun x hx y hy e => ?_⟩
  · exact List.pairwise_map.2 ((rising_ne h).filter _)
  · exact List.pairwise_map.2 ((rising_ne k).filter _)
  · obtain ⟨t, ht, rfl⟩ := List.mem_map.1 hx
    obtain ⟨s, hs, rfl⟩ := List.mem_map.1 hy
    have h1 := (List.mem_filter.1 ht).2
    have h2 := (List.mem_filter.1 hs).1
    simp only at e
    subst e
    simp [h2] at h1
/-- whatever rises and has those that moved is what is told -/
theorem moved_unique {was now : List TV} (h : Rising was) (k : Rising now) {M : List CV} (hr : RisingC M) (hm : ∀ x, x ∈ M ↔ x ∈ movedL was now) : M = movedV was now := by
  have q := foldr_insC (movedL_keys h k)
  obtain ⟨N, hN⟩ : ∃ N, movedV was now = N := ⟨_, rfl⟩
  rw [hN]
  have q2 : RisingC N ∧ ∀ x, x ∈ N ↔ x ∈ movedL was now := hN ▸ q
  unfold RisingC at hr q2
  exact rise_ext (fun x : CV => x.1) hr q2.1 fun x => (hm x).trans (q2.2 x).symm
end Go.Proofs.YtmdakaflmheidaaGreatDoor
