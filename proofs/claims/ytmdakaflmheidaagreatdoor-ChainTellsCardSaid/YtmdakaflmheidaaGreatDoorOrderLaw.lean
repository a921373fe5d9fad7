/- The plain law of StampOrder: times of one depth are ordered in part, with least and greatest bounds. -/
import Derived.Test.YtmdakaflmheidaaGreatDoorCmp
namespace Go.Proofs.YtmdakaflmheidaaGreatDoor

theorem leq_iff (e1 : Int) (l1 : List Int) (e2 : Int) (l2 : List Int) : leqT e1 l1 e2 l2 = true ↔ l1.length = l2.length ∧ e1 ≤ e2 ∧ ∀ k, k < l1.length → l1.getD k 0 ≤ l2.getD k 0 := by
  unfold leqT
  exact decide_eq_true_iff
theorem leq_refl (e : Int) (l : List Int) : leqT e l e l = true := (leq_iff _ _ _ _).2 ⟨rfl, Int.le_refl _, fun _ _ => Int.le_refl _⟩
theorem leq_trans {e1 e2 e3 : Int} {l1 l2 l3 : List Int} (h : leqT e1 l1 e2 l2 = true) (k : leqT e2 l2 e3 l3 = true) : leqT e1 l1 e3 l3 = true := by
  rw [leq_iff] at *
  obtain ⟨a1, a2, a3⟩ := h
  obtain ⟨b1, b2, b3⟩ := k
  exact ⟨by omega, by omega, fun i hi => Int.le_trans (a3 i hi) (b3 i (by omega))⟩
theorem leq_len {e1 e2 : Int} {l1 l2 : List Int} (h : l1.length ≠ l2.length) : leqT e1 l1 e2 l2 = false := by
  unfold leqT
  exact decide_eq_false fun hh => h hh.1

theorem lex_le : ∀ (l m : List Int), l.length = m.length → (∀ k, k < l.length → l.getD k 0 ≤ m.getD k 0) → lexT l m ≤ 0
  | [], [], _, _ => Int.le_refl _
  | [], _ :: _, h, _ => by simp at h
  | _ :: _, [], h, _ => by simp at h
  | x :: l, y :: m, h, hh => by
    have h0 : x ≤ y := by simpa using hh 0 (by simp)
    have hr := lex_le l m (by simpa using h) (fun k hk => by simpa using hh (k + 1) (by simpa using hk))
    unfold lexT
    split
    · exact hr
    · unfold cmpT
      split
      · omega
      · split <;> omega
theorem lex_zero : ∀ (l m : List Int), lexT l m = 0 → l = m
  | [], [], _ => rfl
  | [], _ :: _, h => by simp [lexT] at h
  | _ :: _, [], h => by simp [lexT] at h
  | x :: l, y :: m, h => by
    unfold lexT at h
    by_cases hc : cmpT x y = 0
    · rw [if_pos hc] at h
      rw [cmpT_zero.1 hc, lex_zero l m h]
    · rw [if_neg hc] at h
      exact absurd h hc
theorem lex_self : ∀ l : List Int, lexT l l = 0
  | [] => rfl
  | x :: l => by
    unfold lexT
    rw [if_pos (cmpT_self x)]
    exact lex_self l

theorem cmp_zero {e1 e2 : Int} {l1 l2 : List Int} : cmpTT e1 l1 e2 l2 = 0 ↔ e1 = e2 ∧ l1 = l2 := by
  constructor
  · intro h
    unfold cmpTT orT at h
    by_cases h1 : cmpT (l1.length : Int) l2.length = 0
    · rw [if_pos h1] at h
      by_cases h2 : cmpT e1 e2 = 0
      · rw [if_pos h2] at h
        exact ⟨cmpT_zero.1 h2, lex_zero _ _ h⟩
      · rw [if_neg h2] at h
        exact absurd h h2
    · rw [if_neg h1] at h
      exact absurd h h1
  · rintro ⟨rfl, rfl⟩
    simp [cmpTT, orT, cmpT_self, lex_self]
theorem cmp_le {e1 e2 : Int} {l1 l2 : List Int} (h : leqT e1 l1 e2 l2 = true) : cmpTT e1 l1 e2 l2 ≤ 0 := by
  obtain ⟨a1, a2, a3⟩ := (leq_iff _ _ _ _).1 h
  unfold cmpTT orT
  rw [a1, cmpT_self, if_pos rfl]
  split
  · exact lex_le _ _ a1 a3
  · unfold cmpT
    split
    · omega
    · split <;> omega
theorem getD_ext' {l1 l2 : List Int} (hl : l1.length = l2.length) (h : ∀ k, k < l1.length → l1.getD k 0 = l2.getD k 0) : l1 = l2 := (getD_ext hl).1 h
theorem cmp_both {e1 e2 : Int} {l1 l2 : List Int} : (leqT e1 l1 e2 l2 = true ∧ leqT e2 l2 e1 l1 = true) ↔ cmpTT e1 l1 e2 l2 = 0 := by
  rw [cmp_zero]
  constructor
  · rintro ⟨h, k⟩
    rw [leq_iff] at h k
    obtain ⟨a1, a2, a3⟩ := h
    obtain ⟨b1, b2, b3⟩ := k
    exact ⟨by omega, getD_ext' a1 fun i hi => Int.le_antisymm (a3 i hi) (b3 i (by omega))⟩
  · rintro ⟨rfl, rfl⟩
    exact ⟨leq_refl _ _, leq_refl _ _⟩

theorem zip_getD (g : Int → Int → Int) (l1 l2 : List Int) (k : Nat) (h1 : k < l1.length) (h2 : k < l2.length) : (List.zipWith g l1 l2).getD k 0 = g (l1.getD k 0) (l2.getD k 0) := by
  simp [List.getD_eq_getElem?_getD, List.getElem?_zipWith, List.getElem?_eq_getElem h1, List.getElem?_eq_getElem h2]
theorem join_up1 {e1 e2 : Int} {l1 l2 : List Int} (hl : l1.length = l2.length) : leqT e1 l1 (max e1 e2) (List.zipWith max l1 l2) = true :=
  (leq_iff _ _ _ _).2 ⟨by simp; omega, by omega, fun k hk => by rw [zip_getD _ _ _ _ hk (by omega)]; omega⟩
theorem join_up2 {e1 e2 : Int} {l1 l2 : List Int} (hl : l1.length = l2.length) : leqT e2 l2 (max e1 e2) (List.zipWith max l1 l2) = true :=
  (leq_iff _ _ _ _).2 ⟨by simp; omega, by omega, fun k hk => by rw [zip_getD _ _ _ _ (by omega) hk]; omega⟩
theorem meet_low1 {e1 e2 : Int} {l1 l2 : List Int} (hl : l1.length = l2.length) : leqT (min e1 e2) (List.zipWith min l1 l2) e1 l1 = true :=
  (leq_iff _ _ _ _).2 ⟨by simp; omega, by omega, fun k hk => by simp at hk; rw [zip_getD _ _ _ _ (by omega) (by omega)]; omega⟩
theorem meet_low2 {e1 e2 : Int} {l1 l2 : List Int} (hl : l1.length = l2.length) : leqT (min e1 e2) (List.zipWith min l1 l2) e2 l2 = true :=
  (leq_iff _ _ _ _).2 ⟨by simp; omega, by omega, fun k hk => by simp at hk; rw [zip_getD _ _ _ _ (by omega) (by omega)]; omega⟩
theorem join_least {e1 e2 e3 : Int} {l1 l2 l3 : List Int} (hl : l1.length = l2.length) : leqT (max e1 e2) (List.zipWith max l1 l2) e3 l3 = (leqT e1 l1 e3 l3 && leqT e2 l2 e3 l3) := by
  rw [Bool.eq_iff_iff, Bool.and_eq_true]
  constructor
  · intro h
    exact ⟨leq_trans (join_up1 hl) h, leq_trans (join_up2 hl) h⟩
  · rintro ⟨h, k⟩
    rw [leq_iff] at *
    obtain ⟨a1, a2, a3⟩ := h
    obtain ⟨b1, b2, b3⟩ := k
    refine ⟨by simp; omega, by omega, fun i hi => ?_⟩
    simp at hi
    rw [zip_getD _ _ _ _ (by omega) (by omega)]
    have := a3 i (by omega)
    have := b3 i (by omega)
    omega
theorem meet_greatest {e1 e2 e3 : Int} {l1 l2 l3 : List Int} (hl : l1.length = l2.length) : leqT e3 l3 (min e1 e2) (List.zipWith min l1 l2) = (leqT e3 l3 e1 l1 && leqT e3 l3 e2 l2) := by
  rw [Bool.eq_iff_iff, Bool.and_eq_true]
  constructor
  · intro h
    exact ⟨leq_trans h (meet_low1 hl), leq_trans h (meet_low2 hl)⟩
  · rintro ⟨h, k⟩
    rw [leq_iff] at *
    obtain ⟨a1, a2, a3⟩ := h
    obtain ⟨b1, b2, b3⟩ := k
    refine ⟨by simp; omega, by omega, fun i hi => ?_⟩
    rw [zip_getD _ _ _ _ (by omega) (by omega)]
    have := a3 i (by omega)
    have := b3 i (by omega)
    omega
end Go.Proofs.YtmdakaflmheidaaGreatDoor
