/- The plain law of a merge that keeps the order of what is alike. Conditions: the comparison is a total order up to what is alike. -/
import Derived.Test.YtngeioghihbkeaaDoorSortLaw
namespace Go.Proofs.YtngeioghihbkeaaDoor
open Go.RowKit

section
variable {α : Type} {cmp : α → α → Int}
theorem last_cases (s : List α) : s = [] ∨ ∃ t y, s = t ++ [y] := by
  rcases List.eq_nil_or_concat s with h | ⟨t, y, h⟩
  · exact .inl h
  · exact .inr ⟨t, y, by rw [h, List.concat_eq_append]⟩
theorem le_last (T : TotPre cmp) {t : List α} {y : α} (h : (t ++ [y]).Pairwise fun a b => cmp a b ≤ 0) : ∀ a ∈ t ++ [y], cmp a y ≤ 0 := by
  intro a ha
  rcases List.mem_append.1 ha with q | q
  · exact (List.pairwise_append.1 h).2.2 a q y (by simp)
  · simp only [List.mem_singleton] at q
    subst q
    rw [T.refl]; decide
theorem head_le (T : TotPre cmp) {t : List α} {y : α} (h : (y :: t).Pairwise fun a b => cmp a b ≤ 0) : ∀ a ∈ y :: t, cmp y a ≤ 0 := by
  intro a ha
  rcases List.mem_cons.1 ha with q | q
  · subst q
    rw [T.refl]; decide
  · exact (List.pairwise_cons.1 h).1 a q
/-- two sorted lists, each cut in two; the inner parts change places -/
theorem Stable.merge (T : TotPre cmp) {X1 X2 Y1 Y2 Z1 Z2 : List α} (hX : (X1 ++ X2).Pairwise fun a b => cmp a b ≤ 0) (hY : (Y1 ++ Y2).Pairwise fun a b => cmp a b ≤ 0)
    (h1 : ∀ t x y s, X1 = t ++ [x] → Y2 = y :: s → cmp x y ≤ 0) (h2 : ∀ t y x s, Y1 = t ++ [y] → X2 = x :: s → cmp y x < 0)
    (s1 : Stable cmp (X1 ++ Y1) Z1) (s2 : Stable cmp (X2 ++ Y2) Z2) : Stable cmp ((X1 ++ X2) ++ (Y1 ++ Y2)) (Z1 ++ Z2) := by
  have pX := List.pairwise_append.1 hX
  have pY := List.pairwise_append.1 hY
  have a12 : ∀ a ∈ X1, ∀ b ∈ Y2, cmp a b ≤ 0 := by
    intro a ha b hb
    rcases last_cases X1 with e | ⟨t, x, e⟩
    · rw [e] at ha; cases ha
    · cases hY2 : Y2 with
      | nil => rw [hY2] at hb; cases hb
      | cons y s =>
        have q1 := le_last T (e ▸ pX.1) a (e ▸ ha)
        have q2 := h1 t x y s e hY2
        have q3 := head_le T (hY2 ▸ pY.2.1) b (hY2 ▸ hb)
        exact T.trans _ _ _ (T.trans _ _ _ q1 q2) q3
  have a21 : ∀ a ∈ Y1, ∀ b ∈ X2, cmp a b < 0 := by
    intro a ha b hb
    rcases last_cases Y1 with e | ⟨t, y, e⟩
    · rw [e] at ha; cases ha
    · cases hX2 : X2 with
      | nil => rw [hX2] at hb; cases hb
      | cons x s =>
        have q1 := le_last T (e ▸ pY.1) a (e ▸ ha)
        have q2 := h2 t y x s e hX2
        have q3 := head_le T (hX2 ▸ pX.2.1) b (hX2 ▸ hb)
        exact T.lt_of_lt_le (T.lt_of_le_lt q1 q2) q3
  refine ⟨List.pairwise_append.2 ⟨s1.sorted, s2.sorted, fun a ha b hb => ?_⟩, fun c => ?_⟩
  · rcases List.mem_append.1 ((s1.mem T a).1 ha) with p | p <;> rcases List.mem_append.1 ((s2.mem T b).1 hb) with q | q
    · exact pX.2.2 a p b q
    · exact a12 a p b q
    · exact Int.le_of_lt (a21 a p b q)
    · exact pY.2.2 a p b q
  · rw [alike_append, s1.same, s2.same, alike_append, alike_append, alike_append, alike_append, alike_append]
    have hc : alike cmp c Y1 ++ alike cmp c X2 = alike cmp c X2 ++ alike cmp c Y1 := by
      cases e1 : alike cmp c Y1 with
      | nil => simp
      | cons y l1 =>
        cases e2 : alike cmp c X2 with
        | nil => simp
        | cons x l2 =>
          exfalso
          have my : y ∈ alike cmp c Y1 := by rw [e1]; exact List.mem_cons_self ..
          have mx : x ∈ alike cmp c X2 := by rw [e2]; exact List.mem_cons_self ..
          obtain ⟨hy, qy⟩ := List.mem_filter.1 my
          obtain ⟨hx, qx⟩ := List.mem_filter.1 mx
          have qy : cmp c y = 0 := by simpa using qy
          have qx : cmp c x = 0 := by simpa using qx
          have := a21 y hy x hx
          have := (T.eq_left qy).1 qx
          omega
    rw [List.append_assoc, List.append_assoc, ← List.append_assoc (alike cmp c Y1), hc, List.append_assoc]
/-- a list that is sorted is its own sorted one -/
theorem Stable.self {l : List α} (h : l.Pairwise fun a b => cmp a b ≤ 0) : Stable cmp l l := ⟨h, fun _ => rfl⟩
/-- S is O, each block of so many of them sorted by itself -/
inductive Bks (cmp : α → α → Int) (s : Nat) : List α → List α → Prop
  | last (O S : List α) (h : O.length ≤ s) (k : Stable cmp O S) : Bks cmp s O S
  | more (O S O' S' : List α) (h : O.length = s) (k : Stable cmp O S) (r : Bks cmp s O' S') : Bks cmp s (O ++ O') (S ++ S')
theorem Stable.nil_of {S : List α} (T : TotPre cmp) (h : Stable cmp [] S) : S = [] := h.unique T Stable.nil
theorem Bks.none (T : TotPre cmp) {s : Nat} (hs : 0 < s) {O S : List α} (h : Bks cmp s O S) (ho : O = []) : S = [] := by
  cases h with
  | last _ _ _ k => subst ho; exact k.nil_of T
  | more O1 S1 O2 S2 h1 _ _ =>
    have := congrArg List.length ho
    rw [List.length_append, List.length_nil] at this
    omega
theorem Bks.all (T : TotPre cmp) {s : Nat} (hs : 0 < s) {O S : List α} (h : Bks cmp s O S) (hl : O.length ≤ s) : Stable cmp O S := by
  cases h with
  | last _ _ _ k => exact k
  | more O1 S1 O2 S2 h1 k r =>
    rw [List.length_append] at hl
    have e : O2 = [] := List.eq_nil_of_length_eq_zero (by omega)
    have e2 := r.none T hs e
    subst e e2
    rw [List.append_nil, List.append_nil]
    exact k
theorem Bks.mem (T : TotPre cmp) {s : Nat} {O S : List α} (h : Bks cmp s O S) (x : α) : x ∈ S ↔ x ∈ O := by
  induction h with
  | last O S _ k => exact k.mem T x
  | more O1 S1 O2 S2 _ k _ ih => rw [List.mem_append, List.mem_append, k.mem T, ih]
theorem Bks.len (T : ∀ {O S : List α}, Stable cmp O S → S.length = O.length) {s : Nat} {O S : List α} (h : Bks cmp s O S) : S.length = O.length := by
  induction h with
  | last O S _ k => exact T k
  | more O1 S1 O2 S2 _ k _ ih => rw [List.length_append, List.length_append, T k, ih]
/-- two blocks at the head -/
theorem Bks.two {s : Nat} (hs : 0 < s) {O S : List α} (h : Bks cmp s O S) (hl : 2 * s ≤ O.length) :
    ∃ O1 S1 O2 S2 O3 S3, O = O1 ++ (O2 ++ O3) ∧ S = S1 ++ (S2 ++ S3) ∧ O1.length = s ∧ O2.length = s ∧ Stable cmp O1 S1 ∧ Stable cmp O2 S2 ∧ Bks cmp s O3 S3 := by
  cases h with
  | last _ _ h _ => omega
  | more O1 S1 O2 S2 h1 k r =>
    rw [List.length_append] at hl
    cases r with
    | last _ _ h2 k2 => exact ⟨O1, S1, O2, S2, [], [], by rw [List.append_nil], by rw [List.append_nil], h1, by omega, k, k2, .last [] [] (Nat.zero_le _) Stable.nil⟩
    | more O2 S2 O3 S3 h2 k2 r2 => exact ⟨O1, S1, O2, S2, O3, S3, rfl, rfl, h1, h2, k, k2, r2⟩
/-- one block at the head, less than one behind it -/
theorem Bks.rest (T : TotPre cmp) {s : Nat} (hs : 0 < s) {O S : List α} (h : Bks cmp s O S) (h1 : s < O.length) (h2 : O.length < 2 * s) :
    ∃ O1 S1 O2 S2, O = O1 ++ O2 ∧ S = S1 ++ S2 ∧ O1.length = s ∧ Stable cmp O1 S1 ∧ Stable cmp O2 S2 := by
  cases h with
  | last _ _ h _ => omega
  | more O1 S1 O2 S2 h3 k r =>
    rw [List.length_append] at h2
    exact ⟨O1, S1, O2, S2, rfl, rfl, h3, k, r.all T hs (by omega)⟩
end
end Go.Proofs.YtngeioghihbkeaaDoor
