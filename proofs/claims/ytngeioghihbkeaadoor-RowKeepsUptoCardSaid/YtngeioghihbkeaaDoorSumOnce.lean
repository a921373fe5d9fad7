/- The plain law of sums of sums. Conditions: rows that compare as the same are the same. -/
import Derived.Test.YtngeioghihbkeaaDoorSumLaw
namespace Go.Proofs.YtngeioghihbkeaaDoor
open Go.RowKit

def nzV (x : V) : Bool := !(x.2 == 0)
def Canon (D : List V) : Prop := ∀ x ∈ D, ∀ y ∈ D, cmpV x y = 0 → x.1 = y.1
theorem alike_filter (c : V) (p : V → Bool) (l : List V) : alike cmpV c (l.filter p) = (alike cmpV c l).filter p := by
  unfold alike
  rw [List.filter_filter, List.filter_filter]
  congr 1
  funext a
  rw [Bool.and_comm]
theorem sumV_spec {D : List V} (hin : ∀ x ∈ D, InV x) : (sumV D).Pairwise (fun x y => cmpV x y < 0) ∧ ∀ c, alike cmpV c (sumV D) = (sumClass (alike cmpV c D)).filter nzV := by
  have h := Summed.all D hin
  refine ⟨h.sorted.filter _, fun c => ?_⟩
  show alike cmpV c ((sumAll D).filter nzV) = _
  rw [alike_filter, h.same]
theorem sumV_eq {D R : List V} (hin : ∀ x ∈ D, InV x) (hs : R.Pairwise (fun x y => cmpV x y < 0)) (ha : ∀ c, alike cmpV c R = (sumClass (alike cmpV c D)).filter nzV) : R = sumV D := by
  obtain ⟨h1, h2⟩ := sumV_spec hin
  exact Stable.unique cmpV_tot (l := R) ⟨hs.imp fun q => Int.le_of_lt q, fun _ => rfl⟩ ⟨h1.imp fun q => Int.le_of_lt q, fun c => by rw [h2, ha]⟩
theorem cmpV_self (x : V) : cmpV x x = 0 := cmpV_tot.refl x
/-- where a sum's row comes from -/
theorem sumV_mem {D : List V} (hin : ∀ x ∈ D, InV x) {x : V} (hx : x ∈ sumV D) : InV x ∧ nzV x = true ∧ ∃ y ∈ D, y.1 = x.1 := by
  have h : x ∈ alike cmpV x (sumV D) := List.mem_filter.2 ⟨hx, by rw [beq_iff_eq]; exact cmpV_self x⟩
  rw [(sumV_spec hin).2] at h
  obtain ⟨h1, h2⟩ := List.mem_filter.1 h
  refine ⟨?_, h2, ?_⟩
  · cases hl : alike cmpV x D with
    | nil => rw [hl] at h1; cases h1
    | cons y l =>
      rw [hl] at h1
      rw [List.mem_singleton.1 h1]
      exact w64_in _
  · cases hl : alike cmpV x D with
    | nil => rw [hl] at h1; cases h1
    | cons y l =>
      have hy : y ∈ alike cmpV x D := by rw [hl]; exact List.mem_cons_self ..
      rw [hl] at h1
      exact ⟨y, (List.mem_filter.1 hy).1, by rw [List.mem_singleton.1 h1]⟩
theorem total_perm {a b : List V} (h : a.Perm b) : a.foldr (fun x a => x.2 + a) 0 = b.foldr (fun x a => x.2 + a) 0 := by
  induction h with
  | nil => rfl
  | cons x _ ih => simp only [List.foldr_cons]; rw [ih]
  | swap x y l => simp only [List.foldr_cons]; omega
  | trans _ _ ih1 ih2 => rw [ih1, ih2]
theorem total_append (a b : List V) : (a ++ b).foldr (fun x a => x.2 + a) 0 = a.foldr (fun x a => x.2 + a) 0 + b.foldr (fun x a => x.2 + a) 0 := by
  induction a with
  | nil => simp
  | cons x a ih => simp only [List.cons_append, List.foldr_cons]; rw [ih]; omega
theorem cnt_append (a b : List V) : cnt (a ++ b) = w64 (cnt a + cnt b) := by
  unfold cnt
  rw [total_append, w64_add, Int.add_comm, Int.add_comm _ (w64 _), w64_add]
theorem cnt_nil : cnt [] = 0 := by decide
theorem cnt_in (l : List V) : -9223372036854775808 ≤ cnt l ∧ cnt l ≤ 9223372036854775807 := w64_in _
theorem class_perm {a b : List V} (h : a.Perm b) (he : ∀ x ∈ a, ∀ y ∈ b, x.1 = y.1) : sumClass a = sumClass b := by
  cases a with
  | nil => rw [List.nil_perm.1 h]
  | cons x a =>
    cases b with
    | nil => exact absurd h.length_eq (by simp)
    | cons y b =>
      show [(x.1, cnt (x :: a))] = [(y.1, cnt (y :: b))]
      rw [he x (List.mem_cons_self ..) y (List.mem_cons_self ..), show cnt (x :: a) = cnt (y :: b) from congrArg w64 (total_perm h)]
theorem mem_alike {c x : V} {D : List V} (h : x ∈ alike cmpV c D) : x ∈ D ∧ cmpV c x = 0 := by
  obtain ⟨h1, h2⟩ := List.mem_filter.1 h
  exact ⟨h1, by simpa using h2⟩
theorem canon_alike {D : List V} (hc : Canon D) {c x y : V} (hx : x ∈ alike cmpV c D) (hy : y ∈ alike cmpV c D) : x.1 = y.1 := by
  obtain ⟨a1, a2⟩ := mem_alike hx
  obtain ⟨b1, b2⟩ := mem_alike hy
  exact hc x a1 y b1 (cmpV_tot.eq_trans (by rw [cmpV_tot.neg, a2]; rfl) b2)
/-- the order makes no difference -/
theorem sumV_perm {D E : List V} (hp : E.Perm D) (hc : Canon D) (hin : ∀ x ∈ D, InV x) : sumV E = sumV D := by
  have hin2 : ∀ x ∈ E, InV x := fun x hx => hin x (hp.mem_iff.1 hx)
  obtain ⟨h1, h2⟩ := sumV_spec hin2
  refine sumV_eq hin h1 fun c => ?_
  have hpa : (alike cmpV c E).Perm (alike cmpV c D) := hp.filter _
  rw [h2, class_perm hpa (fun x hx y hy => canon_alike hc (hpa.mem_iff.1 hx) hy)]
theorem class_one (l : List Dat) {p : Int} (h : -9223372036854775808 ≤ p ∧ p ≤ 9223372036854775807) : sumClass [(l, p)] = [(l, p)] := sumClass_one h
theorem class_parts (a b : List V) (he : ∀ x ∈ a, ∀ y ∈ b, x.1 = y.1) : (sumClass ((sumClass a).filter nzV ++ (sumClass b).filter nzV)).filter nzV = (sumClass (a ++ b)).filter nzV := by
  have one : ∀ (r : List Dat) (l : List V), (sumClass ([(r, cnt l)].filter nzV)).filter nzV = [(r, cnt l)].filter nzV := fun r l => by
    by_cases h : cnt l = 0
    · have e : [((r, cnt l) : V)].filter nzV = [] := by simp [nzV, h]
      rw [e]
      rfl
    · have e : [((r, cnt l) : V)].filter nzV = [(r, cnt l)] := by simp [nzV, h]
      rw [e, class_one r (cnt_in l), e]
  cases a with
  | nil =>
    show (sumClass ([] ++ (sumClass b).filter nzV)).filter nzV = (sumClass ([] ++ b)).filter nzV
    rw [List.nil_append, List.nil_append]
    cases b with
    | nil => rfl
    | cons y b => exact one y.1 (y :: b)
  | cons x a =>
    cases b with
    | nil =>
      show (sumClass ((sumClass (x :: a)).filter nzV ++ [])).filter nzV = (sumClass (x :: a ++ [])).filter nzV
      rw [List.append_nil, List.append_nil]
      exact one x.1 (x :: a)
    | cons y b =>
      have e1 : x.1 = y.1 := he x (List.mem_cons_self ..) y (List.mem_cons_self ..)
      have e2 : sumClass (x :: a ++ y :: b) = [(x.1, w64 (cnt (x :: a) + cnt (y :: b)))] := by
        rw [← cnt_append]
        rfl
      have e3 : sumClass (x :: a) = [(x.1, cnt (x :: a))] := rfl
      have e4 : sumClass (y :: b) = [(x.1, cnt (y :: b))] := by rw [e1]; rfl
      rw [e2, e3, e4]
      have hp := cnt_in (x :: a)
      have hq := cnt_in (y :: b)
      generalize cnt (x :: a) = p at hp ⊢
      generalize cnt (y :: b) = q at hq ⊢
      generalize x.1 = r
      by_cases h1 : p = 0
      · subst h1
        have k1 : [((r, 0) : V)].filter nzV = [] := by simp [nzV]
        rw [k1, List.nil_append, Int.zero_add, w64_id hq]
        by_cases h2 : q = 0
        · subst h2
          rw [k1]
          rfl
        · have k2 : [((r, q) : V)].filter nzV = [(r, q)] := by simp [nzV, h2]
          rw [k2, class_one r hq, k2]
      · have k1 : [((r, p) : V)].filter nzV = [(r, p)] := by simp [nzV, h1]
        rw [k1]
        by_cases h2 : q = 0
        · subst h2
          have k2 : [((r, 0) : V)].filter nzV = [] := by simp [nzV]
          rw [k2, List.append_nil, class_one r hp, Int.add_zero, w64_id hp]
        · have k2 : [((r, q) : V)].filter nzV = [(r, q)] := by simp [nzV, h2]
          rw [k2]
          show [((r, w64 (p + (q + 0))) : V)].filter nzV = _
          rw [Int.add_zero]
/-- a sum of two sums -/
theorem sumV_parts {D E : List V} (hc : Canon (D ++ E)) (hin : ∀ x ∈ D ++ E, InV x) : sumV (sumV D ++ sumV E) = sumV (D ++ E) := by
  have hD : ∀ x ∈ D, InV x := fun x hx => hin x (List.mem_append_left _ hx)
  have hE : ∀ x ∈ E, InV x := fun x hx => hin x (List.mem_append_right _ hx)
  have hP : ∀ x ∈ sumV D ++ sumV E, InV x := fun x hx => by
    rcases List.mem_append.1 hx with q | q
    · exact (sumV_mem hD q).1
    · exact (sumV_mem hE q).1
  obtain ⟨h1, h2⟩ := sumV_spec hP
  refine sumV_eq hin h1 fun c => ?_
  rw [h2, alike_append, (sumV_spec hD).2, (sumV_spec hE).2, alike_append]
  exact class_parts _ _ fun x hx y hy => canon_alike hc (c := c) (by rw [alike_append]; exact List.mem_append_left _ hx) (by rw [alike_append]; exact List.mem_append_right _ hy)
end Go.Proofs.YtngeioghihbkeaaDoor
