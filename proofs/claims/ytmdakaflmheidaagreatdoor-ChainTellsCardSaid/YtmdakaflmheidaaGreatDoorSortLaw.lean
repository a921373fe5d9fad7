/- The plain law of a stable sort. Conditions: the comparison is a total order up to what is alike. -/
import Derived.Test.YtmdakaflmheidaaGreatDoorBase
namespace Go.Proofs.YtmdakaflmheidaaGreatDoor
open Go.RowKit

structure TotPre {α : Type} (cmp : α → α → Int) : Prop where
  neg : ∀ x y, cmp x y = -cmp y x
  trans : ∀ x y z, cmp x y ≤ 0 → cmp y z ≤ 0 → cmp x z ≤ 0
section
variable {α : Type} {cmp : α → α → Int}
theorem TotPre.refl (h : TotPre cmp) (x : α) : cmp x x = 0 := by have := h.neg x x; omega
theorem TotPre.lt_of_lt_le (h : TotPre cmp) {x y z : α} (h1 : cmp x y < 0) (h2 : cmp y z ≤ 0) : cmp x z < 0 := by
  have a := h.trans x y z (by omega) h2
  rcases Int.lt_or_eq_of_le a with q | q
  · exact q
  · have b := h.trans y z x h2 (by rw [h.neg, q]; decide)
    rw [h.neg] at b
    omega
theorem TotPre.lt_of_le_lt (h : TotPre cmp) {x y z : α} (h1 : cmp x y ≤ 0) (h2 : cmp y z < 0) : cmp x z < 0 := by
  have a := h.trans x y z h1 (by omega)
  rcases Int.lt_or_eq_of_le a with q | q
  · exact q
  · have b := h.trans z x y (by rw [h.neg, q]; decide) h1
    rw [h.neg] at b
    omega
theorem TotPre.eq_trans (h : TotPre cmp) {x y z : α} (h1 : cmp x y = 0) (h2 : cmp y z = 0) : cmp x z = 0 := by
  have a := h.trans x y z (by omega) (by omega)
  have b := h.trans z y x (by rw [h.neg, h2]; decide) (by rw [h.neg, h1]; decide)
  rw [h.neg] at b
  omega
theorem TotPre.eq_left (h : TotPre cmp) {x y z : α} (h1 : cmp x y = 0) : cmp x z = 0 ↔ cmp y z = 0 :=
  ⟨fun q => h.eq_trans (by rw [h.neg, h1]; rfl) q, fun q => h.eq_trans h1 q⟩
/-- those alike x -/
def alike (cmp : α → α → Int) (x : α) (l : List α) : List α := l.filter fun y => cmp x y == 0
/-- m is l, sorted, those that are alike in their order -/
structure Stable (cmp : α → α → Int) (l m : List α) : Prop where
  sorted : m.Pairwise fun x y => cmp x y ≤ 0
  same : ∀ x, alike cmp x m = alike cmp x l
theorem Stable.nil : Stable cmp [] ([] : List α) := ⟨List.Pairwise.nil, fun _ => rfl⟩
theorem Stable.one (x : α) : Stable cmp [x] [x] := ⟨List.pairwise_singleton _ _, fun _ => rfl⟩
theorem alike_append (x : α) (l m : List α) : alike cmp x (l ++ m) = alike cmp x l ++ alike cmp x m := List.filter_append _ _
/-- what is sorted twice -/
theorem Stable.trans {l m n : List α} (h : Stable cmp l m) (k : Stable cmp m n) : Stable cmp l n := ⟨k.sorted, fun x => (k.same x).trans (h.same x)⟩
/-- parts that are sorted by themselves, then together -/
theorem Stable.join {l1 l2 m1 m2 n : List α} (h1 : Stable cmp l1 m1) (h2 : Stable cmp l2 m2) (h : Stable cmp (m1 ++ m2) n) : Stable cmp (l1 ++ l2) n :=
  ⟨h.sorted, fun x => by rw [h.same, alike_append, alike_append, h1.same, h2.same]⟩
theorem Stable.mem (T : TotPre cmp) {l m : List α} (h : Stable cmp l m) (x : α) : x ∈ m ↔ x ∈ l := by
  have e := h.same x
  have key : ∀ n : List α, x ∈ alike cmp x n ↔ x ∈ n := fun n => by
    unfold alike
    rw [List.mem_filter]
    exact ⟨fun q => q.1, fun q => ⟨q, by rw [beq_iff_eq]; exact T.refl x⟩⟩
  rw [← key m, ← key l, e]
/-- one more, put into its place -/
theorem Stable.insert (T : TotPre cmp) {l s1 s2 : List α} {x : α} (h : Stable cmp l (s1 ++ s2)) (h2 : ∀ y ∈ s2, cmp x y < 0) (h1 : ∀ y, s1.getLast? = some y → ¬ cmp x y < 0) : Stable cmp (l ++ [x]) (s1 ++ x :: s2) := by
  have hs := List.pairwise_append.1 h.sorted
  have hx : ∀ y ∈ s1, cmp y x ≤ 0 := by
    intro y hy
    rcases List.eq_nil_or_concat s1 with rfl | ⟨t, z, rfl⟩
    · cases hy
    · rw [List.concat_eq_append] at hy hs h1
      have hz : cmp z x ≤ 0 := by
        have := h1 z (by simp)
        rw [T.neg]
        omega
      rcases List.mem_append.1 hy with q | q
      · exact T.trans y z x ((List.pairwise_append.1 hs.1).2.2 y q z (by simp)) hz
      · simp only [List.mem_singleton] at q
        subst q
        exact hz
  refine ⟨List.pairwise_append.2 ⟨hs.1, List.pairwise_cons.2 ⟨fun y hy => Int.le_of_lt (h2 y hy), hs.2.1⟩, fun y hy z hz => ?_⟩, fun c => ?_⟩
  · rcases List.mem_cons.1 hz with rfl | hz
    · exact hx y hy
    · exact hs.2.2 y hy z hz
  · have e0 : alike cmp c (l ++ [x]) = (alike cmp c s1 ++ alike cmp c s2) ++ alike cmp c [x] := by rw [alike_append, ← h.same c, alike_append]
    rw [e0, alike_append]
    by_cases hc : cmp c x = 0
    · have e2 : alike cmp c s2 = [] := by
        unfold alike
        rw [List.filter_eq_nil_iff]
        intro y hy q
        have q' : cmp c y = 0 := by simpa using q
        have := h2 y hy
        have := (T.eq_left hc).1 q'
        omega
      have e3 : alike cmp c (x :: s2) = [x] := by
        show List.filter _ (x :: s2) = _
        rw [List.filter_cons_of_pos (by simpa using hc)]
        show x :: alike cmp c s2 = _
        rw [e2]
      have e4 : alike cmp c [x] = [x] := by
        show List.filter _ [x] = _
        rw [List.filter_cons_of_pos (by simpa using hc)]
        rfl
      rw [e3, e2, e4, List.append_nil]
    · have e3 : ∀ t : List α, alike cmp c (x :: t) = alike cmp c t := fun t => by
        show List.filter _ (x :: t) = _
        rw [List.filter_cons_of_neg (by simpa using hc)]
        rfl
      rw [e3, e3]
      show _ = _ ++ []
      rw [List.append_nil]
/-- there is one such list alone -/
theorem Stable.unique (T : TotPre cmp) : ∀ {m n l : List α}, Stable cmp l m → Stable cmp l n → m = n
  | [], [], _, _, _ => rfl
  | [], y :: n, l, h, k => absurd ((h.mem T y).2 ((k.mem T y).1 (List.mem_cons_self ..))) (List.not_mem_nil)
  | x :: m, [], l, h, k => absurd ((k.mem T x).2 ((h.mem T x).1 (List.mem_cons_self ..))) (List.not_mem_nil)
  | x :: m, y :: n, l, h, k => by
    have hxy : cmp x y ≤ 0 := by
      have : y ∈ x :: m := (h.mem T y).2 ((k.mem T y).1 (List.mem_cons_self ..))
      rcases List.mem_cons.1 this with rfl | q
      · rw [T.refl]; decide
      · exact (List.pairwise_cons.1 h.sorted).1 y q
    have hyx : cmp y x ≤ 0 := by
      have : x ∈ y :: n := (k.mem T x).2 ((h.mem T x).1 (List.mem_cons_self ..))
      rcases List.mem_cons.1 this with rfl | q
      · rw [T.refl]; decide
      · exact (List.pairwise_cons.1 k.sorted).1 x q
    have h0 : cmp x y = 0 := by rw [T.neg] at hyx; omega
    have e : alike cmp x (x :: m) = alike cmp x (y :: n) := (h.same x).trans (k.same x).symm
    have e1 : alike cmp x (x :: m) = x :: alike cmp x m := by
      show List.filter _ (x :: m) = _
      rw [List.filter_cons_of_pos (by simpa using T.refl x)]
      rfl
    have e2 : alike cmp x (y :: n) = y :: alike cmp x n := by
      show List.filter _ (y :: n) = _
      rw [List.filter_cons_of_pos (by simpa using h0)]
      rfl
    rw [e1, e2] at e
    injection e with e3 _
    subst e3
    have hm : Stable cmp m m := ⟨(List.pairwise_cons.1 h.sorted).2, fun _ => rfl⟩
    have hn : Stable cmp m n := ⟨(List.pairwise_cons.1 k.sorted).2, fun c => by
      have q : alike cmp c (x :: m) = alike cmp c (x :: n) := (h.same c).trans (k.same c).symm
      unfold alike at q ⊢
      by_cases hc : cmp c x = 0
      · rw [List.filter_cons_of_pos (by simpa using hc), List.filter_cons_of_pos (by simpa using hc)] at q
        injection q with _ q
        exact q.symm
      · rw [List.filter_cons_of_neg (by simpa using hc), List.filter_cons_of_neg (by simpa using hc)] at q
        exact q.symm⟩
    rw [Stable.unique T hm hn]
end
end Go.Proofs.YtmdakaflmheidaaGreatDoor
