/- The plain law of StampOrder: times of one depth are ordered in part, with least and greatest bounds. The plain law of a stable sort. Times as values; antichains: which lists they are. Plain. append, once more: it stays where it was, or nothing that was there has turned. The Book's lists: what it means that each has memory of its own; what stays under writes to some blocks. What is new memory, from where to where; lists of lists out of such. Lists of times in memory. What comes in: lists of times. Antichains: what is beyond both, with one more, the time that stands for another one. Plain. Counts of times: their frontier, and how it moves. Plain. Conditions: each theorem states its own. -/
import Derived.Test.YtdgbkpoickbidaaGreatDoorCc1
import Derived.Deep.Slices
namespace Go.Proofs.YtdgbkpoickbidaaGreatDoor

theorem leq_iff (e1 : Int) (l1 : List Int) (e2 : Int) (l2 : List Int) : leqT e1 l1 e2 l2 = true ↔ l1.length = l2.length ∧ e1 ≤ e2 ∧ ∀ k, k < l1.length → l1.getD k 0 ≤ l2.getD k 0 := by
  unfold leqT
  exact decide_eq_true_iff
theorem leq_refl (e : Int) (l : List Int) : leqT e l e l = true := (leq_iff _ _ _ _).2 ⟨rfl, Int.le_refl _, fun _ _ => Int.le_refl _⟩
theorem leq_trans {e1 e2 e3 : Int} {l1 l2 l3 : List Int} (h : leqT e1 l1 e2 l2 = true) (k : leqT e2 l2 e3 l3 = true) : leqT e1 l1 e3 l3 = true := by
  rw [leq_iff] at *
  obtain ⟨a1, a2, a3⟩ := h
  obtain ⟨b1, b2, b3⟩ := k
  exact ⟨by omega, by omega, fun i hi => Int.le_trans (a3 i hi) (b3 i (by omega))⟩
theorem leq_len {e1 e2 : Int} {l1 l2 : List Int} (h : l1.length ≠ l2.length) : leqT e1 l1 e2 l2 = false := by
  unfold leqT
  exact decide_eq_false fun hh => h hh.1

theorem lex_le : ∀ (l m : List Int), l.length = m.length → (∀ k, k < l.length → l.getD k 0 ≤ m.getD k 0) → lexT l m ≤ 0
  | [], [], _, _ => Int.le_refl _
  | [], _ :: _, h, _ => by simp at h
  | _ :: _, [], h, _ => by simp at h
  | x :: l, y :: m, h, hh => by
    have h0 : x ≤ y := by simpa using hh 0 (by simp)
    have hr := lex_le l m (by simpa using h) (fun k hk => by simpa using hh (k + 1) (by simpa using hk))
    unfold lexT
    split
    · exact hr
    · unfold cmpT
      split
      · omega
      · split <;> omega
theorem lex_zero : ∀ (l m : List Int), lexT l m = 0 → l = m
  | [], [], _ => rfl
  | [], _ :: _, h => by simp [lexT] at h
  | _ :: _, [], h => by simp [lexT] at h
  | x :: l, y :: m, h => by
    unfold lexT at h
    by_cases hc : cmpT x y = 0
    · rw [if_pos hc] at h
      rw [cmpT_zero.1 hc, lex_zero l m h]
    · rw [if_neg hc] at h
      exact absurd h hc
theorem lex_self : ∀ l : List Int, lexT l l = 0
  | [] => rfl
  | x :: l => by
    unfold lexT
    rw [if_pos (cmpT_self x)]
    exact lex_self l

theorem cmp_zero {e1 e2 : Int} {l1 l2 : List Int} : cmpTT e1 l1 e2 l2 = 0 ↔ e1 = e2 ∧ l1 = l2 := by
  constructor
  · intro h
    unfold cmpTT orT at h
    by_cases h1 : cmpT (l1.length : Int) l2.length = 0
    · rw [if_pos h1] at h
      by_cases h2 : cmpT e1 e2 = 0
      · rw [if_pos h2] at h
        exact ⟨cmpT_zero.1 h2, lex_zero _ _ h⟩
      · rw [if_neg h2] at h
        exact absurd h h2
    · rw [if_neg h1] at h
      exact absurd h h1
  · rintro ⟨rfl, rfl⟩
    simp [cmpTT, orT, cmpT_self, lex_self]
theorem cmp_le {e1 e2 : Int} {l1 l2 : List Int} (h : leqT e1 l1 e2 l2 = true) : cmpTT e1 l1 e2 l2 ≤ 0 := by
  obtain ⟨a1, a2, a3⟩ := (leq_iff _ _ _ _).1 h
  unfold cmpTT orT
  rw [a1, cmpT_self, if_pos rfl]
  split
  · exact lex_le _ _ a1 a3
  · unfold cmpT
    split
    · omega
    · split <;> omega
theorem getD_ext' {l1 l2 : List Int} (hl : l1.length = l2.length) (h : ∀ k, k < l1.length → l1.getD k 0 = l2.getD k 0) : l1 = l2 := (getD_ext hl).1 h
theorem cmp_both {e1 e2 : Int} {l1 l2 : List Int} : (leqT e1 l1 e2 l2 = true ∧ leqT e2 l2 e1 l1 = true) ↔ cmpTT e1 l1 e2 l2 = 0 := by
  rw [cmp_zero]
  constructor
  · rintro ⟨h, k⟩
    rw [leq_iff] at h k
    obtain ⟨a1, a2, a3⟩ := h
    obtain ⟨b1, b2, b3⟩ := k
    exact ⟨by omega, getD_ext' a1 fun i hi => Int.le_antisymm (a3 i hi) (b3 i (by omega))⟩
  · rintro ⟨rfl, rfl⟩
    exact ⟨leq_refl _ _, leq_refl _ _⟩

theorem zip_getD (g : Int → Int → Int) (l1 l2 : List Int) (k : Nat) (h1 : k < l1.length) (h2 : k < l2.length) : (List.zipWith g l1 l2).getD k 0 = g (l1.getD k 0) (l2.getD k 0) := by
  simp [List.getD_eq_getElem?_getD, List.getElem?_zipWith, List.getElem?_eq_getElem h1, List.getElem?_eq_getElem h2]
theorem join_up1 {e1 e2 : Int} {l1 l2 : List Int} (hl : l1.length = l2.length) : leqT e1 l1 (max e1 e2) (List.zipWith max l1 l2) = true :=
  (leq_iff _ _ _ _).2 ⟨by simp; omega, by omega, fun k hk => by rw [zip_getD _ _ _ _ hk (by omega)]; omega⟩
theorem join_up2 {e1 e2 : Int} {l1 l2 : List Int} (hl : l1.length = l2.length) : leqT e2 l2 (max e1 e2) (List.zipWith max l1 l2) = true :=
  (leq_iff _ _ _ _).2 ⟨by simp; omega, by omega, fun k hk => by rw [zip_getD _ _ _ _ (by omega) hk]; omega⟩
theorem meet_low1 {e1 e2 : Int} {l1 l2 : List Int} (hl : l1.length = l2.length) : leqT (min e1 e2) (List.zipWith min l1 l2) e1 l1 = true :=
  (leq_iff _ _ _ _).2 ⟨by simp; omega, by omega, fun k hk => by simp at hk; rw [zip_getD _ _ _ _ (by omega) (by omega)]; omega⟩
theorem meet_low2 {e1 e2 : Int} {l1 l2 : List Int} (hl : l1.length = l2.length) : leqT (min e1 e2) (List.zipWith min l1 l2) e2 l2 = true :=
  (leq_iff _ _ _ _).2 ⟨by simp; omega, by omega, fun k hk => by simp at hk; rw [zip_getD _ _ _ _ (by omega) (by omega)]; omega⟩
theorem join_least {e1 e2 e3 : Int} {l1 l2 l3 : List Int} (hl : l1.length = l2.length) : leqT (max e1 e2) (List.zipWith max l1 l2) e3 l3 = (leqT e1 l1 e3 l3 && leqT e2 l2 e3 l3) := by
  rw [Bool.eq_iff_iff, Bool.and_eq_true]
  constructor
  · intro h
    exact ⟨leq_trans (join_up1 hl) h, leq_trans (join_up2 hl) h⟩
  · rintro ⟨h, k⟩
    rw [leq_iff] at *
    obtain ⟨a1, a2, a3⟩ := h
    obtain ⟨b1, b2, b3⟩ := k
    refine ⟨by simp; omega, by omega, fun i hi => ?_⟩
    simp at hi
    rw [zip_getD _ _ _ _ (by omega) (by omega)]
    have := a3 i (by omega)
    have := b3 i (by omega)
    omega
theorem meet_greatest {e1 e2 e3 : Int} {l1 l2 l3 : List Int} (hl : l1.length = l2.length) : leqT e3 l3 (min e1 e2) (List.zipWith min l1 l2) = (leqT e3 l3 e1 l1 && leqT e3 l3 e2 l2) := by
  rw [Bool.eq_iff_iff, Bool.and_eq_true]
  constructor
  · intro h
    exact ⟨leq_trans h (meet_low1 hl), leq_trans h (meet_low2 hl)⟩
  · rintro ⟨h, k⟩
    rw [leq_iff] at *
    obtain ⟨a1, a2, a3⟩ := h
    obtain ⟨b1, b2, b3⟩ := k
    refine ⟨by simp; omega, by omega, fun i hi => ?_⟩
    rw [zip_getD _ _ _ _ (by omega) (by omega)]
    have := a3 i (by omega)
    have := b3 i (by omega)
    omega
end Go.Proofs.YtdgbkpoickbidaaGreatDoor
namespace Go.Proofs.YtdgbkpoickbidaaGreatDoor
open Go.RowKit

structure TotPre {α : Type} (cmp : α → α → Int) : Prop where
  neg : ∀ x y, cmp x y = -cmp y x
  trans : ∀ x y z, cmp x y ≤ 0 → cmp y z ≤ 0 → cmp x z ≤ 0
section
variable {α : Type} {cmp : α → α → Int}
theorem TotPre.refl (h : TotPre cmp) (x : α) : cmp x x = 0 := by have := h.neg x x; omega
theorem TotPre.lt_of_lt_le (h : TotPre cmp) {x y z : α} (h1 : cmp x y < 0) (h2 : cmp y z ≤ 0) : cmp x z < 0 := by
  have a := h.trans x y z (by omega) h2
  rcases Int.lt_or_eq_of_le a with q | q
  · exact q
  · have b := h.trans y z x h2 (by rw [h.neg, q]; decide)
    rw [h.neg] at b
    omega
theorem TotPre.lt_of_le_lt (h : TotPre cmp) {x y z : α} (h1 : cmp x y ≤ 0) (h2 : cmp y z < 0) : cmp x z < 0 := by
  have a := h.trans x y z h1 (by omega)
  rcases Int.lt_or_eq_of_le a with q | q
  · exact q
  · have b := h.trans z x y (by rw [h.neg, q]; decide) h1
    rw [h.neg] at b
    omega
theorem TotPre.eq_trans (h : TotPre cmp) {x y z : α} (h1 : cmp x y = 0) (h2 : cmp y z = 0) : cmp x z = 0 := by
  have a := h.trans x y z (by omega) (by omega)
  have b := h.trans z y x (by rw [h.neg, h2]; decide) (by rw [h.neg, h1]; decide)
  rw [h.neg] at b
  omega
theorem TotPre.eq_left (h : TotPre cmp) {x y z : α} (h1 : cmp x y = 0) : cmp x z = 0 ↔ cmp y z = 0 :=
  ⟨fun q => h.eq_trans (by rw [h.neg, h1]; rfl) q, fun q => h.eq_trans h1 q⟩
/-- those alike x -/
def alike (cmp : α → α → Int) (x : α) (l : List α) : List α := l.filter fun y => cmp x y == 0
/-- m is l, sorted, those that are alike in their order -/
structure Stable (cmp : α → α → Int) (l m : List α) : Prop where
  sorted : m.Pairwise fun x y => cmp x y ≤ 0
  same : ∀ x, alike cmp x m = alike cmp x l
theorem Stable.nil : Stable cmp [] ([] : List α) := ⟨List.Pairwise.nil, fun _ => rfl⟩
theorem Stable.one (x : α) : Stable cmp [x] [x] := ⟨List.pairwise_singleton _ _, fun _ => rfl⟩
theorem alike_append (x : α) (l m : List α) : alike cmp x (l ++ m) = alike cmp x l ++ alike cmp x m := List.filter_append _ _
/-- what is sorted twice -/
theorem Stable.trans {l m n : List α} (h : Stable cmp l m) (k : Stable cmp m n) : Stable cmp l n := ⟨k.sorted, fun x => (k.same x).trans (h.same x)⟩
/-- parts that are sorted by themselves, then together -/
theorem Stable.join {l1 l2 m1 m2 n : List α} (h1 : Stable cmp l1 m1) (h2 : Stable cmp l2 m2) (h : Stable cmp (m1 ++ m2) n) : Stable cmp (l1 ++ l2) n :=
  ⟨h.sorted, fun x => by rw [h.same, alike_append, alike_append, h1.same, h2.same]⟩
theorem Stable.mem (T : TotPre cmp) {l m : List α} (h : Stable cmp l m) (x : α) : x ∈ m ↔ x ∈ l := by
  have e := h.same x
  have key : ∀ n : List α, x ∈ alike cmp x n ↔ x ∈ n := fun n => by
    unfold alike
    rw [List.mem_filter]
    exact ⟨fun q => q.1, fun q => ⟨q, by rw [beq_iff_eq]; exact T.refl x⟩⟩
  rw [← key m, ← key l, e]
/-- one more, put into its place -/
theorem Stable.insert (T : TotPre cmp) {l s1 s2 : List α} {x : α} (h : Stable cmp l (s1 ++ s2)) (h2 : ∀ y ∈ s2, cmp x y < 0) (h1 : ∀ y, s1.getLast? = some y → ¬ cmp x y < 0) : Stable cmp (l ++ [x]) (s1 ++ x :: s2) := by
  have hs := List.pairwise_append.1 h.sorted
  have hx : ∀ y ∈ s1, cmp y x ≤ 0 := by
    intro y hy
    rcases List.eq_nil_or_concat s1 with rfl | ⟨t, z, rfl⟩
    · cases hy
    · rw [List.concat_eq_append] at hy hs h1
      have hz : cmp z x ≤ 0 := by
        have := h1 z (by simp)
        rw [T.neg]
        omega
      rcases List.mem_append.1 hy with q | q
      · exact T.trans y z x ((List.pairwise_append.1 hs.1).2.2 y q z (by simp)) hz
      · simp only [List.mem_singleton] at q
        subst q
        exact hz
  refine ⟨List.pairwise_append.2 ⟨hs.1, List.pairwise_cons.2 ⟨fun y hy => Int.le_of_lt (h2 y hy), hs.2.1⟩, fun y hy z hz => ?_⟩, fun c => ?_⟩
  · rcases List.mem_cons.1 hz with rfl | hz
    · exact hx y hy
    · exact hs.2.2 y hy z hz
  · have e0 : alike cmp c (l ++ [x]) = (alike cmp c s1 ++ alike cmp c s2) ++ alike cmp c [x] := by rw [alike_append, ← h.same c, alike_append]
    rw [e0, alike_append]
    by_cases hc : cmp c x = 0
    · have e2 : alike cmp c s2 = [] := by
        unfold alike
        rw [List.filter_eq_nil_iff]
        intro y hy q
        have q' : cmp c y = 0 := by simpa using q
        have := h2 y hy
        have := (T.eq_left hc).1 q'
        omega
      have e3 : alike cmp c (x :: s2) = [x] := by
        show List.filter _ (x :: s2) = _
        rw [List.filter_cons_of_pos (by simpa using hc)]
        show x :: alike cmp c s2 = _
        rw [e2]
      have e4 : alike cmp c [x] = [x] := by
        show List.filter _ [x] = _
        rw [List.filter_cons_of_pos (by simpa using hc)]
        rfl
      rw [e3, e2, e4, List.append_nil]
    · have e3 : ∀ t : List α, alike cmp c (x :: t) = alike cmp c t := fun t => by
        show List.filter _ (x :: t) = _
        rw [List.filter_cons_of_neg (by simpa using hc)]
        rfl
      rw [e3, e3]
      show _ = _ ++ []
      rw [List.append_nil]
/-- there is one such list alone -/
theorem Stable.unique (T : TotPre cmp) : ∀ {m n l : List α}, Stable cmp l m → Stable cmp l n → m = n
  | [], [], _, _, _ => rfl
  | [], y :: n, l, h, k => absurd ((h.mem T y).2 ((k.mem T y).1 (List.mem_cons_self ..))) (List.not_mem_nil)
  | x :: m, [], l, h, k => absurd ((k.mem T x).2 ((h.mem T x).1 (List.mem_cons_self ..))) (List.not_mem_nil)
  | x :: m, y :: n, l, h, k => by
    have hxy : cmp x y ≤ 0 := by
      have : y ∈ x :: m := (h.mem T y).2 ((k.mem T y).1 (List.mem_cons_self ..))
      rcases List.mem_cons.1 this with rfl | q
      · rw [T.refl]; decide
      · exact (List.pairwise_cons.1 h.sorted).1 y q
    have hyx : cmp y x ≤ 0 := by
      have : x ∈ y :: n := (k.mem T x).2 ((h.mem T x).1 (List.mem_cons_self ..))
      rcases List.mem_cons.1 this with rfl | q
      · rw [T.refl]; decide
      · exact (List.pairwise_cons.1 k.sorted).1 x q
    have h0 : cmp x y = 0 := by rw [T.neg] at hyx; omega
    have e : alike cmp x (x :: m) = alike cmp x (y :: n) := (h.same x).trans (k.same x).symm
    have e1 : alike cmp x (x :: m) = x :: alike cmp x m := by
      show List.filter _ (x :: m) = _
      rw [List.filter_cons_of_pos (by simpa using T.refl x)]
      rfl
    have e2 : alike cmp x (y :: n) = y :: alike cmp x n := by
      show List.filter _ (y :: n) = _
      rw [List.filter_cons_of_pos (by simpa using h0)]
      rfl
    rw [e1, e2] at e
    injection e with e3 _
    subst e3
    have hm : Stable cmp m m := ⟨(List.pairwise_cons.1 h.sorted).2, fun _ => rfl⟩
    have hn : Stable cmp m n := ⟨(List.pairwise_cons.1 k.sorted).2, fun c => by
      have q : alike cmp c (x :: m) = alike cmp c (x :: n) := (h.same c).trans (k.same c).symm
      unfold alike at q ⊢
      by_cases hc : cmp c x = 0
      · rw [List.filter_cons_of_pos (by simpa using hc), List.filter_cons_of_pos (by simpa using hc)] at q
        injection q with _ q
        exact q.symm
      · rw [List.filter_cons_of_neg (by simpa using hc), List.filter_cons_of_neg (by simpa using hc)] at q
        exact q.symm⟩
    rw [Stable.unique T hm hn]
end
end Go.Proofs.YtdgbkpoickbidaaGreatDoor
namespace Go.Proofs.YtdgbkpoickbidaaGreatDoor

abbrev TV := Int × List Int
def tcmp (x y : TV) : Int := cmpTT x.1 x.2 y.1 y.2
def tleq (x y : TV) : Bool := leqT x.1 x.2 y.1 y.2
theorem cmpT_neg (x y : Int) : cmpT y x = -cmpT x y := by
  unfold cmpT
  repeat' split
  all_goals omega
theorem cmpT_pos {x y : Int} : cmpT x y < 0 ↔ x < y := by
  unfold cmpT
  repeat' split
  all_goals omega
theorem lexT_neg : ∀ l m : List Int, lexT m l = -lexT l m
  | [], [] => rfl
  | [], _ :: _ => rfl
  | _ :: _, [] => rfl
  | x :: l, y :: m => by
    simp only [lexT]
    rw [cmpT_neg x y]
    by_cases h : cmpT x y = 0
    · rw [if_pos (by omega), if_pos h]; exact lexT_neg l m
    · rw [if_neg (by omega), if_neg h]
theorem lexT_trans : ∀ l m n : List Int, lexT l m ≤ 0 → lexT m n ≤ 0 → lexT l n ≤ 0
  | [], [], n, _, h => h
  | [], _ :: _, [], _, h => by simp [lexT] at h
  | [], _ :: _, _ :: _, _, _ => by simp [lexT]
  | _ :: _, [], _, h, _ => by simp [lexT] at h
  | _ :: _, _ :: _, [], _, h => by simp [lexT] at h
  | x :: l, y :: m, z :: n, h, k => by
    simp only [lexT] at h k ⊢
    by_cases h1 : cmpT x y = 0
    · have e := cmpT_zero.1 h1
      subst e
      rw [if_pos h1] at h
      by_cases h2 : cmpT x z = 0
      · rw [if_pos h2] at k ⊢
        exact lexT_trans l m n h k
      · rw [if_neg h2] at k ⊢
        exact k
    · rw [if_neg h1] at h
      have l1 : x < y := cmpT_pos.1 (by omega)
      by_cases h2 : cmpT y z = 0
      · have e := cmpT_zero.1 h2
        subst e
        rw [if_neg h1]
        exact h
      · rw [if_neg h2] at k
        have l2 : y < z := cmpT_pos.1 (by omega)
        have l3 : cmpT x z < 0 := cmpT_pos.2 (by omega)
        rw [if_neg (by omega)]
        omega
theorem orT_le {a b c : Int} : orT a b c ≤ 0 ↔ a < 0 ∨ (a = 0 ∧ (b < 0 ∨ (b = 0 ∧ c ≤ 0))) := by
  unfold orT
  split
  · split <;> omega
  · omega
theorem tcmp_neg (x y : TV) : tcmp y x = -tcmp x y := by
  unfold tcmp cmpTT
  rw [cmpT_neg x.2.length, cmpT_neg x.1, lexT_neg x.2]
  unfold orT
  by_cases h1 : cmpT x.2.length y.2.length = 0
  · rw [if_pos (by omega), if_pos h1]
    by_cases h2 : cmpT x.1 y.1 = 0
    · rw [if_pos (by omega), if_pos h2]
    · rw [if_neg (by omega), if_neg h2]
  · rw [if_neg (by omega), if_neg h1]
theorem tcmp_trans (x y z : TV) (h : tcmp x y ≤ 0) (k : tcmp y z ≤ 0) : tcmp x z ≤ 0 := by
  unfold tcmp cmpTT at h k ⊢
  rw [orT_le] at h k ⊢
  rw [cmpT_pos, cmpT_zero, cmpT_pos, cmpT_zero] at h k ⊢
  rcases h with h | ⟨h1, h | ⟨h2, h3⟩⟩ <;> rcases k with k | ⟨k1, k | ⟨k2, k3⟩⟩
  · exact .inl (by omega)
  · exact .inl (by omega)
  · exact .inl (by omega)
  · exact .inl (by omega)
  · exact .inr ⟨by omega, .inl (by omega)⟩
  · exact .inr ⟨by omega, .inl (by omega)⟩
  · exact .inl (by omega)
  · exact .inr ⟨by omega, .inl (by omega)⟩
  · exact .inr ⟨by omega, .inr ⟨by omega, lexT_trans _ _ _ h3 k3⟩⟩
theorem tcmp_zero {x y : TV} : tcmp x y = 0 ↔ x = y := by
  unfold tcmp
  rw [cmp_zero]
  exact ⟨fun h => Prod.ext h.1 h.2, fun h => by rw [h]; exact ⟨rfl, rfl⟩⟩
theorem tcmp_lt_trans {x y z : TV} (h : tcmp x y < 0) (k : tcmp y z ≤ 0) : tcmp x z < 0 := by
  have h1 := tcmp_trans x y z (by omega) k
  rcases Int.lt_or_eq_of_le h1 with h2 | h2
  · exact h2
  · have e := tcmp_zero.1 h2
    subst e
    have := tcmp_neg x y
    omega
theorem tleq_refl (x : TV) : tleq x x = true := leq_refl _ _
theorem tleq_trans {x y z : TV} (h : tleq x y = true) (k : tleq y z = true) : tleq x z = true := leq_trans h k
theorem tleq_cmp {x y : TV} (h : tleq x y = true) : tcmp x y ≤ 0 := cmp_le h
theorem tleq_anti {x y : TV} (h : tleq x y = true) (k : tleq y x = true) : x = y := tcmp_zero.1 (cmp_both.1 ⟨h, k⟩)

/-! ### lists that rise -/
def Rising (l : List TV) : Prop := l.Pairwise fun x y => tcmp x y < 0
theorem rising_ext : ∀ {a b : List TV}, Rising a → Rising b → (∀ x, x ∈ a ↔ x ∈ b) → a = b
  | [], [], _, _, _ => rfl
  | [], y :: b, _, _, h => by have := (h y).2 (by simp); simp at this
  | x :: a, [], _, _, h => by have := (h x).1 (by simp); simp at this
  | x :: a, y :: b, ha, hb, h => by
    unfold Rising at ha hb
    rw [List.pairwise_cons] at ha hb
    have e : x = y := by
      have h1 : x ∈ y :: b := (h x).1 (by simp)
      have h2 : y ∈ x :: a := (h y).2 (by simp)
      rcases List.mem_cons.1 h1 with h1 | h1
      · exact h1
      · rcases List.mem_cons.1 h2 with h2 | h2
        · exact h2.symm
        · have q1 := hb.1 x h1
          have q2 := ha.1 y h2
          have := tcmp_neg x y
          omega
    subst e
    rw [rising_ext ha.2 hb.2 (fun z => by
      constructor
      · intro hz
        rcases List.mem_cons.1 ((h z).1 (List.mem_cons_of_mem _ hz)) with e | e
        · have := ha.1 z hz
          rw [e, tcmp_zero.2 rfl] at this
          omega
        · exact e
      · intro hz
        rcases List.mem_cons.1 ((h z).2 (List.mem_cons_of_mem _ hz)) with e | e
        · have := hb.1 z hz
          rw [e, tcmp_zero.2 rfl] at this
          omega
        · exact e)]
theorem filter_len_le {α : Type} {p q : α → Bool} (h : ∀ z, p z = true → q z = true) : ∀ l : List α, (l.filter p).length ≤ (l.filter q).length
  | [] => Nat.le_refl _
  | x :: l => by
    have ih := filter_len_le h l
    rw [List.filter_cons, List.filter_cons]
    by_cases hp : p x = true
    · rw [if_pos hp, if_pos (h x hp)]; simpa using ih
    · rw [if_neg hp]
      split
      · exact Nat.le_succ_of_le ih
      · exact ih
theorem filter_less {α : Type} {p q : α → Bool} (h : ∀ z, p z = true → q z = true) {a : α} : ∀ {l : List α}, a ∈ l → p a = false → q a = true → (l.filter p).length < (l.filter q).length
  | x :: l, ha, hp, hq => by
    rw [List.filter_cons, List.filter_cons]
    rcases List.mem_cons.1 ha with rfl | ha
    · rw [if_neg (by rw [hp]; decide), if_pos hq]
      exact Nat.lt_succ_of_le (filter_len_le h l)
    · have ih := filter_less h ha hp hq
      by_cases hx : p x = true
      · rw [if_pos hx, if_pos (h x hx)]; simpa using ih
      · rw [if_neg hx]
        split
        · exact Nat.lt_succ_of_lt ih
        · exact ih
/-- a time of the list that none of the list is ahead of -/
def Least (L : List TV) (v : TV) : Prop := v ∈ L ∧ ∀ u ∈ L, tleq u v = true → u = v
theorem least_below : ∀ (n : Nat) (L : List TV) (v : TV), (L.filter fun u => decide (tcmp u v < 0)).length ≤ n → v ∈ L → ∃ m, Least L m ∧ tleq m v = true
  | n, L, v, hn, hv => by
    by_cases h : ∃ u ∈ L, tleq u v = true ∧ u ≠ v
    · obtain ⟨u, hu, huv, hne⟩ := h
      have hlt : tcmp u v < 0 := by
        have := tleq_cmp huv
        have h0 : tcmp u v ≠ 0 := fun e => hne (tcmp_zero.1 e)
        omega
      have hlen : (L.filter fun z => decide (tcmp z u < 0)).length < (L.filter fun z => decide (tcmp z v < 0)).length := by
        have hsub : ∀ z, decide (tcmp z u < 0) = true → decide (tcmp z v < 0) = true := fun z hz => by
          rw [decide_eq_true_iff] at hz ⊢
          exact tcmp_lt_trans hz (by omega)
        exact filter_less hsub hu (by rw [tcmp_zero.2 rfl]; decide) (by rw [decide_eq_true_iff]; exact hlt)
      match n, hn with
      | 0, hn => omega
      | n + 1, hn =>
        obtain ⟨m, h1, h2⟩ := least_below n L u (by omega) hu
        exact ⟨m, h1, tleq_trans h2 huv⟩
    · refine ⟨v, ⟨hv, fun u hu huv => ?_⟩, tleq_refl v⟩
      by_cases e : u = v
      · exact e
      · exact absurd ⟨u, hu, huv, e⟩ h
/-- M is the antichain of L -/
structure IsOf (L M : List TV) : Prop where
  rising : Rising M
  mem : ∀ v, v ∈ M ↔ Least L v
theorem IsOf.unique {L M N : List TV} (h : IsOf L M) (k : IsOf L N) : M = N := rising_ext h.rising k.rising fun v => (h.mem v).trans (k.mem v).symm
theorem Least.congr {L L' : List TV} (h : ∀ v, v ∈ L ↔ v ∈ L') (v : TV) : Least L v ↔ Least L' v :=
  ⟨fun q => ⟨(h v).1 q.1, fun u hu => q.2 u ((h u).2 hu)⟩, fun q => ⟨(h v).2 q.1, fun u hu => q.2 u ((h u).1 hu)⟩⟩
theorem IsOf.congr {L L' M : List TV} (h : ∀ v, v ∈ L ↔ v ∈ L') (k : IsOf L M) : IsOf L' M := ⟨k.rising, fun v => (k.mem v).trans (Least.congr h v)⟩
/-- beyond -/
def beyondV (M : List TV) (t : TV) : Bool := M.any fun x => tleq x t
theorem beyond_iff {M : List TV} {t : TV} : beyondV M t = true ↔ ∃ x ∈ M, tleq x t = true := by unfold beyondV; exact List.any_eq_true
/-- what the program has, when it has looked at so many of the sorted list -/
structure OfUpto (L S : List TV) (i : Nat) (M : List TV) : Prop where
  rising : Rising M
  mem : ∀ v, v ∈ M ↔ Least L v ∧ v ∈ S.take i
theorem OfUpto.zero (L S : List TV) : OfUpto L S 0 [] := ⟨List.Pairwise.nil, fun v => by simp⟩
theorem take_mem_succ {α : Type} {l : List α} {i : Nat} (h : i < l.length) (v : α) : v ∈ l.take (i + 1) ↔ v ∈ l.take i ∨ v = l[i] := by
  rw [List.take_succ_eq_append_getElem h, List.mem_append, List.mem_singleton]
theorem OfUpto.skip {L S M : List TV} {i : Nat} (h : OfUpto L S i M) (hi : i < S.length) (hb : beyondV M S[i] = true) : OfUpto L S (i + 1) M := by
  refine ⟨h.rising, fun v => ⟨fun hv => ?_, fun ⟨h1, h2⟩ => ?_⟩⟩
  · have := (h.mem v).1 hv
    exact ⟨this.1, (take_mem_succ hi v).2 (.inl this.2)⟩
  · rcases (take_mem_succ hi v).1 h2 with h2 | rfl
    · exact (h.mem v).2 ⟨h1, h2⟩
    · obtain ⟨x, hx, hxv⟩ := beyond_iff.1 hb
      have q := (h.mem x).1 hx
      have e := h1.2 x q.1.1 hxv
      rw [← e]
      exact hx
theorem OfUpto.put {L S M : List TV} {i : Nat} (h : OfUpto L S i M) (hi : i < S.length) (hs : S.Pairwise fun x y => tcmp x y ≤ 0) (hm : ∀ v, v ∈ S ↔ v ∈ L) (hb : beyondV M S[i] = false) : OfUpto L S (i + 1) (M ++ [S[i]]) := by
  have hno : ∀ x ∈ M, tleq x S[i] = false := fun x hx => by
    by_cases e : tleq x S[i] = true
    · rw [beyond_iff.2 ⟨x, hx, e⟩] at hb; exact absurd hb (by decide)
    · simpa using e
  have hat : ∀ v, v ∈ S → tcmp v S[i] < 0 → v ∈ S.take i := fun v hv hlt => by
    obtain ⟨j, hj, rfl⟩ := List.getElem_of_mem hv
    by_cases hji : j < i
    · exact List.mem_take_iff_getElem.2 ⟨j, by omega, rfl⟩
    · exfalso
      rcases Nat.lt_or_eq_of_le (Nat.le_of_not_lt hji) with q | q
      · have := List.pairwise_iff_getElem.1 hs i j hi hj q
        have := tcmp_neg S[i] S[j]
        omega
      · subst q
        rw [tcmp_zero.2 rfl] at hlt
        omega
  have hti : S[i] ∈ L := (hm _).1 (List.getElem_mem hi)
  have hleast : Least L S[i] := by
    refine ⟨hti, fun u hu huv => ?_⟩
    obtain ⟨m, h1, h2⟩ := least_below _ L u (Nat.le_refl _) hu
    have hmv := tleq_trans h2 huv
    by_cases e : m = S[i]
    · exact tleq_anti huv (e ▸ h2)
    · have hlt : tcmp m S[i] < 0 := by
        have := tleq_cmp hmv
        have h0 : tcmp m S[i] ≠ 0 := fun q => e (tcmp_zero.1 q)
        omega
      have hmM : m ∈ M := (h.mem m).2 ⟨h1, hat m ((hm m).2 h1.1) hlt⟩
      rw [hno m hmM] at hmv
      exact absurd hmv (by decide)
  refine ⟨?_, fun v => ⟨fun hv => ?_, fun ⟨h1, h2⟩ => ?_⟩⟩
  · unfold Rising
    refine List.pairwise_append.2 ⟨h.rising, List.pairwise_singleton _ _, fun x hx y hy => ?_⟩
    rw [List.mem_singleton] at hy
    subst hy
    have hxt := ((h.mem x).1 hx).2
    obtain ⟨j, hj, e⟩ := List.mem_take_iff_getElem.1 hxt
    have q := List.pairwise_iff_getElem.1 hs j i (by omega) hi (by omega)
    rw [e] at q
    have h0 : tcmp x S[i] ≠ 0 := fun z => by
      have e2 := tcmp_zero.1 z
      have := hno x hx
      rw [e2, tleq_refl] at this
      exact absurd this (by decide)
    omega
  · rcases List.mem_append.1 hv with hv | hv
    · have := (h.mem v).1 hv
      exact ⟨this.1, (take_mem_succ hi v).2 (.inl this.2)⟩
    · rw [List.mem_singleton] at hv
      subst hv
      exact ⟨hleast, (take_mem_succ hi _).2 (.inr rfl)⟩
  · rcases (take_mem_succ hi v).1 h2 with h2 | rfl
    · exact List.mem_append_left _ ((h.mem v).2 ⟨h1, h2⟩)
    · exact List.mem_append_right _ (by simp)
theorem OfUpto.done {L S M : List TV} (h : OfUpto L S S.length M) (hm : ∀ v, v ∈ S ↔ v ∈ L) : IsOf L M :=
  ⟨h.rising, fun v => by rw [h.mem v, List.take_length, hm]; exact ⟨fun q => q.1, fun q => ⟨q, q.1⟩⟩⟩
/-- what the document has, when it has looked at so many -/
theorem OfUpto.skipR {L M : List TV} {i : Nat} (h : OfUpto L L i M) (hi : i < L.length) (hb : Least L L[i] → L[i] ∈ L.take i) : OfUpto L L (i + 1) M := by
  refine ⟨h.rising, fun v => ⟨fun hv => ?_, fun ⟨h1, h2⟩ => ?_⟩⟩
  · have := (h.mem v).1 hv
    exact ⟨this.1, (take_mem_succ hi v).2 (.inl this.2)⟩
  · rcases (take_mem_succ hi v).1 h2 with h2 | rfl
    · exact (h.mem v).2 ⟨h1, h2⟩
    · exact (h.mem _).2 ⟨h1, hb h1⟩
theorem OfUpto.putR {L M1 M2 : List TV} {i : Nat} (h : OfUpto L L i (M1 ++ M2)) (hi : i < L.length) (hl : Least L L[i]) (h1 : ∀ x ∈ M1, tcmp x L[i] < 0) (h2 : ∀ x, M2.head? = some x → ¬ tcmp x L[i] < 0) (hn : L[i] ∉ L.take i) : OfUpto L L (i + 1) (M1 ++ [L[i]] ++ M2) := by
  have hr := h.rising
  unfold Rising at hr
  obtain ⟨r1, r2, r3⟩ := List.pairwise_append.1 hr
  have hM2 : ∀ x ∈ M2, tcmp L[i] x < 0 := by
    intro x hx
    have hne : ∀ y ∈ M2, tcmp y L[i] ≠ 0 := fun y hy e => hn (by
      have := ((h.mem y).1 (List.mem_append_right _ hy)).2
      rwa [tcmp_zero.1 e] at this)
    cases M2 with
    | nil => cases hx
    | cons y r =>
      have q0 := h2 y rfl
      have q1 := hne y (by simp)
      have q2 := tcmp_neg y L[i]
      rcases List.mem_cons.1 hx with rfl | hx
      · omega
      · exact tcmp_lt_trans (y := y) (by omega) (by have := (List.pairwise_cons.1 r2).1 x hx; omega)
  refine ⟨?_, fun v => ?_⟩
  · unfold Rising
    refine List.pairwise_append.2 ⟨List.pairwise_append.2 ⟨r1, List.pairwise_singleton _ _, fun x hx y hy => by rw [List.mem_singleton] at hy; subst hy; exact h1 x hx⟩, r2, fun x hx y hy => ?_⟩
    rcases List.mem_append.1 hx with hx | hx
    · exact r3 x hx y hy
    · rw [List.mem_singleton] at hx; subst hx; exact hM2 y hy
  · have q := h.mem v
    rw [List.mem_append] at q
    rw [List.mem_append, List.mem_append, List.mem_singleton, take_mem_succ hi]
    constructor
    · rintro ((a | rfl) | a)
      · have := q.1 (.inl a); exact ⟨this.1, .inl this.2⟩
      · exact ⟨hl, .inr rfl⟩
      · have := q.1 (.inr a); exact ⟨this.1, .inl this.2⟩
    · rintro ⟨a, b | rfl⟩
      · rcases q.2 ⟨a, b⟩ with z | z
        · exact .inl (.inl z)
        · exact .inr z
      · exact .inl (.inr rfl)
/-! ### the antichain as a function -/
def insT (v : TV) : List TV → List TV
  | [] => [v]
  | m :: r => if tcmp v m < 0 then v :: m :: r else if tcmp v m = 0 then m :: r else m :: insT v r
theorem insT_mem (v x : TV) : ∀ M, x ∈ insT v M ↔ x = v ∨ x ∈ M
  | [] => by simp [insT]
  | m :: r => by
    unfold insT
    split
    · simp
    · split
      · rename_i h
        rw [tcmp_zero.1 h]
        simp
      · simp only [List.mem_cons, insT_mem v x r]
        constructor
        · rintro (h | h | h)
          · exact .inr (.inl h)
          · exact .inl h
          · exact .inr (.inr h)
        · rintro (h | h | h)
          · exact .inr (.inl h)
          · exact .inl h
          · exact .inr (.inr h)
theorem insT_rising (v : TV) : ∀ {M}, Rising M → Rising (insT v M)
  | [], _ => List.pairwise_singleton _ _
  | m :: r, h => by
    unfold Rising at h
    obtain ⟨h1, h2⟩ := List.pairwise_cons.1 h
    unfold insT
    split
    · rename_i hv
      exact List.pairwise_cons.2 ⟨fun y hy => by
        rcases List.mem_cons.1 hy with rfl | hy
        · exact hv
        · exact tcmp_lt_trans hv (by have := h1 y hy; omega), h⟩
    · split
      · exact h
      · rename_i q1 q2
        have q3 := tcmp_neg m v
        exact List.pairwise_cons.2 ⟨fun y hy => by
          rcases (insT_mem v y r).1 hy with rfl | hy
          · omega
          · exact h1 y hy, insT_rising v h2⟩
instance (L : List TV) (v : TV) : Decidable (Least L v) := by unfold Least; exact inferInstance
def ofV (L : List TV) : List TV := (L.filter fun v => decide (Least L v)).foldr insT []
theorem foldr_ins : ∀ (L : List TV), Rising (L.foldr insT []) ∧ ∀ x, x ∈ L.foldr insT [] ↔ x ∈ L
  | [] => ⟨List.Pairwise.nil, fun _ => Iff.rfl⟩
  | v :: L => by
    have ih := foldr_ins L
    rw [List.foldr_cons]
    refine ⟨insT_rising v ih.1, fun x => ?_⟩
    rw [insT_mem, ih.2 x, List.mem_cons]
theorem ofV_is (L : List TV) : IsOf L (ofV L) := by
  have h := foldr_ins (L.filter fun v => decide (Least L v))
  refine ⟨h.1, fun v => ?_⟩
  unfold ofV
  rw [h.2 v, List.mem_filter, decide_eq_true_iff]
  exact ⟨fun q => q.2, fun q => ⟨q.1, q⟩⟩
theorem IsOf.eq {L M : List TV} (h : IsOf L M) : M = ofV L := h.unique (ofV_is L)
theorem ofV_congr {L L' : List TV} (h : ∀ v, v ∈ L ↔ v ∈ L') : ofV L = ofV L' := ((ofV_is L).congr h).eq
theorem beyond_ofV (L : List TV) (t : TV) : beyondV (ofV L) t = beyondV L t := by
  rw [Bool.eq_iff_iff, beyond_iff, beyond_iff]
  constructor
  · rintro ⟨x, hx, h⟩
    exact ⟨x, (((ofV_is L).mem x).1 hx).1, h⟩
  · rintro ⟨x, hx, h⟩
    obtain ⟨m, h1, h2⟩ := least_below _ L x (Nat.le_refl _) hx
    exact ⟨m, ((ofV_is L).mem m).2 h1, tleq_trans h2 h⟩
end Go.Proofs.YtdgbkpoickbidaaGreatDoor
namespace Go.Proofs.YtdgbkpoickbidaaGreatDoor
open Go.RowKit

theorem run_append_two {P : Program} (w : World) {t ty e size bytes : Nat} {z : Value} (E : Elem P t e size bytes z) (base : Nat)
    (A0 : Option Addr) (n c0 : Nat) (xs : List Value) (hown : Own w base e size A0 n c0 xs)
    (A : Option Addr) (m c : Nat) (news : List Value) (hr : Sl w size A m c news) (h1 : ∀ u ∈ news, u.oneCell' = true)
    (hbytes : (n + m) * bytes ≤ 140737488355328) (hb1 : 0 < bytes) (hbase : base ≤ w.heap.size) :
    ∃ A' c' w', (Builtin.append_ #[t, t] ty #[.slice A0 n c0, .slice A m c]).run P w = .ok (.slice A' (n + m) c') w' ∧ Own w' base e size A' (n + m) c' (xs ++ news) ∧ w.grownBy w' (blk A0 c0) ∧
      ((A' = A0 ∧ c' = c0) ∨ (blk A' c' = some w.heap.size ∧ Ext w w')) := by
  obtain ⟨i, hi, hz, hs, hby⟩ := info_parts E.info
  have h63 : n + m ≤ maxLen := by
    have : n + m ≤ (n + m) * bytes := Nat.le_mul_of_pos_right _ hb1
    unfold maxLen; omega
  rcases Nat.eq_zero_or_pos m with hm | hm
  · subst hm
    have hnews : news = [] := List.eq_nil_of_length_eq_zero (by simpa using hr.1)
    subst hnews
    exact ⟨_, _, w, run_append_nothing w E A0 n c0 hown.le.1 A c, by simpa using hown, World.grownBy.refl w _, .inl ⟨rfl, rfl⟩⟩
  · obtain ⟨ad, rfl, hcells⟩ := hr.2.2.2.2 hm
    rcases hown.2 with ⟨rfl, rfl⟩ | ⟨g, cur, rfl, hb, hg, hnc, hcm, hcs, htake⟩
    · have hx : xs = [] := List.eq_nil_of_length_eq_zero (by simpa using hown.1)
      subst hx
      have hge := grownCap_ge w (0 + m) 0 e
      have hcm : grownCap w (0 + m) 0 e ≤ maxLen := grownCap_le_maxLen w (0 + m) 0 e h63
      obtain ⟨kk, hk⟩ : ∃ k, grownCap w (0 + m) 0 e = k + 1 := ⟨_, (Nat.succ_pred_eq_of_pos (by omega)).symm⟩
      have hfin : Own (w.drew.alloc (.cells ((#[] : Array Value) ++ news.toArray ++ Builtin.zeroCells z.cells (grownCap w (0 + m) 0 e - (0 + m))) e)) base e size (some ⟨w.heap.size, 0, none⟩) (0 + m) (grownCap w (0 + m) 0 e) ([] ++ news) := by
        refine ⟨by simpa using hr.1, .inr ⟨w.heap.size, _, rfl, hbase, heap_alloc_new w.drew _, hge, hcm, ?_, ?_⟩⟩
        · refine Nat.le_of_eq (Eq.symm ?_)
          simp only [Array.size_append, List.size_toArray, size_zeroCells, E.zsize, hr.1, List.length_nil, Nat.zero_add, ← Nat.add_mul]
          congr 1
          simp only [Nat.zero_add] at hge
          omega
        · have hlen : ([] ++ news).length = (0 + m) * size := by simpa using hr.1
          simp only [Array.toList_append, List.append_assoc]
          rw [← List.append_assoc, ← hlen]
          exact List.take_left
      cases A0 with
      | none =>
        have hr2 := run_append_nil (P := P) w t ty e i z E.under hi hz ad m c news (by rw [hs]; exact hr.1) hcells hm (by unfold maxLen at h63; omega) (by rw [hby]; simp only [Nat.zero_add] at hbytes; omega)
        simp only [Nat.zero_add, List.nil_append, Array.empty_append] at hfin hk ⊢
        refine ⟨_, _, _, hr2, hfin, ⟨rfl, rfl, rfl, by simp, fun k hk _ => Below.heap_alloc w.drew _ k hk⟩, .inr ⟨?_, ((Ext.refl w).drew).alloc _⟩⟩
        rw [hk]; rfl
      | some b =>
        have hr2 := run_append_grow (P := P) w t ty e i z E.under hi hz b 0 0 [] (by simp) (by simp) ad m c news (by rw [hs]; exact hr.1) hcells (by omega) (by unfold maxLen at h63; omega) (by rw [hby]; exact growslice_fits (by omega) hbytes)
        refine ⟨_, _, _, hr2, hfin, ⟨rfl, rfl, rfl, by simp, fun k hk _ => Below.heap_alloc w.drew _ k hk⟩, .inr ⟨?_, ((Ext.refl w).drew).alloc _⟩⟩
        rw [hk]; rfl
    · have hlen : (xs ++ news).length = (n + m) * size := by rw [List.length_append, hown.1, hr.1, Nat.add_mul]
      by_cases hroom : n + m ≤ c0
      · have hfit : n * i.size + news.length ≤ cur.size := by rw [hr.1, hs, ← Nat.add_mul]; exact Nat.le_trans (Nat.mul_le_mul_right _ hroom) hcs
        have hr2 := run_append_room (P := P) w t ty e i E.under hi g n c0 cur hg ad m c news (by rw [hs]; exact hr.1) hcells h1 hroom hfit
        refine ⟨_, _, _, hr2, ⟨hlen, .inr ⟨g, _, rfl, hb, setRow_heap w g cur _ e _ hg, hroom, hcm, ?_, ?_⟩⟩, ⟨rfl, rfl, rfl, by simp, fun k _ hk => setRow_other w g k _ (fun e' => hk (by
          obtain ⟨c1, rfl⟩ : ∃ c1, c0 = c1 + 1 := ⟨c0 - 1, by omega⟩
          simp [blk, e']))⟩, .inl ⟨rfl, rfl⟩⟩
        · simp only [List.size_toArray, List.length_append, List.length_take, List.length_drop, Array.length_toList]
          omega
        · rw [hs, htake, ← hlen]
          exact List.take_left
      · have holds : ∀ j u, xs[j]? = some u → w.cell? ((⟨g, 0, none⟩ : Addr).add j) = some u := head_cells hg htake
        have hr2 := run_append_grow (P := P) w t ty e i z E.under hi hz ⟨g, 0, none⟩ n c0 xs (by rw [hs]; exact hown.1) holds ad m c news (by rw [hs]; exact hr.1) hcells (by omega) (by unfold maxLen at h63; omega) (by rw [hby]; exact growslice_fits (by omega) hbytes)
        have hge := grownCap_ge w (n + m) c0 e
        have hcm : grownCap w (n + m) c0 e ≤ maxLen := grownCap_le_maxLen w (n + m) c0 e h63
        refine ⟨_, _, _, hr2, ⟨hlen, .inr ⟨w.heap.size, _, rfl, hbase, heap_alloc_new w.drew _, hge, hcm, ?_, ?_⟩⟩, ⟨rfl, rfl, rfl, by simp, fun k hk _ => Below.heap_alloc w.drew _ k hk⟩, .inr ⟨?_, ((Ext.refl w).drew).alloc _⟩⟩
        · refine Nat.le_of_eq (Eq.symm ?_)
          simp only [Array.size_append, List.size_toArray, size_zeroCells, E.zsize, hr.1, hown.1, ← Nat.add_mul]
          congr 1
          omega
        · simp only [Array.toList_append, List.append_assoc]
          rw [← List.append_assoc, ← hlen]
          exact List.take_left
        · obtain ⟨kk, hk⟩ : ∃ k, grownCap w (n + m) c0 e = k + 1 := ⟨_, (Nat.succ_pred_eq_of_pos (by omega)).symm⟩
          rw [hk]; rfl

theorem wp_append_two {P : Program} (w : World) {o : Oper} {a : Act} {K : Act → World → Prop} {Q : Exit → Act → World → Prop} {t e size bytes : Nat} {z : Value} (E : Elem P t e size bytes z) (base : Nat) (s x : Operand)
    (ho : o.op = .call { callee := .builtin .append, args := #[s, x], argTypes := #[t, t] })
    (A0 : Option Addr) (n c0 : Nat) (xs : List Value) (hs : a.eval s = .slice A0 n c0) (hown : Own w base e size A0 n c0 xs)
    (A : Option Addr) (m c : Nat) (news : List Value) (hx : a.eval x = .slice A m c) (hr : Sl w size A m c news) (h1 : ∀ u ∈ news, u.oneCell' = true)
    (hbytes : (n + m) * bytes ≤ 140737488355328) (hb1 : 0 < bytes) (hbase : base ≤ w.heap.size)
    (h : ∀ A' c' w', Own w' base e size A' (n + m) c' (xs ++ news) → w.grownBy w' (blk A0 c0) → ((A' = A0 ∧ c' = c0) ∨ (blk A' c' = some w.heap.size ∧ Ext w w')) → K (a.put o.dst (.slice A' (n + m) c')) w') : o.wp P a w K Q := by
  obtain ⟨A', c', w', hrun, h2, h3, h4⟩ := run_append_two (P := P) (ty := o.type) w E base A0 n c0 xs hown A m c news hr h1 hbytes hb1 hbase
  unfold Oper.wp execOp
  simp only [ho, resolve, invoke, builtin, Sem.run_bind, Sem.run_pure, Result.andThen_ok, List.map_toArray, List.map_cons, List.map_nil, hs, hx, hrun]
  exact h A' c' w' h2 h3 h4

/-- append, in a plain region -/
theorem wpList_append_two {P : Program} (w : World) {ops : Array Oper} {rest : List Oper} {o : Oper} {a : Act} {Q : Exit → Act → World → Prop} {t e size bytes : Nat} {z : Value} (E : Elem P t e size bytes z) (base : Nat) (s x : Operand)
    (ho : o.op = .call { callee := .builtin .append, args := #[s, x], argTypes := #[t, t] }) (hgd : o.guard = none)
    (A0 : Option Addr) (n c0 : Nat) (xs : List Value) (hs : a.eval s = .slice A0 n c0) (hown : Own w base e size A0 n c0 xs)
    (A : Option Addr) (m c : Nat) (news : List Value) (hx : a.eval x = .slice A m c) (hr : Sl w size A m c news) (h1 : ∀ u ∈ news, u.oneCell' = true)
    (hbytes : (n + m) * bytes ≤ 140737488355328) (hb1 : 0 < bytes) (hbase : base ≤ w.heap.size)
    (h : ∀ A' c' w', Own w' base e size A' (n + m) c' (xs ++ news) → w.grownBy w' (blk A0 c0) → ((A' = A0 ∧ c' = c0) ∨ (blk A' c' = some w.heap.size ∧ Ext w w')) → wpList P ops Q rest (a.put o.dst (.slice A' (n + m) c')) w') : wpList P ops Q (o :: rest) a w :=
  wpList_plain hgd fun _ hK => wp_append_two w E base s x ho A0 n c0 xs hs hown A m c news hx hr h1 hbytes hb1 hbase fun A' c' w' h2 h3 h4 => hK _ _ (h A' c' w' h2 h3 h4)

end Go.Proofs.YtdgbkpoickbidaaGreatDoor
namespace Go.Proofs.YtdgbkpoickbidaaGreatDoor
open Go.RowKit

/-! ### writes to some blocks -/
/-- w' is w but for the blocks that S tells, and new ones -/
structure Upd (S : Nat → Prop) (w w' : World) : Prop where
  os : w'.os = w.os
  tape : w'.tape = w.tape
  output : w'.output = w.output
  size : w.heap.size ≤ w'.heap.size
  block : ∀ k, k < w.heap.size → ¬ S k → w'.heap[k]? = w.heap[k]?
theorem Upd.refl (S : Nat → Prop) (w : World) : Upd S w w := ⟨rfl, rfl, rfl, Nat.le_refl _, fun _ _ _ => rfl⟩
theorem Upd.ext {S : Nat → Prop} {w w' : World} (x : Ext w w') : Upd S w w' := ⟨Below.os x, Below.tape x, Below.output x, Ext.size x, fun k hk _ => Below.block x k hk⟩
theorem Upd.mono {S T : Nat → Prop} {w w' : World} (h : Upd S w w') (hs : ∀ k, k < w.heap.size → S k → T k) : Upd T w w' := ⟨h.os, h.tape, h.output, h.size, fun k hk hn => h.block k hk (fun q => hn (hs k hk q))⟩
theorem Upd.trans {S : Nat → Prop} {a b c : World} (h : Upd S a b) (k : Upd S b c) : Upd S a c :=
  ⟨k.os.trans h.os, k.tape.trans h.tape, k.output.trans h.output, Nat.le_trans h.size k.size, fun q hq hn => (k.block q (Nat.lt_of_lt_of_le hq h.size) hn).trans (h.block q hq hn)⟩
theorem Upd.setCell {S : Nat → Prop} {a w : World} (h : Upd S a w) {p : Addr} (hp : S p.block ∨ a.heap.size ≤ p.block) (u : Value) : Upd S a (w.setCell p u) := by
  refine ⟨h.os, h.tape, h.output, by simpa using h.size, fun k hk hn => ?_⟩
  rw [Below.heap_setCell _ _ _ _ (fun e => by
    rcases hp with hp | hp
    · exact hn (e ▸ hp)
    · omega)]
  exact h.block k hk hn
theorem Upd.alloc {S : Nat → Prop} {a w : World} (h : Upd S a w) (o : Obj) : Upd S a (w.alloc o) := h.trans (Upd.ext ((Ext.refl w).alloc o))
theorem Upd.grown {S : Nat → Prop} {a w w' : World} {row : Option Nat} (h : Upd S a w) (g : w.grownBy w' row) (hr : ∀ k, row = some k → S k ∨ a.heap.size ≤ k) : Upd S a w' :=
  ⟨g.os.trans h.os, g.tape.trans h.tape, g.output.trans h.output, Nat.le_trans h.size g.size, fun k hk hn => (g.block k (Nat.lt_of_lt_of_le hk h.size) (fun e => by
    rcases hr k e.symm with q | q
    · exact hn q
    · omega)).trans (h.block k hk hn)⟩
theorem cell_of_heap {w w' : World} {p : Addr} (h : w'.heap[p.block]? = w.heap[p.block]?) : w'.cell? p = w.cell? p := by unfold World.cell?; rw [h]
theorem Upd.cell {S : Nat → Prop} {w w' : World} (h : Upd S w w') {p : Addr} {u : Value} (hn : ¬ S p.block) (hc : w.cell? p = some u) : w'.cell? p = some u :=
  (cell_of_heap (h.block p.block (World.block_lt_of_cell? w p hc) hn)).trans hc
theorem Sl.upd {S : Nat → Prop} {w w' : World} {size n c : Nat} {A : Option Addr} {xs : List Value} (h : Sl w size A n c xs) (x : Upd S w w') (hn : ∀ k, blk A c = some k → ¬ S k) : Sl w' size A n c xs := by
  refine ⟨h.1, h.2.1, h.2.2.1, h.2.2.2.1, fun h0 => ?_⟩
  obtain ⟨ad, rfl, hc⟩ := h.2.2.2.2 h0
  refine ⟨ad, rfl, fun j u hu => x.cell ?_ (hc j u hu)⟩
  rw [block_add]
  refine hn ad.block ?_
  have := h.2.1
  cases c with
  | zero => omega
  | succ c => rfl
theorem Own.upd {S : Nat → Prop} {w w' : World} {B size n c : Nat} {e : TypeId} {A : Option Addr} {xs : List Value} (h : Own w B e size A n c xs) (x : Upd S w w') (hn : ∀ k, blk A c = some k → ¬ S k) : Own w' B e size A n c xs := by
  refine ⟨h.1, ?_⟩
  rcases h.2 with hz | ⟨g, cur, rfl, hb, hg, rest⟩
  · exact .inl hz
  · cases c with
    | zero =>
      obtain ⟨h1, _⟩ := rest
      exact .inl ⟨rfl, by omega⟩
    | succ c =>
      refine .inr ⟨g, cur, rfl, hb, ?_, rest⟩
      rw [x.block g (Array.getElem?_eq_some_iff.1 hg).1 (hn g rfl)]
      exact hg
/-! ### lists of lists -/
/-- a slice's header -/
structure En where
  A : Option Addr
  n : Nat
  c : Nat
def En.v (x : En) : Value := .slice x.A x.n x.c
def En.b (x : En) : Option Nat := blk x.A x.c
def En.zero : En := ⟨none, 0, 0⟩
def ensC (L : List En) : List Value := L.map En.v
theorem ensC_len (L : List En) : (ensC L).length = L.length := List.length_map ..
theorem ensC_one (L : List En) : ∀ u ∈ ensC L, u.oneCell' = true := fun u hu => by obtain ⟨x, _, rfl⟩ := List.mem_map.1 hu; rfl
theorem ensC_append (L M : List En) : ensC (L ++ M) = ensC L ++ ensC M := List.map_append
def ena (L : List En) (i : Nat) : En := L.getD i En.zero
theorem ensC_at {L : List En} {i : Nat} (h : i < L.length) : (ensC L)[i]? = some (ena L i).v := by
  unfold ensC ena
  rw [List.getElem?_map, List.getD_eq_getElem?_getD, List.getElem?_eq_getElem h]
  rfl
theorem ens_cell {w : World} {A : Option Addr} {n c : Nat} {L : List En} (h : Sl w 1 A n c (ensC L)) {i : Nat} (hi : i < n) : ∃ ad, A = some ad ∧ w.cell? (ad.add i) = some (ena L i).v := by
  have hl := h.1
  rw [ensC_len, Nat.mul_one] at hl
  obtain ⟨ad, e, hc⟩ := h.2.2.2.2 (by omega)
  exact ⟨ad, e, hc i _ (ensC_at (by omega))⟩
theorem ena_append_old {L : List En} {x : En} {i : Nat} (h : i < L.length) : ena (L ++ [x]) i = ena L i := by
  unfold ena
  rw [List.getD_eq_getElem?_getD, List.getElem?_append_left h, List.getD_eq_getElem?_getD]
theorem ena_append_new (L : List En) (x : En) : ena (L ++ [x]) L.length = x := by
  unfold ena
  rw [List.getD_eq_getElem?_getD, List.getElem?_append_right (Nat.le_refl _), Nat.sub_self]
  rfl
section
variable (mk : Int → Nat → List Value) (size : Nat)
/-- so many marks -/
def marks_ (i : Int) (n : Nat) : List Value := (List.range n).flatMap (mk i)
variable {mk size}
theorem marks_zero (i : Int) : marks_ mk i 0 = [] := rfl
theorem marks_succ (i : Int) (n : Nat) : marks_ mk i (n + 1) = marks_ mk i n ++ mk i n := by
  unfold marks_
  rw [List.range_succ, List.flatMap_append, List.flatMap_singleton]
theorem marks_len (hs : ∀ i k, (mk i k).length = size) (i : Int) : ∀ n, (marks_ mk i n).length = n * size
  | 0 => by simp [marks_]
  | n + 1 => by rw [marks_succ, List.length_append, marks_len hs i n, hs, Nat.succ_mul]
theorem marks_at' (hs : ∀ i k, (mk i k).length = size) (i : Int) {q : Nat} (hq : q < size) : ∀ (n k : Nat), k < n → (marks_ mk i n)[k * size + q]? = (mk i k)[q]?
  | 0, k, h => by omega
  | n + 1, k, h => by
    rw [marks_succ]
    by_cases hk : k < n
    · rw [List.getElem?_append_left, marks_at' hs i hq n k hk]
      rw [marks_len hs]
      have : (k + 1) * size ≤ n * size := Nat.mul_le_mul_right _ hk
      rw [Nat.succ_mul] at this
      omega
    · have e : k = n := by omega
      subst e
      rw [List.getElem?_append_right (by rw [marks_len hs]; omega), marks_len hs, Nat.add_sub_cancel_left]
end
/-- the lists, each in a block of its own that lies from B on -/
structure Lists (w : World) (B : Nat) (e : TypeId) (size : Nat) (L : List En) (f : Nat → List Value) : Prop where
  own : ∀ i, i < L.length → Own w B e size (ena L i).A (ena L i).n (ena L i).c (f i)
  apart : ∀ i j, i < L.length → j < L.length → i ≠ j → ∀ k, (ena L i).b = some k → (ena L j).b ≠ some k
/-- the blocks that the lists lie in -/
def Foot (L : List En) (k : Nat) : Prop := ∃ i, i < L.length ∧ (ena L i).b = some k
theorem Lists.foot_lt {w : World} {B : Nat} {e : TypeId} {size : Nat} {L : List En} {f : Nat → List Value} (h : Lists w B e size L f) {k : Nat} (hk : Foot L k) : B ≤ k ∧ k < w.heap.size := by
  obtain ⟨i, hi, hb⟩ := hk
  exact (h.own i hi).lt k hb
theorem Lists.upd {S : Nat → Prop} {w w' : World} {B : Nat} {e : TypeId} {size : Nat} {L : List En} {f : Nat → List Value} (h : Lists w B e size L f) (x : Upd S w w') (hn : ∀ k, Foot L k → ¬ S k) : Lists w' B e size L f :=
  ⟨fun i hi => (h.own i hi).upd x (fun k hk => hn k ⟨i, hi, hk⟩), h.apart⟩
theorem Lists.nil (w : World) (B : Nat) (e : TypeId) (size : Nat) (f : Nat → List Value) : Lists w B e size [] f := ⟨fun i hi => by simp at hi, fun i j hi => by simp at hi⟩
/-! ### the first phase: marks are written -/
structure Ph1 (mk : Int → Nat → List Value) (w wr : World) (B : Nat) (e : TypeId) (size : Nat) (L : List En) (i : Nat) (f : Nat → List Value) : Prop where
  ls : Lists wr B e size L f
  done : ∀ j, j < i → j < L.length → f j = marks_ mk j (ena L j).n
  upd : Upd (Foot L) w wr
/-- within an entry -/
structure Ph1I (mk : Int → Nat → List Value) (w wr : World) (B : Nat) (e : TypeId) (size : Nat) (L : List En) (i k : Nat) (f : Nat → List Value) : Prop where
  ph : Ph1 mk w wr B e size L i f
  part : (f i).take (k * size) = marks_ mk i k
theorem Ph1.enter {mk : Int → Nat → List Value} {w wr : World} {B : Nat} {e : TypeId} {size : Nat} {L : List En} {i : Nat} {f : Nat → List Value} (h : Ph1 mk w wr B e size L i f) : Ph1I mk w wr B e size L i 0 f := ⟨h, by rw [Nat.zero_mul]; rfl⟩
theorem Ph1I.leave {mk : Int → Nat → List Value} {w wr : World} {B : Nat} {e : TypeId} {size : Nat} {L : List En} {i : Nat} {f : Nat → List Value} (h : Ph1I mk w wr B e size L i (ena L i).n f) (hi : i < L.length) : Ph1 mk w wr B e size L (i + 1) f := by
  refine ⟨h.ph.ls, fun j hj hjl => ?_, h.ph.upd⟩
  by_cases hij : j < i
  · exact h.ph.done j hij hjl
  · have : j = i := by omega
    subst this
    have hl := (h.ph.ls.own j hi).1
    have := h.part
    rwa [← hl, List.take_length] at this
/-- a store into one of the lists -/
theorem Lists.put {w : World} {B : Nat} {e : TypeId} {size : Nat} {L : List En} {f : Nat → List Value} (h : Lists w B e size L f) {i g : Nat} (hi : i < L.length) (hA : (ena L i).A = some ⟨g, 0, none⟩) (hc : 0 < (ena L i).c) (q : Nat) (u : Value) :
    Lists (w.setCell ⟨g, q, none⟩ u) B e size L (fun j => if j = i then (f i).set q u else f j) := by
  have hb : (ena L i).b = some g := by
    unfold En.b
    rw [hA]
    generalize (ena L i).c = c at hc
    cases c with
    | zero => omega
    | succ c => rfl
  refine ⟨fun j hj => ?_, h.apart⟩
  by_cases hji : j = i
  · subst hji
    rw [if_pos rfl]
    have o := h.own j hi
    rw [hA] at o ⊢
    exact o.put q u
  · rw [if_neg hji]
    exact (h.own j hj).far (p := ⟨g, q, none⟩) (fun e => h.apart i j hi hj (Ne.symm hji) g hb e) u
theorem set_take {xs : List Value} {k : Nat} (h : k < xs.length) (u : Value) : (xs.set k u).take (k + 1) = xs.take k ++ [u] := by
  rw [List.take_succ_eq_append_getElem (by rw [List.length_set]; exact h), List.take_set_of_le (Nat.le_refl k), List.getElem_set_self]
theorem Ph1I.put1 {mk : Int → Nat → List Value} {w wr : World} {B : Nat} {e : TypeId} {L : List En} {i k g : Nat} {f : Nat → List Value} (h : Ph1I mk w wr B e 1 L i k f) (hi : i < L.length) (hk : k < (ena L i).n) (hA : (ena L i).A = some ⟨g, 0, none⟩) (hm : (ena L i).b = some g) {u : Value} (hu : mk i k = [u]) :
    ∃ f', Ph1I mk w (wr.setCell ⟨g, k, none⟩ u) B e 1 L i (k + 1) f' := by
  have hl := (h.ph.ls.own i hi).1
  have hc : 0 < (ena L i).c := by have := (h.ph.ls.own i hi).le.1; omega
  refine ⟨_, ⟨h.ph.ls.put hi hA hc k u, fun j hj hjl => ?_, h.ph.upd.setCell (.inl ⟨i, hi, hm⟩) u⟩, ?_⟩
  · rw [if_neg (by omega)]
    exact h.ph.done j hj hjl
  · rw [if_pos rfl, Nat.mul_one, set_take (by rw [hl]; omega), marks_succ, hu]
    have := h.part
    rw [Nat.mul_one] at this
    rw [this]
theorem Ph1I.put2 {mk : Int → Nat → List Value} {w wr : World} {B : Nat} {e : TypeId} {L : List En} {i k g : Nat} {f : Nat → List Value} (h : Ph1I mk w wr B e 2 L i k f) (hi : i < L.length) (hk : k < (ena L i).n) (hA : (ena L i).A = some ⟨g, 0, none⟩) (hm : (ena L i).b = some g) {u v : Value} (hu : mk i k = [u, v]) :
    ∃ f', Ph1I mk w ((wr.setCell ⟨g, k * 2, none⟩ u).setCell ⟨g, k * 2 + 1, none⟩ v) B e 2 L i (k + 1) f' := by
  have hl := (h.ph.ls.own i hi).1
  have hc : 0 < (ena L i).c := by have := (h.ph.ls.own i hi).le.1; omega
  refine ⟨_, ⟨(h.ph.ls.put hi hA hc (k * 2) u).put hi hA hc (k * 2 + 1) v, fun j hj hjl => ?_, (h.ph.upd.setCell (.inl ⟨i, hi, hm⟩) u).setCell (.inl ⟨i, hi, hm⟩) v⟩, ?_⟩
  · rw [if_neg (by omega), if_neg (by omega)]
    exact h.ph.done j hj hjl
  · rw [if_pos rfl, if_pos rfl, show (k + 1) * 2 = k * 2 + 1 + 1 by omega, set_take (by rw [List.length_set, hl]; omega), set_take (by rw [hl]; omega), h.part, marks_succ, hu, List.append_assoc]
    rfl
theorem Ph1I.put4 {mk : Int → Nat → List Value} {w wr : World} {B : Nat} {e : TypeId} {L : List En} {i k g : Nat} {f : Nat → List Value} (h : Ph1I mk w wr B e 4 L i k f) (hi : i < L.length) (hk : k < (ena L i).n) (hA : (ena L i).A = some ⟨g, 0, none⟩) (hm : (ena L i).b = some g) {u v x y : Value} (hu : mk i k = [u, v, x, y]) :
    ∃ f', Ph1I mk w ((((wr.setCell ⟨g, k * 4, none⟩ u).setCell ⟨g, k * 4 + 1, none⟩ v).setCell ⟨g, k * 4 + 2, none⟩ x).setCell ⟨g, k * 4 + 3, none⟩ y) B e 4 L i (k + 1) f' := by
  have hl := (h.ph.ls.own i hi).1
  have hc : 0 < (ena L i).c := by have := (h.ph.ls.own i hi).le.1; omega
  refine ⟨_, ⟨(((h.ph.ls.put hi hA hc (k * 4) u).put hi hA hc (k * 4 + 1) v).put hi hA hc (k * 4 + 2) x).put hi hA hc (k * 4 + 3) y, fun j hj hjl => ?_, (((h.ph.upd.setCell (.inl ⟨i, hi, hm⟩) u).setCell (.inl ⟨i, hi, hm⟩) v).setCell (.inl ⟨i, hi, hm⟩) x).setCell (.inl ⟨i, hi, hm⟩) y⟩, ?_⟩
  · rw [if_neg (by omega), if_neg (by omega), if_neg (by omega), if_neg (by omega)]
    exact h.ph.done j hj hjl
  · simp only [↓reduceIte]
    rw [show (k + 1) * 4 = k * 4 + 3 + 1 by omega, set_take (by simp only [List.length_set, hl]; omega), set_take (by simp only [List.length_set, hl]; omega), set_take (by simp only [List.length_set, hl]; omega), set_take (by rw [hl]; omega), h.part, marks_succ, hu]
    simp
/-! ### the second phase: each grows -/
structure Ph2 (mk : Int → Nat → List Value) (w1 wr : World) (B : Nat) (e T : TypeId) (size : Nat) (L : List En) (i : Nat) (G : List En) (LA : Option Addr) (lc : Nat) : Prop where
  len : G.length = i
  lst : Own wr w1.heap.size T 1 LA i lc (ensC G)
  rest : ∀ j, i ≤ j → j < L.length → Own wr B e size (ena L j).A (ena L j).n (ena L j).c (marks_ mk j (ena L j).n)
  read : ∀ j, j < i → Sl wr size (ena L j).A (ena L j).n (ena L j).c (marks_ mk j (ena L j).n)
  long : ∀ j, j < i → (ena G j).n = (ena L j).n + 8 ∧ Own wr B e size (ena G j).A (ena G j).n (ena G j).c (marks_ mk j (ena L j).n ++ marks_ mk (-1 - j) 8)
  at_ : ∀ j, j < i → ∀ k, (ena G j).b = some k → (ena L j).b = some k ∨ (w1.heap.size ≤ k ∧ blk LA lc ≠ some k)
  foot : ∀ k, Foot L k → k < w1.heap.size
  apart : ∀ i j, i < L.length → j < L.length → i ≠ j → ∀ k, (ena L i).b = some k → (ena L j).b ≠ some k
  upd : Upd (Foot L) w1 wr
theorem Ph2.start {mk : Int → Nat → List Value} {w wr : World} {B : Nat} {e : TypeId} {size : Nat} {L : List En} {f : Nat → List Value} (T : TypeId) (h : Ph1 mk w wr B e size L L.length f) : Ph2 mk wr wr B e T size L 0 [] none 0 :=
  ⟨rfl, Own.nil _ _ _ _, fun j _ hj => by have := h.ls.own j hj; rwa [h.done j hj hj] at this, fun j hj => by omega, fun j hj => by omega, fun j hj => by omega, fun k hk => (h.ls.foot_lt hk).2, h.ls.apart, Upd.refl _ _⟩
/-- within an entry: x is being grown -/
structure Ph2I (mk : Int → Nat → List Value) (w2 wr : World) (B : Nat) (e : TypeId) (size : Nat) (L : List En) (i k : Nat) (A : Option Addr) (c : Nat) : Prop where
  own : Own wr B e size A ((ena L i).n + k) c (marks_ mk i (ena L i).n ++ marks_ mk (-1 - i) k)
  at_ : (A = (ena L i).A ∧ c = (ena L i).c) ∨ ∃ q, blk A c = some q ∧ w2.heap.size ≤ q
  read : Sl wr size (ena L i).A (ena L i).n (ena L i).c (marks_ mk i (ena L i).n)
  lt : ∀ q, (ena L i).b = some q → q < w2.heap.size
  upd : Upd (fun q => (ena L i).b = some q) w2 wr
theorem Ph2.enter {mk : Int → Nat → List Value} {w1 wr : World} {B : Nat} {e T : TypeId} {size : Nat} {L : List En} {i : Nat} {G : List En} {LA : Option Addr} {lc : Nat} (h : Ph2 mk w1 wr B e T size L i G LA lc) (hi : i < L.length) : Ph2I mk wr wr B e size L i 0 (ena L i).A (ena L i).c := by
  have o := h.rest i (Nat.le_refl _) hi
  exact ⟨by rw [marks_zero, List.append_nil]; exact o, .inl ⟨rfl, rfl⟩, o.sl, fun q hq => (o.lt q hq).2, Upd.refl _ _⟩
theorem Ph2I.step {mk : Int → Nat → List Value} {w2 wr w3 : World} {B : Nat} {e : TypeId} {size : Nat} {L : List En} {i k : Nat} {A A3 : Option Addr} {c c3 : Nat} (h : Ph2I mk w2 wr B e size L i k A c) (hs : ∀ i k, (mk i k).length = size) (ob : Obj)
    (o3 : Own w3 B e size A3 ((ena L i).n + k + 1) c3 (marks_ mk i (ena L i).n ++ marks_ mk (-1 - i) k ++ mk (-1 - i) k)) (g3 : (wr.alloc ob).grownBy w3 (blk A c)) (x3 : (A3 = A ∧ c3 = c) ∨ (blk A3 c3 = some (wr.alloc ob).heap.size ∧ Ext (wr.alloc ob) w3)) : Ph2I mk w2 w3 B e size L i (k + 1) A3 c3 := by
  have hsz : w2.heap.size ≤ (wr.alloc ob).heap.size := Nat.le_trans h.upd.size ((Ext.refl wr).alloc ob).size
  have hin : ∀ q, blk A c = some q → (ena L i).b = some q ∨ w2.heap.size ≤ q := fun q hq => by
    rcases h.at_ with ⟨rfl, rfl⟩ | ⟨q', h1, h2⟩
    · exact .inl hq
    · rw [h1] at hq; injection hq with hq; exact .inr (by omega)
  refine ⟨by rw [marks_succ, ← List.append_assoc]; exact o3, ?_, ?_, h.lt, (h.upd.alloc ob).grown g3 hin⟩
  · rcases x3 with ⟨rfl, rfl⟩ | ⟨h1, _⟩
    · exact h.at_
    · exact .inr ⟨_, h1, hsz⟩
  · have key : A3 = (ena L i).A → c3 = (ena L i).c → Sl w3 size (ena L i).A (ena L i).n (ena L i).c (marks_ mk i (ena L i).n) := fun ea ec => by
      have := Sl.take (k := (ena L i).n) o3.sl (by omega)
      rw [List.append_assoc, List.take_left' (marks_len hs i _), ea, ec] at this
      exact this
    rcases x3 with ⟨rfl, rfl⟩ | ⟨h1, x⟩
    · rcases h.at_ with ⟨ea, ec⟩ | ⟨q', h1, h2⟩
      · exact key ea ec
      · refine Sl.upd (S := fun q => blk A3 c3 = some q) (h.read.ext ((Ext.refl wr).alloc ob)) ((Upd.refl _ _).grown g3 (fun k hk => .inl hk)) (fun q hq hq2 => ?_)
        rw [h1] at hq2
        injection hq2 with hq2
        have := h.lt q hq
        omega
    · exact (h.read.ext ((Ext.refl wr).alloc ob)).ext x
/-- the entry is done: it is put to the long ones -/
theorem Ph2.next {mk : Int → Nat → List Value} {w1 w2 wr w4 : World} {B : Nat} {e T : TypeId} {size : Nat} {L : List En} {i : Nat} {G : List En} {LA LA4 : Option Addr} {lc lc4 : Nat} {A : Option Addr} {c : Nat} (h : Ph2 mk w1 w2 B e T size L i G LA lc) (hi : i < L.length) (hx : Ph2I mk w2 wr B e size L i 8 A c) (ob : Obj)
    (o4 : Own w4 w1.heap.size T 1 LA4 (i + 1) lc4 (ensC G ++ [.slice A ((ena L i).n + 8) c])) (g4 : (wr.alloc ob).grownBy w4 (blk LA lc)) (x4 : (LA4 = LA ∧ lc4 = lc) ∨ (blk LA4 lc4 = some (wr.alloc ob).heap.size ∧ Ext (wr.alloc ob) w4)) : Ph2 mk w1 w4 B e T size L (i + 1) (G ++ [⟨A, (ena L i).n + 8, c⟩]) LA4 lc4 := by
  have hfi : ∀ q, (ena L i).b = some q → Foot L q := fun q hq => ⟨i, hi, hq⟩
  -- from w2 to w4 only entry i's block, and the long ones' list, have turned
  have hlt : ∀ q, blk LA lc = some q → w1.heap.size ≤ q ∧ q < w2.heap.size := fun q hq => h.lst.lt q hq
  have u4 : Upd (fun q => (ena L i).b = some q ∨ blk LA lc = some q) w2 w4 := ((hx.upd.mono (fun k _ q => Or.inl q)).alloc ob).grown g4 (fun k hk => .inl (.inr hk))
  have u5 : Upd (fun q => blk LA lc = some q) wr w4 := ((Upd.refl _ _).alloc ob).grown g4 (fun k hk => .inl hk)
  have nl : ∀ q, Foot L q → blk LA lc ≠ some q := fun q hq e1 => by have := h.foot q hq; have := (hlt q e1).1; omega
  have ni : ∀ j, j < L.length → j ≠ i → ∀ q, (ena L j).b = some q → ¬ ((ena L i).b = some q ∨ blk LA lc = some q) := fun j hj hji q hq e1 => by
    rcases e1 with e1 | e1
    · exact h.apart j i hj hi hji q hq e1
    · exact nl q ⟨j, hj, hq⟩ e1
  have hgl := h.len
  have hxb : ∀ q, blk A c = some q → (ena L i).b = some q ∨ w2.heap.size ≤ q := fun q hq => by
    rcases hx.at_ with ⟨rfl, rfl⟩ | ⟨q', h1, h2⟩
    · exact .inl hq
    · rw [h1] at hq; injection hq with hq; exact .inr (by omega)
  have hll : ∀ q, blk LA4 lc4 = some q → blk LA lc = some q ∨ wr.heap.size ≤ q := fun q hq => by
    rcases x4 with ⟨rfl, rfl⟩ | ⟨h1, _⟩
    · exact .inl hq
    · rw [h1] at hq; injection hq with hq; have := ((Ext.refl wr).alloc ob).size; exact .inr (by omega)
  refine ⟨by rw [List.length_append, hgl]; rfl, by rw [ensC_append]; exact o4, fun j hj hjl => (h.rest j (by omega) hjl).upd u4 (ni j hjl (by omega)), fun j hj => ?_, fun j hj => ?_, fun j hj q hq => ?_, h.foot, h.apart, ?_⟩
  · by_cases hji : j < i
    · exact (h.read j hji).upd u4 (ni j (by omega) (by omega))
    · obtain rfl : j = i := by omega
      exact hx.read.upd u5 (fun q hq => nl q (hfi q hq))
  · by_cases hji : j < i
    · rw [ena_append_old (by omega)]
      obtain ⟨h1, h2⟩ := h.long j hji
      refine ⟨h1, h2.upd u4 (fun q hq e1 => ?_)⟩
      rcases h.at_ j hji q hq with h3 | ⟨h3, h4⟩
      · exact ni j (by omega) (by omega) q h3 e1
      · rcases e1 with e1 | e1
        · have := h.foot q (hfi q e1); omega
        · exact h4 e1
    · obtain rfl : j = i := by omega
      have e1 : ena (G ++ [⟨A, (ena L j).n + 8, c⟩]) j = ⟨A, (ena L j).n + 8, c⟩ := by rw [← hgl]; exact ena_append_new G _
      rw [e1]
      refine ⟨rfl, hx.own.upd u5 (fun q hq e2 => ?_)⟩
      rcases hxb q hq with h3 | h3
      · exact nl q (hfi q h3) e2
      · have := (hlt q e2).2; omega
  · by_cases hji : j < i
    · rw [ena_append_old (by omega)] at hq
      rcases h.at_ j hji q hq with h3 | ⟨h3, h4⟩
      · exact .inl h3
      · refine .inr ⟨h3, fun e1 => ?_⟩
        rcases hll q e1 with h5 | h5
        · exact h4 h5
        · have := ((h.long j hji).2.lt q hq).2
          have := hx.upd.size
          omega
    · obtain rfl : j = i := by omega
      have e1 : ena (G ++ [⟨A, (ena L j).n + 8, c⟩]) j = ⟨A, (ena L j).n + 8, c⟩ := by rw [← hgl]; exact ena_append_new G _
      rw [e1] at hq
      rcases hxb q hq with h3 | h3
      · exact .inl h3
      · refine .inr ⟨Nat.le_trans h.upd.size h3, fun e2 => ?_⟩
        rcases hll q e2 with h5 | h5
        · have := (hlt q h5).2; omega
        · have := (hx.own.lt q hq).2; omega
  · have hd : ∀ q, q < w2.heap.size → (ena L i).b = some q → Foot L q := fun q _ hq => hfi q hq
    exact (h.upd.trans ((hx.upd.mono hd).alloc ob)).grown g4 (fun q hq => .inr (hlt q hq).1)
/-! ### reading elements -/
theorem addr_off (ad : Addr) (j q : Nat) (hq : 0 < q) : ad.add (j + q) = ⟨(ad.add j).block, (ad.add j).off + q, none⟩ := by
  rw [← add_add']
  unfold Addr.add
  rw [if_neg (by omega)]
theorem own_at1 {w : World} {n c : Nat} {A : Option Addr} {xs : List Value} (h : Sl w 1 A n c xs) {k : Nat} (hk : k < n) {l : List Value} {a : Value} (hl : l = [a]) (hx : ∀ q, q < 1 → xs[k * 1 + q]? = l[q]?) : ∃ ad, A = some ad ∧ w.cell? (ad.add k) = some a := by
  subst hl
  obtain ⟨ad, e, hc⟩ := h.2.2.2.2 (by omega)
  exact ⟨ad, e, hc k _ (by have := hx 0 (by omega); rwa [Nat.mul_one, Nat.add_zero] at this)⟩
theorem own_at2 {w : World} {n c : Nat} {A : Option Addr} {xs : List Value} (h : Sl w 2 A n c xs) {k : Nat} (hk : k < n) {l : List Value} {a b : Value} (hl : l = [a, b]) (hx : ∀ q, q < 2 → xs[k * 2 + q]? = l[q]?) :
    ∃ ad, A = some ad ∧ w.cell? (ad.add (k * 2)) = some a ∧ w.cell? ⟨(ad.add (k * 2)).block, (ad.add (k * 2)).off + 1, none⟩ = some b := by
  subst hl
  obtain ⟨ad, e, hc⟩ := h.2.2.2.2 (by omega)
  exact ⟨ad, e, hc _ _ (hx 0 (by omega)), by rw [← addr_off _ _ 1 (by omega)]; exact hc _ _ (hx 1 (by omega))⟩
theorem own_at4 {w : World} {n c : Nat} {A : Option Addr} {xs : List Value} (h : Sl w 4 A n c xs) {k : Nat} (hk : k < n) {l : List Value} {a b x y : Value} (hl : l = [a, b, x, y]) (hx : ∀ q, q < 4 → xs[k * 4 + q]? = l[q]?) :
    ∃ ad, A = some ad ∧ w.cell? (ad.add (k * 4)) = some a ∧ w.cell? ⟨(ad.add (k * 4)).block, (ad.add (k * 4)).off + 1, none⟩ = some b ∧ w.cell? ⟨(ad.add (k * 4)).block, (ad.add (k * 4)).off + 2, none⟩ = some x ∧ w.cell? ⟨(ad.add (k * 4)).block, (ad.add (k * 4)).off + 3, none⟩ = some y := by
  subst hl
  obtain ⟨ad, e, hc⟩ := h.2.2.2.2 (by omega)
  exact ⟨ad, e, hc _ _ (hx 0 (by omega)), by rw [← addr_off _ _ 1 (by omega)]; exact hc _ _ (hx 1 (by omega)), by rw [← addr_off _ _ 2 (by omega)]; exact hc _ _ (hx 2 (by omega)), by rw [← addr_off _ _ 3 (by omega)]; exact hc _ _ (hx 3 (by omega))⟩
end Go.Proofs.YtdgbkpoickbidaaGreatDoor
namespace Go.Proofs.YtdgbkpoickbidaaGreatDoor
open Go.RowKit

theorem Own.base {w : World} {B B' s n c : Nat} {e : TypeId} {A : Option Addr} {xs : List Value} (h : Own w B e s A n c xs) (hb : ∀ k, blk A c = some k → B' ≤ k) : Own w B' e s A n c xs := by
  refine ⟨h.1, ?_⟩
  rcases h.2 with hz | ⟨g, cur, rfl, _, hg, hnc, rest⟩
  · exact .inl hz
  · cases c with
    | zero => exact .inl ⟨rfl, by omega⟩
    | succ c => exact .inr ⟨g, cur, rfl, hb g rfl, hg, hnc, rest⟩
/-- new memory from lo on, below hi -/
structure KP (w : World) (lo hi : Nat) (e : TypeId) (size : Nat) (x : En) (xs : List Value) : Prop where
  own : Own w lo e size x.A x.n x.c xs
  top : ∀ k, x.b = some k → k < hi
theorem KP.ext {w w' : World} {lo hi : Nat} {e : TypeId} {size : Nat} {x : En} {xs : List Value} (h : KP w lo hi e size x xs) (y : Ext w w') : KP w' lo hi e size x xs := ⟨h.own.ext y, h.top⟩
theorem KP.upd {S : Nat → Prop} {w w' : World} {lo hi : Nat} {e : TypeId} {size : Nat} {x : En} {xs : List Value} (h : KP w lo hi e size x xs) (y : Upd S w w') (hS : ∀ k, lo ≤ k → k < hi → ¬ S k) : KP w' lo hi e size x xs :=
  ⟨h.own.upd y (fun k hk => hS k (h.own.lt k hk).1 (h.top k hk)), h.top⟩
theorem KP.of {w : World} {lo : Nat} {e : TypeId} {size n c : Nat} {A : Option Addr} {xs : List Value} (h : Own w lo e size A n c xs) : KP w lo w.heap.size e size ⟨A, n, c⟩ xs := ⟨h, fun k hk => (h.lt k hk).2⟩
theorem KP.iv {w w' : World} {lo hi : Nat} {e : TypeId} {size : Nat} {x : En} {xs : List Value} (h : KP w lo hi e size x xs) (u : Upd (fun k => blk x.A x.c = some k) w w') : Upd (fun k => lo ≤ k ∧ k < hi) w w' :=
  u.mono (fun k _ hk => ⟨(h.own.lt k hk).1, h.top k hk⟩)
theorem ext_upd {S : Nat → Prop} {a w w' : World} (h : Ext a w) (u : Upd S w w') (hS : ∀ k, S k → a.heap.size ≤ k) : Ext a w' :=
  ⟨u.os.trans (Below.os h), u.tape.trans (Below.tape h), u.output.trans (Below.output h), Nat.le_trans h.size u.size, fun k hk => (u.block k (Nat.lt_of_lt_of_le hk h.size) (fun q => by have := hS k q; omega)).trans (Below.block h k hk)⟩
/-- lists with what they hold -/
def HoldAll (w : World) (B : Nat) (e : TypeId) (size : Nat) (P : List (En × List Value)) : Prop := ∀ p ∈ P, Own w B e size p.1.A p.1.n p.1.c p.2
def Far (P : List (En × List Value)) : Prop := P.Pairwise fun p q => ∀ k, p.1.b = some k → q.1.b ≠ some k
theorem lists_of {w : World} {B : Nat} {e : TypeId} {size : Nat} {P : List (En × List Value)} (h : HoldAll w B e size P) (hf : Far P) : Lists w B e size (P.map (·.1)) (fun i => (P.getD i (En.zero, [])).2) := by
  have key : ∀ i, (hi : i < (P.map (·.1)).length) → ∃ h2 : i < P.length, ena (P.map (·.1)) i = P[i].1 ∧ (P.getD i (En.zero, [])).2 = P[i].2 := fun i hi => by
    have h2 : i < P.length := by rwa [List.length_map] at hi
    refine ⟨h2, ?_, ?_⟩
    · unfold ena
      rw [List.getD_eq_getElem?_getD, List.getElem?_map, List.getElem?_eq_getElem h2]
      rfl
    · rw [List.getD_eq_getElem?_getD, List.getElem?_eq_getElem h2]
      rfl
  refine ⟨fun i hi => ?_, fun i j hi hj hij k h1 h2 => ?_⟩
  · obtain ⟨q, e1, e2⟩ := key i hi
    rw [e1, e2]
    exact h _ (List.getElem_mem q)
  · obtain ⟨q1, e1, _⟩ := key i hi
    obtain ⟨q2, e2, _⟩ := key j hj
    rw [e1] at h1
    rw [e2] at h2
    rcases Nat.lt_or_gt_of_ne hij with q | q
    · exact List.pairwise_iff_getElem.1 hf i j q1 q2 q k h1 h2
    · exact List.pairwise_iff_getElem.1 hf j i q2 q1 q k h2 h1
theorem foot_mem {L : List En} {k : Nat} (h : Foot L k) : ∃ x ∈ L, x.b = some k := by
  obtain ⟨i, hi, hb⟩ := h
  refine ⟨ena L i, ?_, hb⟩
  unfold ena
  rw [List.getD_eq_getElem?_getD, List.getElem?_eq_getElem hi]
  exact List.getElem_mem hi
theorem bk_upd {S : Nat → Prop} {w w' : World} {g : Nat} {t : TypeId} {cs : Array Value} (h : Bk w g t cs) (u : Upd S w w') (hn : ¬ S g) : Bk w' g t cs := (u.block g (Array.getElem?_eq_some_iff.1 h).1 hn).trans h
theorem upd_cell (w : World) (g j : Nat) (u : Value) : Upd (fun k => k = g) w (w.setCell ⟨g, j, none⟩ u) := (Upd.refl (fun k => k = g) w).setCell (p := ⟨g, j, none⟩) (Or.inl rfl) u
end Go.Proofs.YtdgbkpoickbidaaGreatDoor
namespace Go.Proofs.YtdgbkpoickbidaaGreatDoor
open Go.RowKit

/-- a time that lies in memory -/
structure Tm where
  e : Int
  A : Option Addr
  c : Nat
  l : List Int
def Tm.zero : Tm := ⟨0, none, 0, []⟩
instance : Inhabited Tm := ⟨Tm.zero⟩
def Tm.v (x : Tm) : TV := (x.e, x.l)
def tmC (x : Tm) : List Value := [.int .u64 x.e, .slice x.A x.l.length x.c]
def tmV (x : Tm) : Value := .agg #[.int .u64 x.e, .slice x.A x.l.length x.c]
def tmsC (L : List Tm) : List Value := L.flatMap tmC
theorem tmsC_len (L : List Tm) : (tmsC L).length = L.length * 2 := by
  unfold tmsC
  induction L with
  | nil => rfl
  | cons d l ih => rw [List.flatMap_cons, List.length_append, ih, List.length_cons, show (tmC d).length = 2 from rfl]; omega
theorem tmsC_at : ∀ (L : List Tm) (i j : Nat), i < L.length → j < 2 → (tmsC L)[i * 2 + j]? = (tmC (L.getD i Tm.zero))[j]?
  | [], i, j, h, _ => absurd h (Nat.not_lt_zero _)
  | d :: l, 0, j, _, hj => by
    unfold tmsC
    rw [List.flatMap_cons, Nat.zero_mul, Nat.zero_add, List.getElem?_append_left (by rw [show (tmC d).length = 2 from rfl]; exact hj)]
    rfl
  | d :: l, i + 1, j, h, hj => by
    unfold tmsC
    rw [List.flatMap_cons, List.getElem?_append_right (by rw [show (tmC d).length = 2 from rfl]; omega), show (i + 1) * 2 + j - (tmC d).length = i * 2 + j by rw [show (tmC d).length = 2 from rfl]; omega]
    exact tmsC_at l i j (Nat.lt_of_succ_lt_succ h) hj
theorem tmsC_append (L M : List Tm) : tmsC (L ++ M) = tmsC L ++ tmsC M := List.flatMap_append
theorem tmsC_one (L : List Tm) : ∀ u ∈ tmsC L, u.oneCell' = true := by
  intro u hu
  obtain ⟨d, _, h⟩ := List.mem_flatMap.1 hu
  simp only [tmC, List.mem_cons, List.not_mem_nil, or_false] at h
  rcases h with rfl | rfl <;> rfl
theorem tmsC_take (L : List Tm) (k : Nat) : (tmsC L).take (k * 2) = tmsC (L.take k) := by
  induction L generalizing k with
  | nil => simp [tmsC]
  | cons x L ih =>
    cases k with
    | zero => simp [tmsC]
    | succ k =>
      show (tmC x ++ tmsC L).take _ = tmC x ++ tmsC (L.take k)
      rw [List.take_append, show (tmC x).length = 2 from rfl, show (k + 1) * 2 - 2 = k * 2 by omega, ih, List.take_of_length_le (by show 2 ≤ _; omega)]
theorem tmsC_drop (L : List Tm) (k : Nat) : (tmsC L).drop (k * 2) = tmsC (L.drop k) := by
  induction L generalizing k with
  | nil => simp [tmsC]
  | cons x L ih =>
    cases k with
    | zero => simp [tmsC]
    | succ k =>
      show (tmC x ++ tmsC L).drop _ = tmsC (L.drop k)
      rw [List.drop_append, show (tmC x).length = 2 from rfl, show (k + 1) * 2 - 2 = k * 2 by omega, ih, List.drop_of_length_le (by show 2 ≤ _; omega), List.nil_append]
/-- what every time is within: 64 bits, 32 bits -/
def InT (x : Tm) : Prop := (0 ≤ x.e ∧ x.e ≤ 18446744073709551615) ∧ U32 x.l ∧ x.l.length ≤ 100000
/-- a list of times as readings give it -/
structure Tin (w : World) (A : Option Addr) (c : Nat) (L : List Tm) : Prop where
  sl : Sl w 2 A L.length c (tmsC L)
  ls : ∀ x ∈ L, Sl w 1 x.A x.l.length x.c (wds x.l)
section
variable {w w' : World} {A : Option Addr} {c : Nat} {L : List Tm}
theorem Tin.ext (h : Tin w A c L) (x : Ext w w') : Tin w' A c L := ⟨h.sl.ext x, fun y hy => (h.ls y hy).ext x⟩
theorem Tin.nil (w : World) : Tin w none 0 [] := ⟨Sl.nil w 2, fun x hx => (nomatch hx)⟩
theorem Tin.at (h : Tin w A c L) {i : Nat} (hi : i < L.length) : ∃ ad, A = some ad ∧ w.cell? (ad.add (i * 2)) = some (.int .u64 (L.getD i Tm.zero).e) ∧ w.cell? ⟨(ad.add (i * 2)).block, (ad.add (i * 2)).off + 1, none⟩ = some (.slice (L.getD i Tm.zero).A (L.getD i Tm.zero).l.length (L.getD i Tm.zero).c) :=
  own_at2 h.sl hi (show tmC (L.getD i Tm.zero) = [.int .u64 (L.getD i Tm.zero).e, .slice (L.getD i Tm.zero).A (L.getD i Tm.zero).l.length (L.getD i Tm.zero).c] from rfl) (fun q hq => tmsC_at L i q hi hq)
theorem Tin.take (h : Tin w A c L) {k : Nat} (hk : k ≤ L.length) : Tin w A c (L.take k) := by
  have := Sl.take (k := k) h.sl hk
  rw [tmsC_take] at this
  exact ⟨by rw [List.length_take, Nat.min_eq_left hk]; exact this, fun x hx => h.ls x (List.mem_of_mem_take hx)⟩
end
theorem getT_mem {L : List Tm} {i : Nat} (h : i < L.length) : L.getD i Tm.zero ∈ L := by
  rw [List.getD_eq_getElem?_getD, List.getElem?_eq_getElem h]
  exact List.getElem_mem h
theorem getT_v {L : List Tm} {i : Nat} (h : i < L.length) : (L.map Tm.v)[i]'(by rw [List.length_map]; exact h) = (L.getD i Tm.zero).v := by
  rw [List.getElem_map, List.getD_eq_getElem?_getD, List.getElem?_eq_getElem h]
  rfl
theorem elemTimes : Elem Tryz.prog 27 26 2 32 (.agg #[.int .u64 0, .slice none 0 0]) := ⟨by kernel_rfl, by kernel_rfl, rfl, by decide⟩
/-- a list of times that a call has made, from block B on, each with counters of its own -/
structure Tout (w : World) (B : Nat) (A : Option Addr) (c : Nat) (L : List Tm) : Prop where
  own : Own w B 26 2 A L.length c (tmsC L)
  ls : ∀ x ∈ L, Own w B 180 1 x.A x.l.length x.c (wds x.l) ∧ ∀ k, blk x.A x.c = some k → blk A c ≠ some k
  apart : L.Pairwise fun x y => ∀ k, blk x.A x.c = some k → blk y.A y.c ≠ some k
section
variable {w w' : World} {B : Nat} {A : Option Addr} {c : Nat} {L : List Tm}
theorem Tout.ext (h : Tout w B A c L) (x : Ext w w') : Tout w' B A c L := ⟨h.own.ext x, fun y hy => ⟨(h.ls y hy).1.ext x, (h.ls y hy).2⟩, h.apart⟩
theorem Tout.mono (h : Tout w B A c L) {B' : Nat} (hb : B' ≤ B) : Tout w B' A c L := ⟨h.own.mono hb, fun y hy => ⟨(h.ls y hy).1.mono hb, (h.ls y hy).2⟩, h.apart⟩
theorem Tout.tin (h : Tout w B A c L) : Tin w A c L := ⟨h.own.sl, fun x hx => (h.ls x hx).1.sl⟩
theorem Tout.nil (w : World) (B : Nat) : Tout w B none 0 [] := ⟨Own.nil _ _ _ _, fun x hx => (nomatch hx), List.Pairwise.nil⟩
theorem Tout.upd {S : Nat → Prop} (h : Tout w B A c L) (x : Upd S w w') (hn : ∀ k, B ≤ k → ¬ S k) : Tout w' B A c L :=
  ⟨h.own.upd x (fun k hk => hn k (h.own.lt k hk).1), fun y hy => ⟨(h.ls y hy).1.upd x (fun k hk => hn k ((h.ls y hy).1.lt k hk).1), (h.ls y hy).2⟩, h.apart⟩
end
end Go.Proofs.YtdgbkpoickbidaaGreatDoor
namespace Go.Proofs.YtdgbkpoickbidaaGreatDoor
open Go.ChangeShapes Go.WideShapes Go.ChangeAt Go.RowKit Go.WideElems

section
variable {H : Type} {enc : TypeId × Value → H} {W : World}
theorem list2 {α : Type} {l : List α} (h : l.length = 2) : ∃ a b, l = [a, b] := by
  match l, h with
  | [a, b], _ => exact ⟨a, b, rfl⟩
theorem one_u64 : Tryz.prog.cellsOf 23 = 1 := by kernel_rfl
theorem one_wds : Tryz.prog.cellsOf 24 = 1 := by kernel_rfl
theorem two_tm : Tryz.prog.cellsOf 26 = 2 := by kernel_rfl
/-- what is known of a time that comes in -/
structure TmIn (x : Tm) : Prop where
  u : U32 x.l
  e : 0 ≤ x.e ∧ x.e ≤ 18446744073709551615
theorem come_timeC {fuel : Nat} {cs : List Value} {y : DataW H × List MemPlace} (h : DataW.trod enc Tryz.prog W 0 (fun _ => true) true fuel 26 cs = some y) :
    ∃ x : Tm, cs = tmC x ∧ Sl W 1 x.A x.l.length x.c (wds x.l) ∧ TmIn x := by
  obtain ⟨y0, y1, n, _, hl, h0, h1⟩ := Go.ChangeShapes.trod_struct2 Tryz.underlying26 h
  rw [two_tm] at hl
  obtain ⟨c0, c1, rfl⟩ := list2 hl
  have g0 : DataW.trod enc Tryz.prog W 0 (fun _ => true) true n 23 [c0] = some y0 := by
    have : DataW.trod enc Tryz.prog W 0 (fun _ => true) true n 23 (([c0, c1].drop 0).take (Tryz.prog.cellsOf 23)) = some y0 := h0
    rw [one_u64] at this
    exact this
  have g1 : DataW.trod enc Tryz.prog W 0 (fun _ => true) true n 24 [c1] = some y1 := by
    have : DataW.trod enc Tryz.prog W 0 (fun _ => true) true n 24 (([c0, c1].drop 1).take (Tryz.prog.cellsOf 24)) = some y1 := h1
    rw [one_wds] at this
    exact this
  obtain ⟨k, e0, _, w0⟩ := DataW.trod_int Tryz.underlying23 g0
  obtain ⟨A, m, c, l, rfl, hs, hu⟩ := come_words g1
  obtain rfl : c0 = .int .u64 k := by simpa using e0
  have hm := hs.wlen
  subst hm
  exact ⟨⟨k, A, c, l⟩, rfl, hs, ⟨hu, wf_u64 w0⟩⟩
theorem come_timesC {fuel : Nat} {cs : List Value} {y : DataW H × List MemPlace} (h : DataW.trod enc Tryz.prog W 0 (fun _ => true) true fuel 27 cs = some y) :
    ∃ A c L, cs = [.slice A (List.length L) c] ∧ Tin W A c L ∧ ∀ x ∈ L, TmIn x := by
  rcases Go.Deep.open_slice Tryz.underlying27 h with ⟨hcs, _⟩ | ⟨a, n, c, m, fu, D, Pl, hcs, _, hnc, hcm, hm, _, hx⟩
  · exact ⟨none, 0, [], hcs, Tin.nil W, fun x hx => (nomatch hx)⟩
  · rw [two_tm] at hx
    have hmn : n ≤ m := by rw [hm]; split <;> omega
    obtain ⟨F, hF⟩ := Go.Deep.choose_lt (α := Tm) (n := n) (p := fun i d => (∀ j, j < 2 → W.cell? (a.add (i * 2 + j)) = (tmC d)[j]?) ∧ Sl W 1 d.A d.l.length d.c (wds d.l) ∧ TmIn d) (fun i hi => by
      obtain ⟨cs', h1, h2⟩ := hx i (by omega)
      obtain ⟨_, _, h3⟩ := World.cells?_some h1
      obtain ⟨d, rfl, h4⟩ := come_timeC h2
      exact ⟨d, fun j hj => by rw [← add_add']; exact h3 j hj, h4⟩)
    have hlen : ((List.range n).map F).length = n := by simp
    have hmem : ∀ d ∈ (List.range n).map F, Sl W 1 d.A d.l.length d.c (wds d.l) ∧ TmIn d := fun d hd => by
      obtain ⟨i, hi, rfl⟩ := List.mem_map.1 hd
      exact (hF i (List.mem_range.1 hi)).2
    refine ⟨some a, c, (List.range n).map F, by rw [hlen]; exact hcs, ⟨⟨by rw [tmsC_len], by rw [hlen]; exact hnc, hcm, (fun h => nomatch h), fun _ => ⟨a, rfl, fun j u hu => ?_⟩⟩, fun d hd => (hmem d hd).1⟩, fun d hd => (hmem d hd).2⟩
    have hj : j < n * 2 := by
      rcases Nat.lt_or_ge j (n * 2) with q | q
      · exact q
      · rw [List.getElem?_eq_none (by rw [tmsC_len, hlen]; exact q)] at hu
        cases hu
    have e : j = j / 2 * 2 + j % 2 := by omega
    rw [e, tmsC_at _ _ _ (by rw [hlen]; omega) (by omega)] at hu
    have e2 : ((List.range n).map F).getD (j / 2) Tm.zero = F (j / 2) := by
      rw [List.getD_eq_getElem?_getD, List.getElem?_map, List.getElem?_range (by omega)]
      rfl
    rw [e2] at hu
    rw [e, (hF (j / 2) (by omega)).1 (j % 2) (by omega)]
    exact hu
set_option maxRecDepth 100000 in
theorem come_times {base : Nat} {v : Value} {d : DataW H} {p : List MemPlace} (hv : Value.okWide Tryz.prog W .any base 27 v) (h : DataW.Trod enc Tryz.prog W 0 (fun _ => true) true 27 v d p) :
    ∃ A c L, v = .slice A (List.length L) c ∧ Tin W A c L ∧ ∀ x ∈ L, TmIn x := by
  obtain ⟨fuel, hf⟩ := h
  obtain ⟨A, c, l, e, h1, h2⟩ := come_timesC hf
  obtain ⟨A', n', c', rfl⟩ := okWide_slice Tryz.underlying27 hv
  have e' : (Value.slice A' n' c') = .slice A l.length c := by injection e
  exact ⟨A, c, l, e', h1, h2⟩
end
end Go.Proofs.YtdgbkpoickbidaaGreatDoor
namespace Go.Proofs.YtdgbkpoickbidaaGreatDoor

def same (x y : TV) : Bool := decide (x.2.length = y.2.length)
def maxT (x y : TV) : TV := (max x.1 y.1, List.zipWith max x.2 y.2)
def minT (x y : TV) : TV := (min x.1 y.1, List.zipWith min x.2 y.2)
/-- all joins of one of each -/
def pairsV (a b : List TV) : List TV := a.flatMap fun x => (b.filter (same x)).map (maxT x)
def joinV (a b : List TV) : List TV := ofV (pairsV a b)
theorem pairs_mem {a b : List TV} {v : TV} : v ∈ pairsV a b ↔ ∃ x ∈ a, ∃ y ∈ b, same x y = true ∧ maxT x y = v := by
  unfold pairsV
  rw [List.mem_flatMap]
  constructor
  · rintro ⟨x, hx, hv⟩
    obtain ⟨y, hy, rfl⟩ := List.mem_map.1 hv
    exact ⟨x, hx, y, (List.mem_filter.1 hy).1, (List.mem_filter.1 hy).2, rfl⟩
  · rintro ⟨x, hx, y, hy, h, rfl⟩
    exact ⟨x, hx, List.mem_map.2 ⟨y, List.mem_filter.2 ⟨hy, h⟩, rfl⟩⟩
theorem same_of_leq {x t : TV} (h : tleq x t = true) : x.2.length = t.2.length := ((leq_iff _ _ _ _).1 h).1
theorem maxT_leq {x y t : TV} (h : same x y = true) : tleq (maxT x y) t = (tleq x t && tleq y t) := join_least (of_decide_eq_true h)
theorem minT_geq {x y t : TV} (h : same x y = true) : tleq t (minT x y) = (tleq t x && tleq t y) := meet_greatest (of_decide_eq_true h)
theorem leq_max1 {x y : TV} (h : same x y = true) : tleq x (maxT x y) = true := join_up1 (of_decide_eq_true h)
theorem leq_max2 {x y : TV} (h : same x y = true) : tleq y (maxT x y) = true := join_up2 (of_decide_eq_true h)
theorem min_leq1 {x y : TV} (h : same x y = true) : tleq (minT x y) x = true := meet_low1 (of_decide_eq_true h)
theorem min_leq2 {x y : TV} (h : same x y = true) : tleq (minT x y) y = true := meet_low2 (of_decide_eq_true h)
theorem maxT_len {x y : TV} (h : same x y = true) : (maxT x y).2.length = x.2.length := by
  have := of_decide_eq_true h
  show (List.zipWith max x.2 y.2).length = _
  rw [List.length_zipWith]
  omega
theorem minT_len {x y : TV} (h : same x y = true) : (minT x y).2.length = x.2.length := by
  have := of_decide_eq_true h
  show (List.zipWith min x.2 y.2).length = _
  rw [List.length_zipWith]
  omega
theorem beyond_pairs (a b : List TV) (t : TV) : beyondV (pairsV a b) t = (beyondV a t && beyondV b t) := by
  rw [Bool.eq_iff_iff, Bool.and_eq_true, beyond_iff, beyond_iff, beyond_iff]
  constructor
  · rintro ⟨v, hv, h⟩
    obtain ⟨x, hx, y, hy, hs, rfl⟩ := pairs_mem.1 hv
    rw [maxT_leq hs, Bool.and_eq_true] at h
    exact ⟨⟨x, hx, h.1⟩, ⟨y, hy, h.2⟩⟩
  · rintro ⟨⟨x, hx, h1⟩, ⟨y, hy, h2⟩⟩
    have hs : same x y = true := decide_eq_true (by have := same_of_leq h1; have := same_of_leq h2; omega)
    exact ⟨_, pairs_mem.2 ⟨x, hx, y, hy, hs, rfl⟩, by rw [maxT_leq hs, h1, h2]; rfl⟩
theorem beyond_join (a b : List TV) (t : TV) : beyondV (joinV a b) t = (beyondV a t && beyondV b t) := (beyond_ofV _ t).trans (beyond_pairs a b t)
/-- two lists with one antichain: just if the same is beyond -/
theorem ofV_ext {L M : List TV} (h : ∀ t, beyondV L t = beyondV M t) : ofV L = ofV M := by
  have key : ∀ {L M : List TV}, (∀ t, beyondV L t = beyondV M t) → ∀ v, Least L v → Least M v := fun {L M} h v hv => by
    have h1 : beyondV M v = true := by rw [← h]; exact beyond_iff.2 ⟨v, hv.1, tleq_refl v⟩
    obtain ⟨x, hx, hxv⟩ := beyond_iff.1 h1
    have h2 : beyondV L x = true := by rw [h]; exact beyond_iff.2 ⟨x, hx, tleq_refl x⟩
    obtain ⟨y, hy, hyx⟩ := beyond_iff.1 h2
    have e := hv.2 y hy (tleq_trans hyx hxv)
    have e2 : x = v := tleq_anti hxv (e ▸ hyx)
    subst e2
    refine ⟨hx, fun u hu huv => ?_⟩
    have h3 : beyondV L u = true := by rw [h]; exact beyond_iff.2 ⟨u, hu, tleq_refl u⟩
    obtain ⟨z, hz, hzu⟩ := beyond_iff.1 h3
    have e3 := hv.2 z hz (tleq_trans hzu huv)
    exact tleq_anti huv (e3 ▸ hzu)
  exact IsOf.unique (L := L) (ofV_is L) ⟨(ofV_is M).rising, fun v => ((ofV_is M).mem v).trans ⟨key (fun t => (h t).symm) v, key h v⟩⟩
theorem ofV_twice (L : List TV) : ofV (ofV L) = ofV L := ofV_ext (beyond_ofV L)
theorem joinV_comm (a b : List TV) : joinV a b = joinV b a := ofV_ext fun t => by rw [beyond_pairs, beyond_pairs, Bool.and_comm]
theorem joinV_assoc (a b c : List TV) : joinV (joinV a b) c = joinV a (joinV b c) := ofV_ext fun t => by rw [beyond_pairs, beyond_pairs, beyond_join, beyond_join, Bool.and_assoc]
theorem joinV_self (a : List TV) : joinV a a = ofV a := ofV_ext fun t => by rw [beyond_pairs, Bool.and_self]
theorem beyond_append (a : List TV) (s t : TV) : beyondV (a ++ [s]) t = (beyondV a t || tleq s t) := by unfold beyondV; simp
theorem insert_beyond {a : List TV} {t : TV} (h : beyondV a t = true) : ofV (a ++ [t]) = ofV a := ofV_ext fun s => by
  rw [beyond_append]
  by_cases q : tleq t s = true
  · obtain ⟨x, hx, hxt⟩ := beyond_iff.1 h
    have : beyondV a s = true := beyond_iff.2 ⟨x, hx, tleq_trans hxt q⟩
    rw [this, Bool.true_or]
  · rw [show tleq t s = false by simpa using q, Bool.or_false]
/-- is all of b beyond a? -/
def leqV (a b : List TV) : Bool := b.all fun t => beyondV a t
theorem leqV_iff {a b : List TV} : leqV a b = true ↔ ∀ t ∈ b, beyondV a t = true := List.all_eq_true
theorem leqV_of1 (a : List TV) : leqV (ofV a) a = true := leqV_iff.2 fun t ht => by rw [beyond_ofV]; exact beyond_iff.2 ⟨t, ht, tleq_refl t⟩
theorem leqV_of2 (a : List TV) : leqV a (ofV a) = true := leqV_iff.2 fun t ht => beyond_iff.2 ⟨t, (((ofV_is a).mem t).1 ht).1, tleq_refl t⟩
/-! ### the time that stands for another one -/
def advStep (t : TV) (acc : Option TV) (x : TV) : Option TV := if same t x then some (match acc with | none => maxT t x | some o => minT o (maxT t x)) else acc
def advO (a : List TV) (t : TV) : Option TV := a.foldl (advStep t) none
def advV (a : List TV) (t : TV) : TV := (advO a t).getD t
theorem advStep_len {t x : TV} {acc : Option TV} (h : ∀ o, acc = some o → o.2.length = t.2.length) : ∀ o, advStep t acc x = some o → o.2.length = t.2.length := by
  intro o ho
  unfold advStep at ho
  split at ho
  · rename_i hs
    cases acc with
    | none =>
      injection ho with ho
      rw [← ho, maxT_len hs]
    | some q =>
      injection ho with ho
      have hq := h q rfl
      rw [← ho, minT_len (decide_eq_true (by rw [maxT_len hs]; exact hq)), hq]
  · exact h o ho
theorem advO_len {t : TV} : ∀ (a : List TV) (acc : Option TV), (∀ o, acc = some o → o.2.length = t.2.length) → ∀ o, a.foldl (advStep t) acc = some o → o.2.length = t.2.length
  | [], acc, h, o, ho => h o ho
  | x :: a, acc, h, o, ho => advO_len a _ (advStep_len h) o ho
theorem advV_len (a : List TV) (t : TV) : (advV a t).2.length = t.2.length := by
  unfold advV
  cases h : advO a t with
  | none => rfl
  | some o => exact advO_len a none (fun _ h => nomatch h) o h
/-- s stays ahead of what stands for it; and that is ahead of each join -/
theorem adv_spec {s : TV} : ∀ (a : List TV) (acc : Option TV), (∀ o, acc = some o → o.2.length = s.2.length ∧ tleq s o = true) →
    ∀ o, a.foldl (advStep s) acc = some o → tleq s o = true ∧ (∀ q, acc = some q → tleq o q = true) ∧ ∀ x ∈ a, same s x = true → tleq o (maxT s x) = true
  | [], acc, h, o, ho => ⟨(h o ho).2, fun q hq => by rw [show o = q from Option.some.inj (ho.symm.trans hq)]; exact tleq_refl q, fun x hx => (nomatch hx)⟩
  | x :: a, acc, h, o, ho => by
    have hn : ∀ p, advStep s acc x = some p → p.2.length = s.2.length ∧ tleq s p = true := fun p hp => by
      refine ⟨advStep_len (fun q hq => (h q hq).1) p hp, ?_⟩
      unfold advStep at hp
      split at hp
      · rename_i hs
        cases acc with
        | none => injection hp with hp; rw [← hp]; exact leq_max1 hs
        | some q =>
          injection hp with hp
          have hq := h q rfl
          rw [← hp, minT_geq (decide_eq_true (by rw [maxT_len hs]; exact hq.1)), hq.2, leq_max1 hs]
          rfl
      · exact (h p hp).2
    obtain ⟨h1, h2, h3⟩ := adv_spec a (advStep s acc x) hn o ho
    refine ⟨h1, fun q hq => ?_, fun y hy hs => ?_⟩
    · subst hq
      unfold advStep at h2
      split at h2
      · rename_i hs
        have hq := h q rfl
        exact tleq_trans (h2 _ rfl) (min_leq1 (decide_eq_true (by rw [maxT_len hs]; exact hq.1)))
      · exact h2 q rfl
    · rcases List.mem_cons.1 hy with rfl | hy
      · unfold advStep at h2
        rw [if_pos hs] at h2
        cases acc with
        | none => exact h2 _ rfl
        | some q =>
          have hq := h q rfl
          exact tleq_trans (h2 _ rfl) (min_leq2 (decide_eq_true (by rw [maxT_len hs]; exact hq.1)))
      · exact h3 y hy hs
theorem foldl_some {t : TV} : ∀ (a : List TV) (acc : Option TV), (∃ o, acc = some o) → ∃ o, a.foldl (advStep t) acc = some o
  | [], acc, h => h
  | x :: a, acc, ⟨q, hq⟩ => foldl_some a _ (by
    subst hq
    unfold advStep
    split
    · exact ⟨_, rfl⟩
    · exact ⟨_, rfl⟩)
theorem adv_some {t x : TV} (hs : same t x = true) : ∀ (a : List TV) (acc : Option TV), x ∈ a → ∃ o, a.foldl (advStep t) acc = some o
  | y :: a, acc, h => by
    rcases List.mem_cons.1 h with rfl | h
    · exact foldl_some a _ (by unfold advStep; rw [if_pos hs]; exact ⟨_, rfl⟩)
    · exact adv_some hs a _ h
theorem adv_law {a : List TV} {s t : TV} (hb : beyondV a t = true) (hl : s.2.length = t.2.length) : tleq s t = tleq (advV a s) t := by
  obtain ⟨x, hx, hxt⟩ := beyond_iff.1 hb
  have hs : same s x = true := decide_eq_true (by have := same_of_leq hxt; omega)
  obtain ⟨o, ho⟩ := adv_some hs a none hx
  have hv : advV a s = o := by unfold advV advO; rw [ho]; rfl
  rw [hv]
  obtain ⟨h1, _, h3⟩ := adv_spec a none (fun _ h => nomatch h) o ho
  rw [Bool.eq_iff_iff]
  exact ⟨fun q => tleq_trans (h3 x hx hs) (by rw [maxT_leq hs, q, hxt]; rfl), fun q => tleq_trans h1 q⟩
/-- none of an antichain is behind another one -/
theorem of_apart {L : List TV} {i k : Nat} (hi : i < (ofV L).length) (hk : k < (ofV L).length) (hik : i ≠ k) : tleq (ofV L)[i] (ofV L)[k] = false := by
  by_cases h : tleq (ofV L)[i] (ofV L)[k] = true
  · exfalso
    have h1 := ((ofV_is L).mem _).1 (List.getElem_mem hi)
    have h2 := ((ofV_is L).mem _).1 (List.getElem_mem hk)
    have e := h2.2 _ h1.1 h
    have hr := (ofV_is L).rising
    unfold Rising at hr
    rcases Nat.lt_or_gt_of_ne hik with q | q
    · have := List.pairwise_iff_getElem.1 hr i k hi hk q
      rw [e, tcmp_zero.2 rfl] at this
      omega
    · have := List.pairwise_iff_getElem.1 hr k i hk hi q
      rw [e, tcmp_zero.2 rfl] at this
      omega
  · simpa using h
end Go.Proofs.YtdgbkpoickbidaaGreatDoor
namespace Go.Proofs.YtdgbkpoickbidaaGreatDoor

theorem rise_ext {α : Type} (k : α → TV) : ∀ {a b : List α}, a.Pairwise (fun x y => tcmp (k x) (k y) < 0) → b.Pairwise (fun x y => tcmp (k x) (k y) < 0) → (∀ x, x ∈ a ↔ x ∈ b) → a = b
  | [], [], _, _, _ => rfl
  | [], y :: b, _, _, h => by have := (h y).2 (by simp); simp at this
  | x :: a, [], _, _, h => by have := (h x).1 (by simp); simp at this
  | x :: a, y :: b, ha, hb, h => by
    rw [List.pairwise_cons] at ha hb
    have e : x = y := by
      have h1 : x ∈ y :: b := (h x).1 (by simp)
      have h2 : y ∈ x :: a := (h y).2 (by simp)
      rcases List.mem_cons.1 h1 with h1 | h1
      · exact h1
      · rcases List.mem_cons.1 h2 with h2 | h2
        · exact h2.symm
        · have q1 := hb.1 x h1
          have q2 := ha.1 y h2
          have := tcmp_neg (k x) (k y)
          omega
    subst e
    rw [rise_ext k ha.2 hb.2 (fun z => by
      constructor
      · intro hz
        rcases List.mem_cons.1 ((h z).1 (List.mem_cons_of_mem _ hz)) with e | e
        · have := ha.1 z hz
          rw [e, tcmp_zero.2 rfl] at this
          omega
        · exact e
      · intro hz
        rcases List.mem_cons.1 ((h z).2 (List.mem_cons_of_mem _ hz)) with e | e
        · have := hb.1 z hz
          rw [e, tcmp_zero.2 rfl] at this
          omega
        · exact e)]
/-- a change: a time, and by how much -/
abbrev CV := TV × Int
/-- counts, as a list of changes no time of which stands twice -/
def getC (D : List CV) (t : TV) : Int := ((D.find? fun x => decide (x.1 = t)).map (·.2)).getD 0
def KeysC (D : List CV) : Prop := D.Pairwise fun x y => x.1 ≠ y.1
theorem getC_mem {D : List CV} (h : KeysC D) {x : CV} (hx : x ∈ D) : getC D x.1 = x.2 := by
  induction D with
  | nil => cases hx
  | cons y D ih =>
    obtain ⟨h1, h2⟩ := List.pairwise_cons.1 h
    unfold getC
    rw [List.find?_cons]
    rcases List.mem_cons.1 hx with rfl | hx
    · simp
    · have hn : ¬ y.1 = x.1 := h1 x hx
      simp only [hn, decide_false]
      exact ih h2 hx
theorem getC_none {D : List CV} {t : TV} (h : ∀ x ∈ D, x.1 ≠ t) : getC D t = 0 := by
  unfold getC
  rw [List.find?_eq_none.2 (fun x hx => by simpa using h x hx)]
  rfl
theorem getC_cases (D : List CV) (t : TV) : (∃ x ∈ D, x.1 = t ∧ getC D t = x.2) ∨ ((∀ x ∈ D, x.1 ≠ t) ∧ getC D t = 0) := by
  by_cases h : ∃ x ∈ D, x.1 = t
  · unfold getC
    cases hf : D.find? fun x => decide (x.1 = t) with
    | none =>
      obtain ⟨x, hx, e⟩ := h
      have := List.find?_eq_none.1 hf x hx
      simp [e] at this
    | some x =>
      refine .inl ⟨x, List.mem_of_find?_eq_some hf, ?_, rfl⟩
      have := List.find?_some hf
      simpa using this
  · have h2 : ∀ x ∈ D, x.1 ≠ t := fun x hx e => h ⟨x, hx, e⟩
    exact .inr ⟨h2, getC_none h2⟩
/-- the times whose count is above 0 -/
def liveV (D : List CV) : List TV := (D.filter fun x => decide (0 < x.2)).map (·.1)
theorem live_mem {D : List CV} (h : KeysC D) (t : TV) : t ∈ liveV D ↔ 0 < getC D t := by
  unfold liveV
  rw [List.mem_map]
  constructor
  · rintro ⟨x, hx, rfl⟩
    obtain ⟨h1, h2⟩ := List.mem_filter.1 hx
    rw [getC_mem h h1]
    exact of_decide_eq_true h2
  · intro ht
    rcases getC_cases D t with ⟨x, hx, e, q⟩ | ⟨_, q⟩
    · exact ⟨x, List.mem_filter.2 ⟨hx, decide_eq_true (by omega)⟩, e⟩
    · omega
/-- counts that tell the same have one frontier -/
theorem live_same {D E : List CV} (h : KeysC D) (k : KeysC E) (hs : ∀ t, getC D t = getC E t) : ofV (liveV D) = ofV (liveV E) := ofV_congr fun t => by rw [live_mem h, live_mem k, hs]
/-! ### how a frontier moves -/
def movedL (was now : List TV) : List CV := ((was.filter fun t => !(decide (t ∈ now))).map fun t => (t, (-1 : Int))) ++ ((now.filter fun t => !(decide (t ∈ was))).map fun t => (t, (1 : Int)))
theorem moved_mem {was now : List TV} {x : CV} : x ∈ movedL was now ↔ (x.1 ∈ was ∧ x.1 ∉ now ∧ x.2 = -1) ∨ (x.1 ∈ now ∧ x.1 ∉ was ∧ x.2 = 1) := by
  unfold movedL
  rw [List.mem_append, List.mem_map, List.mem_map]
  constructor
  · rintro (⟨t, ht, rfl⟩ | ⟨t, ht, rfl⟩)
    · obtain ⟨h1, h2⟩ := List.mem_filter.1 ht
      exact .inl ⟨h1, by simpa using h2, rfl⟩
    · obtain ⟨h1, h2⟩ := List.mem_filter.1 ht
      exact .inr ⟨h1, by simpa using h2, rfl⟩
  · rintro (⟨h1, h2, h3⟩ | ⟨h1, h2, h3⟩)
    · exact .inl ⟨x.1, List.mem_filter.2 ⟨h1, by simpa using h2⟩, by rw [← h3]⟩
    · exact .inr ⟨x.1, List.mem_filter.2 ⟨h1, by simpa using h2⟩, by rw [← h3]⟩
def insC (v : CV) : List CV → List CV
  | [] => [v]
  | m :: r => if tcmp v.1 m.1 < 0 then v :: m :: r else m :: insC v r
theorem insC_mem (v x : CV) : ∀ M, x ∈ insC v M ↔ x = v ∨ x ∈ M
  | [] => by simp [insC]
  | m :: r => by
    unfold insC
    split
    · simp
    · simp only [List.mem_cons, insC_mem v x r]
      constructor
      · rintro (h | h | h)
        · exact .inr (.inl h)
        · exact .inl h
        · exact .inr (.inr h)
      · rintro (h | h | h)
        · exact .inr (.inl h)
        · exact .inl h
        · exact .inr (.inr h)
def RisingC (l : List CV) : Prop := l.Pairwise fun x y => tcmp x.1 y.1 < 0
theorem insC_rising (v : CV) : ∀ {M}, RisingC M → (∀ x ∈ M, x.1 ≠ v.1) → RisingC (insC v M)
  | [], _, _ => List.pairwise_singleton _ _
  | m :: r, h, hn => by
    unfold RisingC at h
    obtain ⟨h1, h2⟩ := List.pairwise_cons.1 h
    unfold insC
    split
    · rename_i hv
      exact List.pairwise_cons.2 ⟨fun y hy => by
        rcases List.mem_cons.1 hy with rfl | hy
        · exact hv
        · exact tcmp_lt_trans hv (by have := h1 y hy; omega), h⟩
    · rename_i q1
      have q3 := tcmp_neg m.1 v.1
      have q2 : tcmp v.1 m.1 ≠ 0 := fun e => hn m (by simp) (tcmp_zero.1 e).symm
      exact List.pairwise_cons.2 ⟨fun y hy => by
        rcases (insC_mem v y r).1 hy with rfl | hy
        · omega
        · exact h1 y hy, insC_rising v h2 (fun x hx => hn x (List.mem_cons_of_mem _ hx))⟩
/-- what is told: sorted -/
def movedV (was now : List TV) : List CV := (movedL was now).foldr insC []
theorem foldr_insC : ∀ {L : List CV}, KeysC L → RisingC (L.foldr insC []) ∧ ∀ x, x ∈ L.foldr insC [] ↔ x ∈ L
  | [], _ => ⟨List.Pairwise.nil, fun _ => Iff.rfl⟩
  | v :: L, h => by
    obtain ⟨h1, h2⟩ := List.pairwise_cons.1 h
    have ih := foldr_insC h2
    rw [List.foldr_cons]
    refine ⟨insC_rising v ih.1 (fun x hx e => h1 x ((ih.2 x).1 hx) e.symm), fun x => ?_⟩
    rw [insC_mem, ih.2 x, List.mem_cons]
theorem rising_ne {l : List TV} (h : Rising l) : l.Pairwise (· ≠ ·) := List.Pairwise.imp (fun q e => by rw [e, tcmp_zero.2 rfl] at q; omega) h
theorem movedL_keys {was now : List TV} (h : Rising was) (k : Rising now) : KeysC (movedL was now) := by
  unfold KeysC movedL
  refine List.pairwise_append.2 ⟨?_, ?_, fun x hx y hy e => ?_⟩
  · exact List.pairwise_map.2 ((rising_ne h).filter _)
  · exact List.pairwise_map.2 ((rising_ne k).filter _)
  · obtain ⟨t, ht, rfl⟩ := List.mem_map.1 hx
    obtain ⟨s, hs, rfl⟩ := List.mem_map.1 hy
    have h1 := (List.mem_filter.1 ht).2
    have h2 := (List.mem_filter.1 hs).1
    simp only at e
    subst e
    simp [h2] at h1
/-- whatever rises and has those that moved is what is told -/
theorem moved_unique {was now : List TV} (h : Rising was) (k : Rising now) {M : List CV} (hr : RisingC M) (hm : ∀ x, x ∈ M ↔ x ∈ movedL was now) : M = movedV was now := by
  have q := foldr_insC (movedL_keys h k)
  obtain ⟨N, hN⟩ : ∃ N, movedV was now = N := ⟨_, rfl⟩
  rw [hN]
  have q2 : RisingC N ∧ ∀ x, x ∈ N ↔ x ∈ movedL was now := hN ▸ q
  unfold RisingC at hr q2
  exact rise_ext (fun x : CV => x.1) hr q2.1 fun x => (hm x).trans (q2.2 x).symm
end Go.Proofs.YtdgbkpoickbidaaGreatDoor
