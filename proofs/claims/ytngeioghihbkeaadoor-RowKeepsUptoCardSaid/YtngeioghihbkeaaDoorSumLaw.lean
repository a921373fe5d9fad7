/- The plain law of row.Sum: same rows put together, sorted. Conditions: none. -/
import Derived.Test.YtngeioghihbkeaaDoorCts
namespace Go.Proofs.YtngeioghihbkeaaDoor
open Go.RowKit

abbrev V := List Dat × Int
def cmpV (x y : V) : Int := cmpR x.1 y.1
theorem cmpV_tot : TotPre cmpV := ⟨fun x y => cmpR_neg x.1 y.1, fun x y z => cmpR_trans x.1 y.1 z.1⟩
def valC (x : Ct) : V := (x.l, x.k)
def w64 (n : Int) : Int := IntKind.i64.wrap n
theorem w64_add (a b : Int) : w64 (w64 a + b) = w64 (a + b) := by
  unfold w64
  simp only [IntKind.wrap_i64]
  omega
theorem w64_id {a : Int} (h : -9223372036854775808 ≤ a ∧ a ≤ 9223372036854775807) : w64 a = a := IntWalk.i64_in _ (by omega)
theorem w64_in (a : Int) : -9223372036854775808 ≤ w64 a ∧ w64 a ≤ 9223372036854775807 := by
  unfold w64
  simp only [IntKind.wrap_i64]
  omega
def InV (x : V) : Prop := -9223372036854775808 ≤ x.2 ∧ x.2 ≤ 9223372036854775807
def cnt (l : List V) : Int := w64 (l.foldr (fun x a => x.2 + a) 0)
theorem cnt_snoc (l : List V) (x : V) : cnt (l ++ [x]) = w64 (cnt l + x.2) := by
  unfold cnt
  rw [w64_add]
  congr 1
  induction l with
  | nil => simp
  | cons y l ih => simp only [List.cons_append, List.foldr_cons]; rw [ih]; omega
theorem cnt_one {x : V} (h : InV x) : cnt [x] = x.2 := by
  show w64 (x.2 + 0) = x.2
  rw [Int.add_zero]
  exact w64_id h
def sumClass : List V → List V
  | [] => []
  | x :: xs => [(x.1, cnt (x :: xs))]
theorem sumClass_one {x : V} (h : InV x) : sumClass [x] = [x] := by
  show [(x.1, cnt [x])] = [x]
  rw [cnt_one h]
theorem sumClass_nil {l : List V} (h : sumClass l = []) : l = [] := by
  cases l with
  | nil => rfl
  | cons x l => exact nomatch h
theorem sumClass_snoc {l : List V} {y x : V} (h : [y] = sumClass l) : sumClass (l ++ [x]) = [(y.1, w64 (y.2 + x.2))] := by
  cases l with
  | nil => exact nomatch h
  | cons z l =>
    injection h with h _
    subst h
    show [(z.1, cnt ((z :: l) ++ [x]))] = _
    rw [cnt_snoc]
theorem sumClass_twice (l : List V) : sumClass (sumClass l) = sumClass l := by
  cases l with
  | nil => rfl
  | cons x l =>
    show [(x.1, w64 (cnt (x :: l) + 0))] = [(x.1, cnt (x :: l))]
    rw [Int.add_zero, show w64 (cnt (x :: l)) = cnt (x :: l) from w64_id (w64_in _)]
theorem sumClass_mem {l : List V} {y : V} (h : y ∈ sumClass l) : sumClass l = [y] := by
  cases l with
  | nil => cases h
  | cons x l =>
    have : y = (x.1, cnt (x :: l)) := by simpa [sumClass] using h
    rw [this]
    rfl
/-- R is D, same rows put together, sorted -/
structure Summed (D R : List V) : Prop where
  sorted : R.Pairwise fun x y => cmpV x y < 0
  same : ∀ c, alike cmpV c R = sumClass (alike cmpV c D)
theorem Summed.unique {D R S : List V} (h : Summed D R) (k : Summed D S) : R = S :=
  Stable.unique cmpV_tot (l := R) ⟨h.sorted.imp fun q => Int.le_of_lt q, fun _ => rfl⟩ ⟨k.sorted.imp fun q => Int.le_of_lt q, fun c => by rw [h.same, k.same]⟩
theorem alike_one (c x : V) : alike cmpV c [x] = if cmpV c x = 0 then [x] else [] := by
  unfold alike
  by_cases h : cmpV c x = 0
  · rw [if_pos h, List.filter_cons_of_pos (by simpa using h)]
    rfl
  · rw [if_neg h, List.filter_cons_of_neg (by simpa using h)]
    rfl
theorem alike_none {c : V} {l : List V} (h : ∀ y ∈ l, ¬ cmpV c y = 0) : alike cmpV c l = [] := List.filter_eq_nil_iff.2 fun y hy q => h y hy (by simpa using q)
theorem cmpV_fst (x : V) (a b : Int) (l : List Dat) : cmpV x (l, a) = cmpV x (l, b) := rfl
/-! ### rows that are alike, side by side -/
def mergeStep (M : List V) (x : V) : List V := match M.getLast? with
  | some y => if cmpV y x = 0 then M.dropLast ++ [(y.1, w64 (y.2 + x.2))] else M ++ [x]
  | none => [x]
def mergeV (S : List V) : List V := S.foldl mergeStep []
theorem mergeStep_nil (x : V) : mergeStep [] x = [x] := rfl
theorem mergeStep_snoc (M : List V) (y x : V) : mergeStep (M ++ [y]) x = if cmpV y x = 0 then M ++ [(y.1, w64 (y.2 + x.2))] else M ++ [y] ++ [x] := by
  unfold mergeStep
  rw [List.getLast?_append, List.getLast?_singleton]
  simp
theorem mergeV_snoc (S : List V) (x : V) : mergeV (S ++ [x]) = mergeStep (mergeV S) x := by
  unfold mergeV
  rw [List.foldl_append]
  rfl
theorem snoc_ind {α : Type} {p : List α → Prop} (h0 : p []) (h1 : ∀ l x, p l → p (l ++ [x])) (l : List α) : p l := by
  have key : ∀ m : List α, p m.reverse := fun m => by
    induction m with
    | nil => exact h0
    | cons x m ih => rw [List.reverse_cons]; exact h1 _ _ ih
  have := key l.reverse
  rwa [List.reverse_reverse] at this
theorem merge_sum (S : List V) : S.Pairwise (fun x y => cmpV x y ≤ 0) → (∀ x ∈ S, InV x) → Summed S (mergeV S) ∧ ((S = [] ∧ mergeV S = []) ∨ ∃ S0 s M0 y, S = S0 ++ [s] ∧ mergeV S = M0 ++ [y] ∧ cmpV y s = 0) := by
  refine snoc_ind (p := fun S => S.Pairwise (fun x y => cmpV x y ≤ 0) → (∀ x ∈ S, InV x) → Summed S (mergeV S) ∧ ((S = [] ∧ mergeV S = []) ∨ ∃ S0 s M0 y, S = S0 ++ [s] ∧ mergeV S = M0 ++ [y] ∧ cmpV y s = 0)) ?_ ?_ S
  · exact fun _ _ => ⟨⟨List.Pairwise.nil, fun _ => rfl⟩, .inl ⟨rfl, rfl⟩⟩
  · intro S x ih hs hin
    have hs' := List.pairwise_append.1 hs
    have hx := hin x (by simp)
    obtain ⟨⟨i1, i2⟩, i3⟩ := ih hs'.1 (fun y hy => hin y (List.mem_append_left _ hy))
    rw [mergeV_snoc]
    rcases i3 with ⟨rfl, i4⟩ | ⟨S0, s, M0, y, e1, e2, e3⟩
    · rw [i4, mergeStep_nil]
      refine ⟨⟨List.pairwise_singleton _ _, fun c => ?_⟩, .inr ⟨[], x, [], x, rfl, rfl, cmpV_tot.refl x⟩⟩
      rw [List.nil_append, alike_one]
      split
      · rw [sumClass_one hx]
      · rfl
    · rw [e2] at i1 i2 ⊢
      rw [mergeStep_snoc]
      have p1 := List.pairwise_append.1 i1
      have hlast : ∀ m ∈ M0, cmpV m y < 0 := fun m hm => p1.2.2 m hm y (by simp)
      have hsx : cmpV s x ≤ 0 := hs'.2.2 s (by rw [e1]; simp) x (by simp)
      have hyx : cmpV y x ≤ 0 := cmpV_tot.trans y s x (by omega) hsx
      by_cases h0 : cmpV y x = 0
      · rw [if_pos h0]
        refine ⟨⟨List.pairwise_append.2 ⟨p1.1, List.pairwise_singleton _ _, fun m hm z hz => ?_⟩, fun c => ?_⟩, .inr ⟨S, x, M0, _, rfl, rfl, h0⟩⟩
        · rw [List.mem_singleton.1 hz]; exact hlast m hm
        · have q := i2 c
          rw [alike_append, alike_one] at q
          rw [alike_append, alike_append, alike_one, alike_one]
          by_cases hc : cmpV c y = 0
          · have hcx : cmpV c x = 0 := cmpV_tot.eq_trans hc h0
            have hM : alike cmpV c M0 = [] := alike_none fun m hm e => by
              have := hlast m hm
              have := (cmpV_tot.eq_left (z := y) (show cmpV m c = 0 by rw [cmpV_tot.neg, e]; rfl)).2 hc
              omega
            rw [if_pos hc, hM, List.nil_append] at q
            rw [if_pos (show cmpV c (y.1, w64 (y.2 + x.2)) = 0 from hc), if_pos hcx, hM, List.nil_append]
            exact (sumClass_snoc q).symm
          · have hcx : ¬ cmpV c x = 0 := fun e => hc (cmpV_tot.eq_trans e (by rw [cmpV_tot.neg, h0]; rfl))
            rw [if_neg hc] at q
            rw [if_neg (show ¬ cmpV c (y.1, w64 (y.2 + x.2)) = 0 from hc), if_neg hcx, List.append_nil (alike cmpV c S)]
            exact q
      · rw [if_neg h0]
        have hlt : ∀ m ∈ M0 ++ [y], cmpV m x < 0 := fun m hm => by
          rcases List.mem_append.1 hm with h | h
          · exact cmpV_tot.lt_of_lt_le (hlast m h) hyx
          · rw [List.mem_singleton.1 h]; omega
        refine ⟨⟨List.pairwise_append.2 ⟨i1, List.pairwise_singleton _ _, fun m hm z hz => ?_⟩, fun c => ?_⟩, .inr ⟨S, x, M0 ++ [y], x, rfl, rfl, cmpV_tot.refl x⟩⟩
        · rw [List.mem_singleton.1 hz]; exact hlt m hm
        · have q := i2 c
          have e4 : alike cmpV c (M0 ++ [y] ++ [x]) = alike cmpV c (M0 ++ [y]) ++ alike cmpV c [x] := alike_append _ _ _
          have e5 : alike cmpV c (S ++ [x]) = alike cmpV c S ++ alike cmpV c [x] := alike_append _ _ _
          rw [e4, e5, q, alike_one]
          by_cases hc : cmpV c x = 0
          · have hM : alike cmpV c (M0 ++ [y]) = [] := alike_none fun m hm e => by
              have := hlt m hm
              have := (cmpV_tot.eq_left (z := x) (show cmpV m c = 0 by rw [cmpV_tot.neg, e]; rfl)).2 hc
              omega
            rw [hM] at q
            rw [sumClass_nil q.symm, if_pos hc]
            show [] ++ [x] = sumClass ([] ++ [x])
            rw [List.nil_append, sumClass_one hx]
          · rw [if_neg hc, List.append_nil, List.append_nil]
theorem Summed.of_stable {D S : List V} (h : Stable cmpV D S) (hin : ∀ x ∈ D, InV x) : Summed D (mergeV S) := by
  have k := (merge_sum S h.sorted (fun x hx => hin x ((h.mem cmpV_tot x).1 hx))).1
  exact ⟨k.sorted, fun c => by rw [k.same, h.same]⟩
/-- parts that have been put together ahead -/
theorem Summed.of_dedup {L D R : List V} (h : ∀ c, alike cmpV c D = sumClass (alike cmpV c L)) (k : Summed D R) : Summed L R := ⟨k.sorted, fun c => by rw [k.same, h, sumClass_twice]⟩
/-! ### the document's way: one more row, put into its place -/
def addV : List V → V → List V
  | [], x => [x]
  | y :: R, x => if cmpV y x < 0 then y :: addV R x else if cmpV y x = 0 then (y.1, w64 (y.2 + x.2)) :: R else x :: y :: R
theorem alike_cons (c y : V) (R : List V) : alike cmpV c (y :: R) = (if cmpV c y = 0 then [y] else []) ++ alike cmpV c R := by
  have := alike_append (cmp := cmpV) c [y] R
  rw [alike_one] at this
  exact this
theorem addV_mem (x : V) : ∀ (R : List V) (z : V), (∀ y ∈ R, cmpV z y < 0) → cmpV z x < 0 → ∀ y ∈ addV R x, cmpV z y < 0
  | [], z, _, hx, y, hy => by rw [List.mem_singleton.1 hy]; exact hx
  | a :: R, z, h, hx, y, hy => by
    unfold addV at hy
    split at hy
    · rcases List.mem_cons.1 hy with rfl | q
      · exact h _ (List.mem_cons_self ..)
      · exact addV_mem x R z (fun b hb => h b (List.mem_cons_of_mem _ hb)) hx y q
    · split at hy
      · rcases List.mem_cons.1 hy with rfl | q
        · exact h a (List.mem_cons_self ..)
        · exact h y (List.mem_cons_of_mem _ q)
      · rcases List.mem_cons.1 hy with rfl | q
        · exact hx
        · exact h y q
theorem addV_same (x : V) (hx : InV x) (c : V) : ∀ (R : List V) (l : List V), R.Pairwise (fun x y => cmpV x y < 0) → alike cmpV c R = sumClass l → alike cmpV c (addV R x) = sumClass (l ++ if cmpV c x = 0 then [x] else [])
  | [], l, _, h => by
    have := sumClass_nil (show sumClass l = [] from h.symm)
    subst this
    show alike cmpV c [x] = _
    rw [alike_one]
    split
    · rw [List.nil_append, sumClass_one hx]
    · rfl
  | y :: R, l, hp, h => by
    have hp' := List.pairwise_cons.1 hp
    unfold addV
    by_cases h1 : cmpV y x < 0
    · rw [if_pos h1, alike_cons]
      rw [alike_cons] at h
      by_cases hc : cmpV c y = 0
      · have hcx : ¬ cmpV c x = 0 := fun e => by have := (cmpV_tot.eq_left (z := x) hc).1 e; omega
        rw [if_pos hc] at h ⊢
        have hR : alike cmpV c R = [] := alike_none fun z hz e => by
          have := hp'.1 z hz
          have := (cmpV_tot.eq_left (z := z) hc).1 e
          omega
        rw [hR] at h
        have := addV_same x hx c R [] hp'.2 hR
        rw [this, if_neg hcx, List.append_nil, List.append_nil]
        exact h
      · rw [if_neg hc] at h ⊢
        exact addV_same x hx c R l hp'.2 h
    · rw [if_neg h1]
      by_cases h2 : cmpV y x = 0
      · rw [if_pos h2, alike_cons]
        rw [alike_cons] at h
        by_cases hc : cmpV c y = 0
        · have hcx : cmpV c x = 0 := cmpV_tot.eq_trans hc h2
          have hR : alike cmpV c R = [] := alike_none fun z hz e => by
            have := hp'.1 z hz
            have := (cmpV_tot.eq_left (z := z) hc).1 e
            omega
          rw [if_pos hc, hR] at h
          rw [if_pos (show cmpV c (y.1, w64 (y.2 + x.2)) = 0 from hc), hR, if_pos hcx]
          exact (sumClass_snoc h).symm
        · have hcx : ¬ cmpV c x = 0 := fun e => hc (cmpV_tot.eq_trans e (by rw [cmpV_tot.neg, h2]; rfl))
          rw [if_neg hc] at h
          rw [if_neg (show ¬ cmpV c (y.1, w64 (y.2 + x.2)) = 0 from hc), if_neg hcx, List.append_nil]
          exact h
      · rw [if_neg h2, alike_cons]
        by_cases hc : cmpV c x = 0
        · have hyx : cmpV x y < 0 := by rw [cmpV_tot.neg]; omega
          have hR : alike cmpV c (y :: R) = [] := alike_none fun z hz e => by
            have hxz : cmpV x z < 0 := by
              rcases List.mem_cons.1 hz with rfl | q
              · exact hyx
              · exact cmpV_tot.lt_of_lt_le hyx (Int.le_of_lt (hp'.1 z q))
            have := (cmpV_tot.eq_left (z := z) hc).1 e
            omega
          rw [hR] at h ⊢
          rw [if_pos hc, sumClass_nil h.symm]
          show [x] ++ [] = sumClass ([] ++ [x])
          rw [List.nil_append, sumClass_one hx]
          rfl
        · rw [if_neg hc, List.nil_append, List.append_nil]
          exact h
theorem addV_sorted (x : V) : ∀ R : List V, R.Pairwise (fun x y => cmpV x y < 0) → (addV R x).Pairwise (fun x y => cmpV x y < 0)
  | [], _ => List.pairwise_singleton _ _
  | y :: R, h => by
    have h' := List.pairwise_cons.1 h
    unfold addV
    split
    · rename_i h1
      exact List.pairwise_cons.2 ⟨addV_mem x R y h'.1 h1, addV_sorted x R h'.2⟩
    · split
      · exact List.pairwise_cons.2 ⟨fun z hz => h'.1 z hz, h'.2⟩
      · rename_i h1 h2
        have hyx : cmpV x y < 0 := by rw [cmpV_tot.neg]; omega
        exact List.pairwise_cons.2 ⟨fun z hz => (List.mem_cons.1 hz).elim (fun e => e ▸ hyx) (fun q => cmpV_tot.lt_of_lt_le hyx (Int.le_of_lt (h'.1 z q))), h⟩
theorem Summed.add {D R : List V} {x : V} (h : Summed D R) (hx : InV x) : Summed (D ++ [x]) (addV R x) := ⟨addV_sorted x R h.sorted, fun c => by rw [addV_same x hx c R _ h.sorted (h.same c), alike_append, alike_one]⟩
def sumAll (L : List V) : List V := L.foldl addV []
theorem Summed.all (L : List V) : (∀ x ∈ L, InV x) → Summed L (sumAll L) := by
  refine snoc_ind (p := fun L => (∀ x ∈ L, InV x) → Summed L (sumAll L)) (fun _ => ⟨List.Pairwise.nil, fun _ => rfl⟩) (fun L x ih h => ?_) L
  unfold sumAll
  rw [List.foldl_append]
  exact (ih (fun y hy => h y (List.mem_append_left _ hy))).add (h x (by simp))
/-- what Sum answers -/
def sumV (L : List V) : List V := (sumAll L).filter fun x => !(x.2 == 0)
/-! ### one row more in a list of different rows -/
theorem dedup_new {L O : List V} {x : V} (h : ∀ c, alike cmpV c O = sumClass (alike cmpV c L)) (hx : InV x) (hn : ∀ y ∈ O, ¬ cmpV y x = 0) (c : V) : alike cmpV c (O ++ [x]) = sumClass (alike cmpV c (L ++ [x])) := by
  rw [alike_append, alike_append, h, alike_one]
  by_cases hc : cmpV c x = 0
  · have hO : alike cmpV c O = [] := alike_none fun y hy e => hn y hy (cmpV_tot.eq_trans (by rw [cmpV_tot.neg, e]; rfl) hc)
    have := h c
    rw [hO] at this
    rw [sumClass_nil this.symm, if_pos hc]
    show [] ++ [x] = sumClass ([] ++ [x])
    rw [List.nil_append, sumClass_one hx]
  · rw [if_neg hc, List.append_nil, List.append_nil]
theorem dedup_old {L P Q : List V} {y x : V} (h : ∀ c, alike cmpV c (P ++ y :: Q) = sumClass (alike cmpV c L)) (hy : cmpV y x = 0) (c : V) : alike cmpV c (P ++ (y.1, w64 (y.2 + x.2)) :: Q) = sumClass (alike cmpV c (L ++ [x])) := by
  have q := h c
  rw [alike_append, alike_cons] at q
  rw [alike_append, alike_cons, alike_append, alike_one]
  by_cases hc : cmpV c y = 0
  · have hcx : cmpV c x = 0 := cmpV_tot.eq_trans hc hy
    rw [if_pos hc] at q
    have hm := sumClass_mem (l := alike cmpV c L) (y := y) (by rw [← q]; simp)
    have hl := congrArg List.length (q.trans hm)
    simp only [List.length_append, List.length_cons, List.length_nil] at hl
    have hP : alike cmpV c P = [] := List.eq_nil_of_length_eq_zero (by omega)
    have hQ : alike cmpV c Q = [] := List.eq_nil_of_length_eq_zero (by omega)
    rw [if_pos (show cmpV c (y.1, w64 (y.2 + x.2)) = 0 from hc), if_pos hcx, hP, hQ]
    exact (sumClass_snoc hm.symm).symm
  · have hcx : ¬ cmpV c x = 0 := fun e => hc (cmpV_tot.eq_trans e (by rw [cmpV_tot.neg, hy]; rfl))
    rw [if_neg hc] at q
    rw [if_neg (show ¬ cmpV c (y.1, w64 (y.2 + x.2)) = 0 from hc), if_neg hcx, List.append_nil (alike cmpV c L)]
    exact q
end Go.Proofs.YtngeioghihbkeaaDoor
