/- Times as values; antichains: which lists they are. Plain. -/
import Derived.Test.YtmdakaflmheidaaGreatDoorOrderLaw
import Derived.Test.YtmdakaflmheidaaGreatDoorSortLaw
namespace Go.Proofs.YtmdakaflmheidaaGreatDoor

abbrev TV := Int × List Int
def tcmp (x y : TV) : Int := cmpTT x.1 x.2 y.1 y.2
def tleq (x y : TV) : Bool := leqT x.1 x.2 y.1 y.2
theorem cmpT_neg (x y : Int) : cmpT y x = -cmpT x y := by
  unfold cmpT
  repeat' split
  all_goals omega
theorem cmpT_pos {x y : Int} : cmpT x y < 0 ↔ x < y := by
  unfold cmpT
  repeat' split
  all_goals omega
theorem lexT_neg : ∀ l m : List Int, lexT m l = -lexT l m
  | [], [] => rfl
  | [], _ :: _ => rfl
  | _ :: _, [] => rfl
  | x :: l, y :: m => by
    simp only [lexT]
    rw [cmpT_neg x y]
    by_cases h : cmpT x y = 0
    · rw [if_pos (by omega), if_pos h]; exact lexT_neg l m
    · rw [if_neg (by omega), if_neg h]
theorem lexT_trans : ∀ l m n : List Int, lexT l m ≤ 0 → lexT m n ≤ 0 → lexT l n ≤ 0
  | [], [], n, _, h => h
  | [], _ :: _, [], _, h => by simp [lexT] at h
  | [], _ :: _, _ :: _, _, _ => by simp [lexT]
  | _ :: _, [], _, h, _ => by simp [lexT] at h
  | _ :: _, _ :: _, [], _, h => by simp [lexT] at h
  | x :: l, y :: m, z :: n, h, k => by
    simp only [lexT] at h k ⊢
    by_cases h1 : cmpT x y = 0
    · have e := cmpT_zero.1 h1
      subst e
      rw [if_pos h1] at h
      by_cases h2 : cmpT x z = 0
      · rw [if_pos h2] at k ⊢
        exact lexT_trans l m n h k
      · rw [if_neg h2] at k ⊢
        exact k
    · rw [if_neg h1] at h
      have l1 : x < y := cmpT_pos.1 (by omega)
      by_cases h2 : cmpT y z = 0
      · have e := cmpT_zero.1 h2
        subst e
        rw [if_neg h1]
        exact h
      · rw [if_neg h2] at k
        have l2 : y < z := cmpT_pos.1 (by omega)
        have l3 : cmpT x z < 0 := cmpT_pos.2 (by omega)
        rw [if_neg (by omega)]
        omega
theorem orT_le {a b c : Int} : orT a b c ≤ 0 ↔ a < 0 ∨ (a = 0 ∧ (b < 0 ∨ (b = 0 ∧ c ≤ 0))) := by
  unfold orT
  split
  · split <;> omega
  · omega
theorem tcmp_neg (x y : TV) : tcmp y x = -tcmp x y := by
  unfold tcmp cmpTT
  rw [cmpT_neg x.2.length, cmpT_neg x.1, lexT_neg x.2]
  unfold orT
  by_cases h1 : cmpT x.2.length y.2.length = 0
  · rw [if_pos (by omega), if_pos h1]
    by_cases h2 : cmpT x.1 y.1 = 0
    · rw [if_pos (by omega), if_pos h2]
    · rw [if_neg (by omega), if_neg h2]
  · rw [if_neg (by omega), if_neg h1]
theorem tcmp_trans (x y z : TV) (h : tcmp x y ≤ 0) (k : tcmp y z ≤ 0) : tcmp x z ≤ 0 := by
  unfold tcmp cmpTT at h k ⊢
  rw [orT_le] at h k ⊢
  rw [cmpT_pos, cmpT_zero, cmpT_pos, cmpT_zero] at h k ⊢
  rcases h with h | ⟨h1, h | ⟨h2, h3⟩⟩ <;> rcases k with k | ⟨k1, k | ⟨k2, k3⟩⟩
  · exact .inl (by omega)
  · exact .inl (by omega)
  · exact .inl (by omega)
  · exact .inl (by omega)
  · exact .inr ⟨by omega, .inl (by omega)⟩
  · exact .inr ⟨by omega, .inl (by omega)⟩
  · exact .inl (by omega)
  · exact .inr ⟨by omega, .inl (by omega)⟩
  · exact .inr ⟨by omega, .inr ⟨by omega, lexT_trans _ _ _ h3 k3⟩⟩
theorem tcmp_zero {x y : TV} : tcmp x y = 0 ↔ x = y := by
  unfold tcmp
  rw [cmp_zero]
  exact ⟨fun h => Prod.ext h.1 h.2, fun h => by rw [h]; exact ⟨rfl, rfl⟩⟩
theorem tcmp_lt_trans {x y z : TV} (h : tcmp x y < 0) (k : tcmp y z ≤ 0) : tcmp x z < 0 := by
  have h1 := tcmp_trans x y z (by omega) k
  rcases Int.lt_or_eq_of_le h1 with h2 | h2
  · exact h2
  · have e := tcmp_zero.1 h2
    subst e
    have := tcmp_neg x y
    omega
theorem tleq_refl (x : TV) : tleq x x = true := leq_refl _ _
theorem tleq_trans {x y z : TV} (h : tleq x y = true) (k : tleq y z = true) : tleq x z = true := leq_trans h k
theorem tleq_cmp {x y : TV} (h : tleq x y = true) : tcmp x y ≤ 0 := cmp_le h
theorem tleq_anti {x y : TV} (h : tleq x y = true) (k : tleq y x = true) : x = y := tcmp_zero.1 (cmp_both.1 ⟨h, k⟩)

/-! ### lists that rise -/
def Rising (l : List TV) : Prop := l.Pairwise fun x y => tcmp x y < 0
theorem rising_ext : ∀ {a b : List TV}, Rising a → Rising b → (∀ x, x ∈ a ↔ x ∈ b) → a = b
  | [], [], _, _, _ => rfl
  | [], y :: b, _, _, h => by have := (h y).2 (by simp); simp at this
  | x :: a, [], _, _, h => by have := (h x).1 (by simp); simp at this
  | x :: a, y :: b, ha, hb, h => by
    unfold Rising at ha hb
    rw [List.pairwise_cons] at ha hb
    have e : x = y := by
      have h1 : x ∈ y :: b := (h x).1 (by simp)
      have h2 : y ∈ x :: a := (h y).2 (by simp)
      rcases List.mem_cons.1 h1 with h1 | h1
      · exact h1
      · rcases List.mem_cons.1 h2 with h2 | h2
        · exact h2.symm
        · have q1 := hb.1 x h1
          have q2 := ha.1 y h2
          have := tcmp_neg x y
          omega
    subst e
    rw [rising_ext ha.2 hb.2 (fun z => by
      constructor
      · intro hz
        rcases List.mem_cons.1 ((h z).1 (List.mem_cons_of_mem _ hz)) with e | e
        · have := ha.1 z hz
          rw [e, tcmp_zero.2 rfl] at this
          omega
        · exact e
      · intro hz
        rcases List.mem_cons.1 ((h z).2 (List.mem_cons_of_mem _ hz)) with e | e
        · have := hb.1 z hz
          rw [e, tcmp_zero.2 rfl] at this
          omega
        · exact e)]
theorem filter_len_le {α : Type} {p q : α → Bool} (h : ∀ z, p z = true → q z = true) : ∀ l : List α, (l.filter p).length ≤ (l.filter q).length
  | [] => Nat.le_refl _
  | x :: l => by
    have ih := filter_len_le h l
    rw [List.filter_cons, List.filter_cons]
    by_cases hp : p x = true
    · rw [if_pos hp, if_pos (h x hp)]; simpa using ih
    · rw [if_neg hp]
      split
      · exact Nat.le_succ_of_le ih
      · exact ih
theorem filter_less {α : Type} {p q : α → Bool} (h : ∀ z, p z = true → q z = true) {a : α} : ∀ {l : List α}, a ∈ l → p a = false → q a = true → (l.filter p).length < (l.filter q).length
  | x :: l, ha, hp, hq => by
    rw [List.filter_cons, List.filter_cons]
    rcases List.mem_cons.1 ha with rfl | ha
    · rw [if_neg (by rw [hp]; decide), if_pos hq]
      exact Nat.lt_succ_of_le (filter_len_le h l)
    · have ih := filter_less h ha hp hq
      by_cases hx : p x = true
      · rw [if_pos hx, if_pos (h x hx)]; simpa using ih
      · rw [if_neg hx]
        split
        · exact Nat.lt_succ_of_lt ih
        · exact ih
/-- a time of the list that none of the list is ahead of -/
def Least (L : List TV) (v : TV) : Prop := v ∈ L ∧ ∀ u ∈ L, tleq u v = true → u = v
theorem least_below : ∀ (n : Nat) (L : List TV) (v : TV), (L.filter fun u => decide (tcmp u v < 0)).length ≤ n → v ∈ L → ∃ m, Least L m ∧ tleq m v = true
  | n, L, v, hn, hv => by
    by_cases h : ∃ u ∈ L, tleq u v = true ∧ u ≠ v
    · obtain ⟨u, hu, huv, hne⟩ := h
      have hlt : tcmp u v < 0 := by
        have := tleq_cmp huv
        have h0 : tcmp u v ≠ 0 := fun e => hne (tcmp_zero.1 e)
        omega
      have hlen : (L.filter fun z => decide (tcmp z u < 0)).length < (L.filter fun z => decide (tcmp z v < 0)).length := by
        have hsub : ∀ z, decide (tcmp z u < 0) = true → decide (tcmp z v < 0) = true := fun z hz => by
          rw [decide_eq_true_iff] at hz ⊢
          exact tcmp_lt_trans hz (by omega)
        exact filter_less hsub hu (by rw [tcmp_zero.2 rfl]; decide) (by rw [decide_eq_true_iff]; exact hlt)
      match n, hn with
      | 0, hn => omega
      | n + 1, hn =>
        obtain ⟨m, h1, h2⟩ := least_below n L u (by omega) hu
        exact ⟨m, h1, tleq_trans h2 huv⟩
    · refine ⟨v, ⟨hv, fun u hu huv => ?_⟩, tleq_refl v⟩
      by_cases e : u = v
      · exact e
      · exact absurd ⟨u, hu, huv, e⟩ h
/-- M is the antichain of L -/
structure IsOf (L M : List TV) : Prop where
  rising : Rising M
  mem : ∀ v, v ∈ M ↔ Least L v
theorem IsOf.unique {L M N : List TV} (h : IsOf L M) (k : IsOf L N) : M = N := rising_ext h.rising k.rising fun v => (h.mem v).trans (k.mem v).symm
theorem Least.congr {L L' : List TV} (h : ∀ v, v ∈ L ↔ v ∈ L') (v : TV) : Least L v ↔ Least L' v :=
  ⟨fun q => ⟨(h v).1 q.1, fun u hu => q.2 u ((h u).2 hu)⟩, fun q => ⟨(h v).2 q.1, fun u hu => q.2 u ((h u).1 hu)⟩⟩
theorem IsOf.congr {L L' M : List TV} (h : ∀ v, v ∈ L ↔ v ∈ L') (k : IsOf L M) : IsOf L' M := ⟨k.rising, fun v => (k.mem v).trans (Least.congr h v)⟩
/-- beyond -/
def beyondV (M : List TV) (t : TV) : Bool := M.any fun x => tleq x t
theorem beyond_iff {M : List TV} {t : TV} : beyondV M t = true ↔ ∃ x ∈ M, tleq x t = true := by unfold beyondV; exact List.any_eq_true
/-- what the program has, when it has looked at so many of the sorted list -/
structure OfUpto (L S : List TV) (i : Nat) (M : List TV) : Prop where
  rising : Rising M
  mem : ∀ v, v ∈ M ↔ Least L v ∧ v ∈ S.take i
theorem OfUpto.zero (L S : List TV) : OfUpto L S 0 [] := ⟨List.Pairwise.nil, fun v => by simp⟩
theorem take_mem_succ {α : Type} {l : List α} {i : Nat} (h : i < l.length) (v : α) : v ∈ l.take (i + 1) ↔ v ∈ l.take i ∨ v = l[i] := by
  rw [List.take_succ_eq_append_getElem h, List.mem_append, List.mem_singleton]
theorem OfUpto.skip {L S M : List TV} {i : Nat} (h : OfUpto L S i M) (hi : i < S.length) (hb : beyondV M S[i] = true) : OfUpto L S (i + 1) M := by
  refine ⟨h.rising, fun v => ⟨fun hv => ?_, fun ⟨h1, h2⟩ => ?_⟩⟩
  · have := (h.mem v).1 hv
    exact ⟨this.1, (take_mem_succ hi v).2 (.inl this.2)⟩
  · rcases (take_mem_succ hi v).1 h2 with h2 | rfl
    · exact (h.mem v).2 ⟨h1, h2⟩
    · obtain ⟨x, hx, hxv⟩ := beyond_iff.1 hb
      have q := (h.mem x).1 hx
      have e := h1.2 x q.1.1 hxv
      rw [← e]
      exact hx
theorem OfUpto.put {L S M : List TV} {i : Nat} (h : OfUpto L S i M) (hi : i < S.length) (hs : S.Pairwise fun x y => tcmp x y ≤ 0) (hm : ∀ v, v ∈ S ↔ v ∈ L) (hb : beyondV M S[i] = false) : OfUpto L S (i + 1) (M ++ [S[i]]) := by
  have hno : ∀ x ∈ M, tleq x S[i] = false := fun x hx => by
    by_cases e : tleq x S[i] = true
    · rw [beyond_iff.2 ⟨x, hx, e⟩] at hb; exact absurd hb (by decide)
    · simpa using e
  have hat : ∀ v, v ∈ S → tcmp v S[i] < 0 → v ∈ S.take i := fun v hv hlt => by
    obtain ⟨j, hj, rfl⟩ := List.getElem_of_mem hv
    by_cases hji : j < i
    · exact List.mem_take_iff_getElem.2 ⟨j, by omega, rfl⟩
    · exfalso
      rcases Nat.lt_or_eq_of_le (Nat.le_of_not_lt hji) with q | q
      · have := List.pairwise_iff_getElem.1 hs i j hi hj q
        have := tcmp_neg S[i] S[j]
        omega
      · subst q
        rw [tcmp_zero.2 rfl] at hlt
        omega
  have hti : S[i] ∈ L := (hm _).1 (List.getElem_mem hi)
  have hleast : Least L S[i] := by
    refine ⟨hti, fun u hu huv => ?_⟩
    obtain ⟨m, h1, h2⟩ := least_below _ L u (Nat.le_refl _) hu
    have hmv := tleq_trans h2 huv
    by_cases e : m = S[i]
    · exact tleq_anti huv (e ▸ h2)
    · have hlt : tcmp m S[i] < 0 := by
        have := tleq_cmp hmv
        have h0 : tcmp m S[i] ≠ 0 := fun q => e (tcmp_zero.1 q)
        omega
      have hmM : m ∈ M := (h.mem m).2 ⟨h1, hat m ((hm m).2 h1.1) hlt⟩
      rw [hno m hmM] at hmv
      exact absurd hmv (by decide)
  refine ⟨?_, fun v => ⟨fun hv => ?_, fun ⟨h1, h2⟩ => ?_⟩⟩
  · unfold Rising
    refine List.pairwise_append.2 ⟨h.rising, List.pairwise_singleton _ _, fun x hx y hy => ?_⟩
    rw [List.mem_singleton] at hy
    subst hy
    have hxt := ((h.mem x).1 hx).2
    obtain ⟨j, hj, e⟩ := List.mem_take_iff_getElem.1 hxt
    have q := List.pairwise_iff_getElem.1 hs j i (by omega) hi (by omega)
    rw [e] at q
    have h0 : tcmp x S[i] ≠ 0 := fun z => by
      have e2 := tcmp_zero.1 z
      have := hno x hx
      rw [e2, tleq_refl] at this
      exact absurd this (by decide)
    omega
  · rcases List.mem_append.1 hv with hv | hv
    · have := (h.mem v).1 hv
      exact ⟨this.1, (take_mem_succ hi v).2 (.inl this.2)⟩
    · rw [List.mem_singleton] at hv
      subst hv
      exact ⟨hleast, (take_mem_succ hi _).2 (.inr rfl)⟩
  · rcases (take_mem_succ hi v).1 h2 with h2 | rfl
    · exact List.mem_append_left _ ((h.mem v).2 ⟨h1, h2⟩)
    · exact List.mem_append_right _ (by simp)
theorem OfUpto.done {L S M : List TV} (h : OfUpto L S S.length M) (hm : ∀ v, v ∈ S ↔ v ∈ L) : IsOf L M :=
  ⟨h.rising, fun v => by rw [h.mem v, List.take_length, hm]; exact ⟨fun q => q.1, fun q => ⟨q, q.1⟩⟩⟩
/-- what the document has, when it has looked at so many -/
theorem OfUpto.skipR {L M : List TV} {i : Nat} (h : OfUpto L L i M) (hi : i < L.length) (hb : Least L L[i] → L[i] ∈ L.take i) : OfUpto L L (i + 1) M := by
  refine ⟨h.rising, fun v => ⟨fun hv => ?_, fun ⟨h1, h2⟩ => ?_⟩⟩
  · have := (h.mem v).1 hv
    exact ⟨this.1, (take_mem_succ hi v).2 (.inl this.2)⟩
  · rcases (take_mem_succ hi v).1 h2 with h2 | rfl
    · exact (h.mem v).2 ⟨h1, h2⟩
    · exact (h.mem _).2 ⟨h1, hb h1⟩
theorem OfUpto.putR {L M1 M2 : List TV} {i : Nat} (h : OfUpto L L i (M1 ++ M2)) (hi : i < L.length) (hl : Least L L[i]) (h1 : ∀ x ∈ M1, tcmp x L[i] < 0) (h2 : ∀ x, M2.head? = some x → ¬ tcmp x L[i] < 0) (hn : L[i] ∉ L.take i) : OfUpto L L (i + 1) (M1 ++ [L[i]] ++ M2) := by
  have hr := h.rising
  unfold Rising at hr
  obtain ⟨r1, r2, r3⟩ := List.pairwise_append.1 hr
  have hM2 : ∀ x ∈ M2, tcmp L[i] x < 0 := by
    intro x hx
    have hne : ∀ y ∈ M2, tcmp y L[i] ≠ 0 := fun y hy e => hn (by
      have := ((h.mem y).1 (List.mem_append_right _ hy)).2
      rwa [tcmp_zero.1 e] at this)
    cases M2 with
    | nil => cases hx
    | cons y r =>
      have q0 := h2 y rfl
      have q1 := hne y (by simp)
      have q2 := tcmp_neg y L[i]
      rcases List.mem_cons.1 hx with rfl | hx
      · omega
      · exact tcmp_lt_trans (y := y) (by omega) (by have := (List.pairwise_cons.1 r2).1 x hx; omega)
  refine ⟨?_, fun v => ?_⟩
  · unfold Rising
    refine List.pairwise_append.2 ⟨List.pairwise_append.2 ⟨r1, List.pairwise_singleton _ _, fun x hx y hy => by rw [List.mem_singleton] at hy; subst hy; exact h1 x hx⟩, r2, fun x hx y hy => ?_⟩
    rcases List.mem_append.1 hx with hx | hx
    · exact r3 x hx y hy
    · rw [List.mem_singleton] at hx; subst hx; exact hM2 y hy
  · have q := h.mem v
    rw [List.mem_append] at q
    rw [List.mem_append, List.mem_append, List.mem_singleton, take_mem_succ hi]
    constructor
    · rintro ((a | rfl) | a)
      · have := q.1 (.inl a); exact ⟨this.1, .inl this.2⟩
      · exact ⟨hl, .inr rfl⟩
      · have := q.1 (.inr a); exact ⟨this.1, .inl this.2⟩
    · rintro ⟨a, b | rfl⟩
      · rcases q.2 ⟨a, b⟩ with z | z
        · exact .inl (.inl z)
        · exact .inr z
      · exact .inl (.inr rfl)
/-! ### the antichain as a function -/
def insT (v : TV) : List TV → List TV
  | [] => [v]
  | m :: r => if tcmp v m < 0 then v :: m :: r else if tcmp v m = 0 then m :: r else m :: insT v r
theorem insT_mem (v x : TV) : ∀ M, x ∈ insT v M ↔ x = v ∨ x ∈ M
  | [] => by simp [insT]
  | m :: r => by
    unfold insT
    split
    · simp
    · split
      · rename_i h
        rw [tcmp_zero.1 h]
        simp
      · simp only [List.mem_cons, insT_mem v x r]
        constructor
        · rintro (h | h | h)
          · exact .inr (.inl h)
          · exact .inl h
          · exact .inr (.inr h)
        · rintro (h | h | h)
          · exact .inr (.inl h)
          · exact .inl h
          · exact .inr (.inr h)
theorem insT_rising (v : TV) : ∀ {M}, Rising M → Rising (insT v M)
  | [], _ => List.pairwise_singleton _ _
  | m :: r, h => by
    unfold Rising at h
    obtain ⟨h1, h2⟩ := List.pairwise_cons.1 h
    unfold insT
    split
    · rename_i hv
      exact List.pairwise_cons.2 ⟨fun y hy => by
        rcases List.mem_cons.1 hy with rfl | hy
        · exact hv
        · exact tcmp_lt_trans hv (by have := h1 y hy; omega), h⟩
    · split
      · exact h
      · rename_i q1 q2
        have q3 := tcmp_neg m v
        exact List.pairwise_cons.2 ⟨fun y hy => by
          rcases (insT_mem v y r).1 hy with rfl | hy
          · omega
          · exact h1 y hy, insT_rising v h2⟩
instance (L : List TV) (v : TV) : Decidable (Least L v) := by unfold Least; exact inferInstance
def ofV (L : List TV) : List TV := (L.filter fun v => decide (Least L v)).foldr insT []
theorem foldr_ins : ∀ (L : List TV), Rising (L.foldr insT []) ∧ ∀ x, x ∈ L.foldr insT [] ↔ x ∈ L
  | [] => ⟨List.Pairwise.nil, fun _ => Iff.rfl⟩
  | v :: L => by
    have ih := foldr_ins L
    rw [List.foldr_cons]
    refine ⟨insT_rising v ih.1, fun x => ?_⟩
    rw [insT_mem, ih.2 x, List.mem_cons]
theorem ofV_is (L : List TV) : IsOf L (ofV L) := by
  have h := foldr_ins (L.filter fun v => decide (Least L v))
  refine ⟨h.1, fun v => ?_⟩
  unfold ofV
  rw [h.2 v, List.mem_filter, decide_eq_true_iff]
  exact ⟨fun q => q.2, fun q => ⟨q.1, q⟩⟩
theorem IsOf.eq {L M : List TV} (h : IsOf L M) : M = ofV L := h.unique (ofV_is L)
theorem ofV_congr {L L' : List TV} (h : ∀ v, v ∈ L ↔ v ∈ L') : ofV L = ofV L' := ((ofV_is L).congr h).eq
theorem beyond_ofV (L : List TV) (t : TV) : beyondV (ofV L) t = beyondV L t := by
  rw [Bool.eq_iff_iff, beyond_iff, beyond_iff]
  constructor
  · rintro ⟨x, hx, h⟩
    exact ⟨x, (((ofV_is L).mem x).1 hx).1, h⟩
  · rintro ⟨x, hx, h⟩
    obtain ⟨m, h1, h2⟩ := least_below _ L x (Nat.le_refl _) hx
    exact ⟨m, ((ofV_is L).mem m).2 h1, tleq_trans h2 h⟩
end Go.Proofs.YtmdakaflmheidaaGreatDoor
