/- The plain law of a stable sort. Times as values; antichains: which lists they are. Plain. The order of ways; a list with one more; what a graph's check and its ways are. append, once more: it stays where it was, or nothing that was there has turned. The Book's lists: what it means that each has memory of its own; what stays under writes to some blocks. Lists of structs in memory, whatever their type: their cells. Graphs in memory: ways, inner ways, nodes, edges. What All tells, plainly: of each place and each input the least ways, where there are any. The type of a block. Conditions: each theorem states its own. -/
import Derived.Test.YteklohamkmiphaaFa1
import Derived.Test.YteklohamkmiphaaFa3
namespace Go.Proofs.Yteklohamkmiphaa
open Go.RowKit

structure TotPre {α : Type} (cmp : α → α → Int) : Prop where
  neg : ∀ x y, cmp x y = -cmp y x
  trans : ∀ x y z, cmp x y ≤ 0 → cmp y z ≤ 0 → cmp x z ≤ 0
section
variable {α : Type} {cmp : α → α → Int}
theorem TotPre.refl (h : TotPre cmp) (x : α) : cmp x x = 0 := by have := h.neg x x; omega
/-- those alike x -/
def alike (cmp : α → α → Int) (x : α) (l : List α) : List α := l.filter fun y => cmp x y == 0
/-- m is l, sorted, those that are alike in their order -/
structure Stable (cmp : α → α → Int) (l m : List α) : Prop where
  sorted : m.Pairwise fun x y => cmp x y ≤ 0
  same : ∀ x, alike cmp x m = alike cmp x l
theorem Stable.nil : Stable cmp [] ([] : List α) := ⟨List.Pairwise.nil, fun _ => rfl⟩
theorem Stable.one (x : α) : Stable cmp [x] [x] := ⟨List.pairwise_singleton _ _, fun _ => rfl⟩
/-- what is sorted twice -/
theorem Stable.trans {l m n : List α} (h : Stable cmp l m) (k : Stable cmp m n) : Stable cmp l n := ⟨k.sorted, fun x => (k.same x).trans (h.same x)⟩
theorem Stable.mem (T : TotPre cmp) {l m : List α} (h : Stable cmp l m) (x : α) : x ∈ m ↔ x ∈ l := by
  have e := h.same x
  have key : ∀ n : List α, x ∈ alike cmp x n ↔ x ∈ n := fun n => by
    unfold alike
    rw [List.mem_filter]
    exact ⟨fun q => q.1, fun q => ⟨q, by rw [beq_iff_eq]; exact T.refl x⟩⟩
  rw [← key m, ← key l, e]
/-- there is one such list alone -/
theorem Stable.unique (T : TotPre cmp) : ∀ {m n l : List α}, Stable cmp l m → Stable cmp l n → m = n
  | [], [], _, _, _ => rfl
  | [], y :: n, l, h, k => absurd ((h.mem T y).2 ((k.mem T y).1 (List.mem_cons_self ..))) (List.not_mem_nil)
  | x :: m, [], l, h, k => absurd ((k.mem T x).2 ((h.mem T x).1 (List.mem_cons_self ..))) (List.not_mem_nil)
  | x :: m, y :: n, l, h, k => by
    have hxy : cmp x y ≤ 0 := by
      have : y ∈ x :: m := (h.mem T y).2 ((k.mem T y).1 (List.mem_cons_self ..))
      rcases List.mem_cons.1 this with rfl | q
      · rw [T.refl]; decide
      · exact (List.pairwise_cons.1 h.sorted).1 y q
    have hyx : cmp y x ≤ 0 := by
      have : x ∈ y :: n := (k.mem T x).2 ((h.mem T x).1 (List.mem_cons_self ..))
      rcases List.mem_cons.1 this with rfl | q
      · rw [T.refl]; decide
      · exact (List.pairwise_cons.1 k.sorted).1 x q
    have h0 : cmp x y = 0 := by rw [T.neg] at hyx; omega
    have e : alike cmp x (x :: m) = alike cmp x (y :: n) := (h.same x).trans (k.same x).symm
    have e1 : alike cmp x (x :: m) = x :: alike cmp x m := by
      show List.filter _ (x :: m) = _
      rw [List.filter_cons_of_pos (by simpa using T.refl x)]
      rfl
    have e2 : alike cmp x (y :: n) = y :: alike cmp x n := by
      show List.filter _ (y :: n) = _
      rw [List.filter_cons_of_pos (by simpa using h0)]
      rfl
    rw [e1, e2] at e
    injection e with e3 _
    subst e3
    have hm : Stable cmp m m := ⟨(List.pairwise_cons.1 h.sorted).2, fun _ => rfl⟩
    have hn : Stable cmp m n := ⟨(List.pairwise_cons.1 k.sorted).2, fun c => by
      have q : alike cmp c (x :: m) = alike cmp c (x :: n) := (h.same c).trans (k.same c).symm
      unfold alike at q ⊢
      by_cases hc : cmp c x = 0
      · rw [List.filter_cons_of_pos (by simpa using hc), List.filter_cons_of_pos (by simpa using hc)] at q
        injection q with _ q
        exact q.symm
      · rw [List.filter_cons_of_neg (by simpa using hc), List.filter_cons_of_neg (by simpa using hc)] at q
        exact q.symm⟩
    rw [Stable.unique T hm hn]
end
end Go.Proofs.Yteklohamkmiphaa
namespace Go.Proofs.Yteklohamkmiphaa

abbrev TV := Int × List Int
def tcmp (x y : TV) : Int := cmpTT x.1 x.2 y.1 y.2
def tleq (x y : TV) : Bool := leqT x.1 x.2 y.1 y.2
theorem cmpT_neg (x y : Int) : cmpT y x = -cmpT x y := by
  unfold cmpT
  repeat' split
  all_goals omega
theorem cmpT_pos {x y : Int} : cmpT x y < 0 ↔ x < y := by
  unfold cmpT
  repeat' split
  all_goals omega
theorem lexT_neg : ∀ l m : List Int, lexT m l = -lexT l m
  | [], [] => rfl
  | [], _ :: _ => rfl
  | _ :: _, [] => rfl
  | x :: l, y :: m => by
    simp only [lexT]
    rw [cmpT_neg x y]
    by_cases h : cmpT x y = 0
    · rw [if_pos (by omega), if_pos h]; exact lexT_neg l m
    · rw [if_neg (by omega), if_neg h]
theorem lexT_trans : ∀ l m n : List Int, lexT l m ≤ 0 → lexT m n ≤ 0 → lexT l n ≤ 0
  | [], [], n, _, h => h
  | [], _ :: _, [], _, h => by simp [lexT] at h
  | [], _ :: _, _ :: _, _, _ => by simp [lexT]
  | _ :: _, [], _, h, _ => by simp [lexT] at h
  | _ :: _, _ :: _, [], _, h => by simp [lexT] at h
  | x :: l, y :: m, z :: n, h, k => by
    simp only [lexT] at h k ⊢
    by_cases h1 : cmpT x y = 0
    · have e := cmpT_zero.1 h1
      subst e
      rw [if_pos h1] at h
      by_cases h2 : cmpT x z = 0
      · rw [if_pos h2] at k ⊢
        exact lexT_trans l m n h k
      · rw [if_neg h2] at k ⊢
        exact k
    · rw [if_neg h1] at h
      have l1 : x < y := cmpT_pos.1 (by omega)
      by_cases h2 : cmpT y z = 0
      · have e := cmpT_zero.1 h2
        subst e
        rw [if_neg h1]
        exact h
      · rw [if_neg h2] at k
        have l2 : y < z := cmpT_pos.1 (by omega)
        have l3 : cmpT x z < 0 := cmpT_pos.2 (by omega)
        rw [if_neg (by omega)]
        omega
theorem orT_le {a b c : Int} : orT a b c ≤ 0 ↔ a < 0 ∨ (a = 0 ∧ (b < 0 ∨ (b = 0 ∧ c ≤ 0))) := by
  unfold orT
  split
  · split <;> omega
  · omega
theorem tcmp_neg (x y : TV) : tcmp y x = -tcmp x y := by
  unfold tcmp cmpTT
  rw [cmpT_neg x.2.length, cmpT_neg x.1, lexT_neg x.2]
  unfold orT
  by_cases h1 : cmpT x.2.length y.2.length = 0
  · rw [if_pos (by omega), if_pos h1]
    by_cases h2 : cmpT x.1 y.1 = 0
    · rw [if_pos (by omega), if_pos h2]
    · rw [if_neg (by omega), if_neg h2]
  · rw [if_neg (by omega), if_neg h1]
theorem tcmp_trans (x y z : TV) (h : tcmp x y ≤ 0) (k : tcmp y z ≤ 0) : tcmp x z ≤ 0 := by
  unfold tcmp cmpTT at h k ⊢
  rw [orT_le] at h k ⊢
  rw [cmpT_pos, cmpT_zero, cmpT_pos, cmpT_zero] at h k ⊢
  rcases h with h | ⟨h1, h | ⟨h2, h3⟩⟩ <;> rcases k with k | ⟨k1, k | ⟨k2, k3⟩⟩
  · exact .inl (by omega)
  · exact .inl (by omega)
  · exact .inl (by omega)
  · exact .inl (by omega)
  · exact .inr ⟨by omega, .inl (by omega)⟩
  · exact .inr ⟨by omega, .inl (by omega)⟩
  · exact .inl (by omega)
  · exact .inr ⟨by omega, .inl (by omega)⟩
  · exact .inr ⟨by omega, .inr ⟨by omega, lexT_trans _ _ _ h3 k3⟩⟩
theorem tcmp_zero {x y : TV} : tcmp x y = 0 ↔ x = y := by
  unfold tcmp
  rw [cmp_zero]
  exact ⟨fun h => Prod.ext h.1 h.2, fun h => by rw [h]; exact ⟨rfl, rfl⟩⟩
theorem tcmp_lt_trans {x y z : TV} (h : tcmp x y < 0) (k : tcmp y z ≤ 0) : tcmp x z < 0 := by
  have h1 := tcmp_trans x y z (by omega) k
  rcases Int.lt_or_eq_of_le h1 with h2 | h2
  · exact h2
  · have e := tcmp_zero.1 h2
    subst e
    have := tcmp_neg x y
    omega
theorem tleq_refl (x : TV) : tleq x x = true := leq_refl _ _
theorem tleq_trans {x y z : TV} (h : tleq x y = true) (k : tleq y z = true) : tleq x z = true := leq_trans h k
theorem tleq_cmp {x y : TV} (h : tleq x y = true) : tcmp x y ≤ 0 := cmp_le h
theorem tleq_anti {x y : TV} (h : tleq x y = true) (k : tleq y x = true) : x = y := tcmp_zero.1 (cmp_both.1 ⟨h, k⟩)

/-! ### lists that rise -/
def Rising (l : List TV) : Prop := l.Pairwise fun x y => tcmp x y < 0
theorem rising_ext : ∀ {a b : List TV}, Rising a → Rising b → (∀ x, x ∈ a ↔ x ∈ b) → a = b
  | [], [], _, _, _ => rfl
  | [], y :: b, _, _, h => by have := (h y).2 (by simp); simp at this
  | x :: a, [], _, _, h => by have := (h x).1 (by simp); simp at this
  | x :: a, y :: b, ha, hb, h => by
    unfold Rising at ha hb
    rw [List.pairwise_cons] at ha hb
    have e : x = y := by
      have h1 : x ∈ y :: b := (h x).1 (by simp)
      have h2 : y ∈ x :: a := (h y).2 (by simp)
      rcases List.mem_cons.1 h1 with h1 | h1
      · exact h1
      · rcases List.mem_cons.1 h2 with h2 | h2
        · exact h2.symm
        · have q1 := hb.1 x h1
          have q2 := ha.1 y h2
          have := tcmp_neg x y
          omega
    subst e
    rw [rising_ext ha.2 hb.2 (fun z => by
      constructor
      · intro hz
        rcases List.mem_cons.1 ((h z).1 (List.mem_cons_of_mem _ hz)) with e | e
        · have := ha.1 z hz
          rw [e, tcmp_zero.2 rfl] at this
          omega
        · exact e
      · intro hz
        rcases List.mem_cons.1 ((h z).2 (List.mem_cons_of_mem _ hz)) with e | e
        · have := hb.1 z hz
          rw [e, tcmp_zero.2 rfl] at this
          omega
        · exact e)]
theorem filter_len_le {α : Type} {p q : α → Bool} (h : ∀ z, p z = true → q z = true) : ∀ l : List α, (l.filter p).length ≤ (l.filter q).length
  | [] => Nat.le_refl _
  | x :: l => by
    have ih := filter_len_le h l
    rw [List.filter_cons, List.filter_cons]
    by_cases hp : p x = true
    · rw [if_pos hp, if_pos (h x hp)]; simpa using ih
    · rw [if_neg hp]
      split
      · exact Nat.le_succ_of_le ih
      · exact ih
theorem filter_less {α : Type} {p q : α → Bool} (h : ∀ z, p z = true → q z = true) {a : α} : ∀ {l : List α}, a ∈ l → p a = false → q a = true → (l.filter p).length < (l.filter q).length
  | x :: l, ha, hp, hq => by
    rw [List.filter_cons, List.filter_cons]
    rcases List.mem_cons.1 ha with rfl | ha
    · rw [if_neg (by rw [hp]; decide), if_pos hq]
      exact Nat.lt_succ_of_le (filter_len_le h l)
    · have ih := filter_less h ha hp hq
      by_cases hx : p x = true
      · rw [if_pos hx, if_pos (h x hx)]; simpa using ih
      · rw [if_neg hx]
        split
        · exact Nat.lt_succ_of_lt ih
        · exact ih
/-- a time of the list that none of the list is ahead of -/
def Least (L : List TV) (v : TV) : Prop := v ∈ L ∧ ∀ u ∈ L, tleq u v = true → u = v
theorem least_below : ∀ (n : Nat) (L : List TV) (v : TV), (L.filter fun u => decide (tcmp u v < 0)).length ≤ n → v ∈ L → ∃ m, Least L m ∧ tleq m v = true
  | n, L, v, hn, hv => by
    by_cases h : ∃ u ∈ L, tleq u v = true ∧ u ≠ v
    · obtain ⟨u, hu, huv, hne⟩ := h
      have hlt : tcmp u v < 0 := by
        have := tleq_cmp huv
        have h0 : tcmp u v ≠ 0 := fun e => hne (tcmp_zero.1 e)
        omega
      have hlen : (L.filter fun z => decide (tcmp z u < 0)).length < (L.filter fun z => decide (tcmp z v < 0)).length := by
        have hsub : ∀ z, decide (tcmp z u < 0) = true → decide (tcmp z v < 0) = true := fun z hz => by
          rw [decide_eq_true_iff] at hz ⊢
          exact tcmp_lt_trans hz (by omega)
        exact filter_less hsub hu (by rw [tcmp_zero.2 rfl]; decide) (by rw [decide_eq_true_iff]; exact hlt)
      match n, hn with
      | 0, hn => omega
      | n + 1, hn =>
        obtain ⟨m, h1, h2⟩ := least_below n L u (by omega) hu
        exact ⟨m, h1, tleq_trans h2 huv⟩
    · refine ⟨v, ⟨hv, fun u hu huv => ?_⟩, tleq_refl v⟩
      by_cases e : u = v
      · exact e
      · exact absurd ⟨u, hu, huv, e⟩ h
/-- M is the antichain of L -/
structure IsOf (L M : List TV) : Prop where
  rising : Rising M
  mem : ∀ v, v ∈ M ↔ Least L v
theorem IsOf.unique {L M N : List TV} (h : IsOf L M) (k : IsOf L N) : M = N := rising_ext h.rising k.rising fun v => (h.mem v).trans (k.mem v).symm
theorem Least.congr {L L' : List TV} (h : ∀ v, v ∈ L ↔ v ∈ L') (v : TV) : Least L v ↔ Least L' v :=
  ⟨fun q => ⟨(h v).1 q.1, fun u hu => q.2 u ((h u).2 hu)⟩, fun q => ⟨(h v).2 q.1, fun u hu => q.2 u ((h u).1 hu)⟩⟩
theorem IsOf.congr {L L' M : List TV} (h : ∀ v, v ∈ L ↔ v ∈ L') (k : IsOf L M) : IsOf L' M := ⟨k.rising, fun v => (k.mem v).trans (Least.congr h v)⟩
/-- beyond -/
def beyondV (M : List TV) (t : TV) : Bool := M.any fun x => tleq x t
theorem beyond_iff {M : List TV} {t : TV} : beyondV M t = true ↔ ∃ x ∈ M, tleq x t = true := by unfold beyondV; exact List.any_eq_true
/-- what the program has, when it has looked at so many of the sorted list -/
structure OfUpto (L S : List TV) (i : Nat) (M : List TV) : Prop where
  rising : Rising M
  mem : ∀ v, v ∈ M ↔ Least L v ∧ v ∈ S.take i
theorem OfUpto.zero (L S : List TV) : OfUpto L S 0 [] := ⟨List.Pairwise.nil, fun v => by simp⟩
theorem take_mem_succ {α : Type} {l : List α} {i : Nat} (h : i < l.length) (v : α) : v ∈ l.take (i + 1) ↔ v ∈ l.take i ∨ v = l[i] := by
  rw [List.take_succ_eq_append_getElem h, List.mem_append, List.mem_singleton]
theorem OfUpto.skip {L S M : List TV} {i : Nat} (h : OfUpto L S i M) (hi : i < S.length) (hb : beyondV M S[i] = true) : OfUpto L S (i + 1) M := by
  refine ⟨h.rising, fun v => ⟨fun hv => ?_, fun ⟨h1, h2⟩ => ?_⟩⟩
  · have := (h.mem v).1 hv
    exact ⟨this.1, (take_mem_succ hi v).2 (.inl this.2)⟩
  · rcases (take_mem_succ hi v).1 h2 with h2 | rfl
    · exact (h.mem v).2 ⟨h1, h2⟩
    · obtain ⟨x, hx, hxv⟩ := beyond_iff.1 hb
      have q := (h.mem x).1 hx
      have e := h1.2 x q.1.1 hxv
      rw [← e]
      exact hx
theorem OfUpto.put {L S M : List TV} {i : Nat} (h : OfUpto L S i M) (hi : i < S.length) (hs : S.Pairwise fun x y => tcmp x y ≤ 0) (hm : ∀ v, v ∈ S ↔ v ∈ L) (hb : beyondV M S[i] = false) : OfUpto L S (i + 1) (M ++ [S[i]]) := by
  have hno : ∀ x ∈ M, tleq x S[i] = false := fun x hx => by
    by_cases e : tleq x S[i] = true
    · rw [beyond_iff.2 ⟨x, hx, e⟩] at hb; exact absurd hb (by decide)
    · simpa using e
  have hat : ∀ v, v ∈ S → tcmp v S[i] < 0 → v ∈ S.take i := fun v hv hlt => by
    obtain ⟨j, hj, rfl⟩ := List.getElem_of_mem hv
    by_cases hji : j < i
    · exact List.mem_take_iff_getElem.2 ⟨j, by omega, rfl⟩
    · exfalso
      rcases Nat.lt_or_eq_of_le (Nat.le_of_not_lt hji) with q | q
      · have := List.pairwise_iff_getElem.1 hs i j hi hj q
        have := tcmp_neg S[i] S[j]
        omega
      · subst q
        rw [tcmp_zero.2 rfl] at hlt
        omega
  have hti : S[i] ∈ L := (hm _).1 (List.getElem_mem hi)
  have hleast : Least L S[i] := by
    refine ⟨hti, fun u hu huv => ?_⟩
    obtain ⟨m, h1, h2⟩ := least_below _ L u (Nat.le_refl _) hu
    have hmv := tleq_trans h2 huv
    by_cases e : m = S[i]
    · exact tleq_anti huv (e ▸ h2)
    · have hlt : tcmp m S[i] < 0 := by
        have := tleq_cmp hmv
        have h0 : tcmp m S[i] ≠ 0 := fun q => e (tcmp_zero.1 q)
        omega
      have hmM : m ∈ M := (h.mem m).2 ⟨h1, hat m ((hm m).2 h1.1) hlt⟩
      rw [hno m hmM] at hmv
      exact absurd hmv (by decide)
  refine ⟨?_, fun v => ⟨fun hv => ?_, fun ⟨h1, h2⟩ => ?_⟩⟩
  · unfold Rising
    refine List.pairwise_append.2 ⟨h.rising, List.pairwise_singleton _ _, fun x hx y hy => ?_⟩
    rw [List.mem_singleton] at hy
    subst hy
    have hxt := ((h.mem x).1 hx).2
    obtain ⟨j, hj, e⟩ := List.mem_take_iff_getElem.1 hxt
    have q := List.pairwise_iff_getElem.1 hs j i (by omega) hi (by omega)
    rw [e] at q
    have h0 : tcmp x S[i] ≠ 0 := fun z => by
      have e2 := tcmp_zero.1 z
      have := hno x hx
      rw [e2, tleq_refl] at this
      exact absurd this (by decide)
    omega
  · rcases List.mem_append.1 hv with hv | hv
    · have := (h.mem v).1 hv
      exact ⟨this.1, (take_mem_succ hi v).2 (.inl this.2)⟩
    · rw [List.mem_singleton] at hv
      subst hv
      exact ⟨hleast, (take_mem_succ hi _).2 (.inr rfl)⟩
  · rcases (take_mem_succ hi v).1 h2 with h2 | rfl
    · exact List.mem_append_left _ ((h.mem v).2 ⟨h1, h2⟩)
    · exact List.mem_append_right _ (by simp)
theorem OfUpto.done {L S M : List TV} (h : OfUpto L S S.length M) (hm : ∀ v, v ∈ S ↔ v ∈ L) : IsOf L M :=
  ⟨h.rising, fun v => by rw [h.mem v, List.take_length, hm]; exact ⟨fun q => q.1, fun q => ⟨q, q.1⟩⟩⟩
/-! ### the antichain as a function -/
def insT (v : TV) : List TV → List TV
  | [] => [v]
  | m :: r => if tcmp v m < 0 then v :: m :: r else if tcmp v m = 0 then m :: r else m :: insT v r
theorem insT_mem (v x : TV) : ∀ M, x ∈ insT v M ↔ x = v ∨ x ∈ M
  | [] => by simp [insT]
  | m :: r => by
    unfold insT
    split
    · simp
    · split
      · rename_i h
        rw [tcmp_zero.1 h]
        simp
      · simp only [List.mem_cons, insT_mem v x r]
        constructor
        · rintro (h | h | h)
          · exact .inr (.inl h)
          · exact .inl h
          · exact .inr (.inr h)
        · rintro (h | h | h)
          · exact .inr (.inl h)
          · exact .inl h
          · exact .inr (.inr h)
theorem insT_rising (v : TV) : ∀ {M}, Rising M → Rising (insT v M)
  | [], _ => List.pairwise_singleton _ _
  | m :: r, h => by
    unfold Rising at h
    obtain ⟨h1, h2⟩ := List.pairwise_cons.1 h
    unfold insT
    split
    · rename_i hv
      exact List.pairwise_cons.2 ⟨fun y hy => by
        rcases List.mem_cons.1 hy with rfl | hy
        · exact hv
        · exact tcmp_lt_trans hv (by have := h1 y hy; omega), h⟩
    · split
      · exact h
      · rename_i q1 q2
        have q3 := tcmp_neg m v
        exact List.pairwise_cons.2 ⟨fun y hy => by
          rcases (insT_mem v y r).1 hy with rfl | hy
          · omega
          · exact h1 y hy, insT_rising v h2⟩
instance (L : List TV) (v : TV) : Decidable (Least L v) := by unfold Least; exact inferInstance
def ofV (L : List TV) : List TV := (L.filter fun v => decide (Least L v)).foldr insT []
theorem foldr_ins : ∀ (L : List TV), Rising (L.foldr insT []) ∧ ∀ x, x ∈ L.foldr insT [] ↔ x ∈ L
  | [] => ⟨List.Pairwise.nil, fun _ => Iff.rfl⟩
  | v :: L => by
    have ih := foldr_ins L
    rw [List.foldr_cons]
    refine ⟨insT_rising v ih.1, fun x => ?_⟩
    rw [insT_mem, ih.2 x, List.mem_cons]
theorem ofV_is (L : List TV) : IsOf L (ofV L) := by
  have h := foldr_ins (L.filter fun v => decide (Least L v))
  refine ⟨h.1, fun v => ?_⟩
  unfold ofV
  rw [h.2 v, List.mem_filter, decide_eq_true_iff]
  exact ⟨fun q => q.2, fun q => ⟨q.1, q⟩⟩
theorem IsOf.eq {L M : List TV} (h : IsOf L M) : M = ofV L := h.unique (ofV_is L)
end Go.Proofs.Yteklohamkmiphaa
namespace Go.Proofs.Yteklohamkmiphaa
open Go.RowKit

def wcmp (a b : Way) : Int := orT (cmpT a.leave b.leave) (cmpT a.add b.add) (tcmp (0, a.enter) (0, b.enter))
def wlt (a b : Way) : Prop := wcmp a b < 0
instance (a b : Way) : Decidable (wlt a b) := by unfold wlt; exact inferInstance

theorem wcmp_lt {a b : Way} : wlt a b ↔ a.leave < b.leave ∨ (a.leave = b.leave ∧ (a.add < b.add ∨ (a.add = b.add ∧ tcmp (0, a.enter) (0, b.enter) < 0))) := by
  unfold wlt wcmp orT
  have h1 := cmpT_pos (x := a.leave) (y := b.leave)
  have h2 := cmpT_zero (x := a.leave) (y := b.leave)
  have h3 := cmpT_pos (x := a.add) (y := b.add)
  have h4 := cmpT_zero (x := a.add) (y := b.add)
  split
  · split <;> omega
  · omega
theorem wcmp_neg (a b : Way) : wcmp b a = - wcmp a b := by
  unfold wcmp orT
  rw [cmpT_neg a.leave b.leave, cmpT_neg a.add b.add, tcmp_neg (0, a.enter) (0, b.enter)]
  repeat' split
  all_goals omega
theorem wcmp_zero {a b : Way} : wcmp a b = 0 ↔ a = b := by
  unfold wcmp orT
  have h2 := cmpT_zero (x := a.leave) (y := b.leave)
  have h4 := cmpT_zero (x := a.add) (y := b.add)
  have h5 := tcmp_zero (x := (0, a.enter)) (y := (0, b.enter))
  constructor
  · intro h
    have e1 : a.leave = b.leave := by split at h <;> omega
    rw [if_pos (h2.2 e1)] at h
    have e2 : a.add = b.add := by split at h <;> omega
    rw [if_pos (h4.2 e2)] at h
    have e3 := (Prod.mk.inj (h5.1 h)).2
    cases a; cases b; simp only at e1 e2 e3; rw [e1, e2, e3]
  · rintro rfl
    rw [if_pos (h2.2 rfl), if_pos (h4.2 rfl)]
    exact h5.2 rfl
theorem wlt_irrefl (a : Way) : ¬ wlt a a := by
  unfold wlt
  rw [wcmp_zero.2 rfl]; omega
theorem wlt_trans (a b c : Way) (h : wlt a b) (k : wlt b c) : wlt a c := by
  rw [wcmp_lt] at *
  rcases h with h | ⟨h1, h2⟩
  · rcases k with k | ⟨k1, _⟩
    · exact .inl (by omega)
    · exact .inl (by omega)
  · rcases k with k | ⟨k1, k2⟩
    · exact .inl (by omega)
    · refine .inr ⟨by omega, ?_⟩
      rcases h2 with h2 | ⟨h2, h3⟩
      · rcases k2 with k2 | ⟨k2, _⟩
        · exact .inl (by omega)
        · exact .inl (by omega)
      · rcases k2 with k2 | ⟨k2, k3⟩
        · exact .inl (by omega)
        · refine .inr ⟨by omega, ?_⟩
          have t := tcmp_trans _ _ _ (Int.le_of_lt h3) (Int.le_of_lt k3)
          have : tcmp (0, a.enter) (0, c.enter) ≠ 0 := by
            intro e
            have e := tcmp_zero.1 e
            rw [e, tcmp_neg (0, b.enter) (0, c.enter)] at h3
            omega
          omega
theorem wlt_total (a b : Way) : wlt a b ∨ a = b ∨ wlt b a := by
  unfold wlt
  have := wcmp_neg a b
  by_cases h : wcmp a b = 0
  · exact .inr (.inl (wcmp_zero.1 h))
  · omega

/-- least ways with one more, in order -/
def withR (d : Int) (p : Way) : List Way → Bool → List Way → List Way
  | [], k, acc => if k then acc else acc ++ [p]
  | x :: l, k, acc => withR d p l (k || decide (wlt p x)) ((if ! k && decide (wlt p x) then acc ++ [p] else acc) ++ (if pl p x d then [] else [x]))

theorem withR_true (d : Int) (p : Way) : ∀ (l acc : List Way), withR d p l true acc = acc ++ l.filter (fun x => ! pl p x d)
  | [], acc => by simp [withR]
  | x :: l, acc => by
    simp only [withR, Bool.true_or, Bool.not_true, Bool.false_and, Bool.false_eq_true, if_false]
    rw [withR_true d p l]
    cases h : pl p x d <;> simp [h]
theorem withR_acc (d : Int) (p : Way) : ∀ (l acc : List Way) (k : Bool), withR d p l k acc = acc ++ withR d p l k []
  | [], acc, k => by cases k <;> simp [withR]
  | x :: l, acc, k => by
    simp only [withR]
    rw [withR_acc d p l (_ ++ _), withR_acc d p l ((if ! k && decide (wlt p x) then [] ++ [p] else []) ++ _)]
    split <;> simp
theorem withR_perm (d : Int) (p : Way) : ∀ l : List Way, (withR d p l false []).Perm (l.filter (fun x => ! pl p x d) ++ [p])
  | [] => by simp [withR]
  | x :: l => by
    simp only [withR, Bool.false_or, Bool.not_false, Bool.true_and, decide_eq_true_eq]
    by_cases h : wlt p x
    · simp only [h, if_true, decide_true]
      rw [withR_true]
      cases hp : pl p x d <;> simp [hp]
      · exact (List.perm_append_comm (l₁ := [p]) (l₂ := x :: l.filter (fun x => ! pl p x d)))
      · exact (List.perm_append_comm (l₁ := [p]) (l₂ := l.filter (fun x => ! pl p x d)))
    · simp only [h, if_false, decide_false]
      rw [withR_acc]
      have ih := withR_perm d p l
      cases hp : pl p x d <;> simp [hp]
      · exact ih
      · exact ih
theorem withR_sorted (d : Int) (p : Way) : ∀ l : List Way, l.Pairwise wlt → (∀ x ∈ l, x ≠ p) → (withR d p l false []).Pairwise wlt
  | [], _, _ => by simp [withR]
  | x :: l, h, hn => by
    have h := List.pairwise_cons.1 h
    simp only [withR, Bool.false_or, Bool.not_false, Bool.true_and, decide_eq_true_eq]
    by_cases hx : wlt p x
    · simp only [hx, if_true, decide_true]
      rw [withR_true]
      have e : [] ++ [p] ++ (if pl p x d = true then [] else [x]) ++ l.filter (fun x => ! pl p x d) = p :: ((x :: l).filter (fun x => ! pl p x d)) := by
        cases hp : pl p x d <;> simp [hp]
      rw [e]
      refine List.pairwise_cons.2 ⟨fun a ha => ?_, (List.pairwise_cons.2 h).filter _⟩
      rcases List.mem_cons.1 (List.mem_filter.1 ha).1 with rfl | ha
      · exact hx
      · exact wlt_trans _ _ _ hx (h.1 a ha)
    · simp only [hx, if_false, decide_false]
      rw [withR_acc]
      have ih := withR_sorted d p l h.2 (fun y hy => hn y (List.mem_cons_of_mem _ hy))
      have xp : wlt x p := by
        rcases wlt_total x p with c | c | c
        · exact c
        · exact absurd c (hn x List.mem_cons_self)
        · exact absurd c hx
      have lt : ∀ a, a ∈ withR d p l false [] → wlt x a := fun a ha => by
        have := (withR_perm d p l).mem_iff.1 ha
        rcases List.mem_append.1 this with c | c
        · exact h.1 a (List.mem_filter.1 c).1
        · simp at c; subst c; exact xp
      cases hp : pl p x d
      · simp only [Bool.false_eq_true, if_false, List.nil_append, List.singleton_append]
        exact List.pairwise_cons.2 ⟨lt, ih⟩
      · simp only [if_true, List.nil_append]
        exact ih

/-! ## whether a graph may be -/
def innT (n : Nd) (x : Inn) : Bool := decide (0 ≤ x.i ∧ x.i < n.ins ∧ 0 ≤ x.o ∧ x.o < n.outs ∧ 0 ≤ x.w.leave ∧ x.w.leave ≤ n.depth ∧ ¬ (x.w.leave = n.depth ∧ 0 < x.w.add) ∧ madeT n.depth x.w ≤ 3 ∧ (n.turns = true ∨ madeT n.depth x.w = n.depth))
def nodeT (n : Nd) : Bool := decide (0 ≤ n.depth ∧ n.depth ≤ 3 ∧ 0 ≤ n.ins ∧ n.ins ≤ 8 ∧ 0 ≤ n.outs ∧ n.outs ≤ 8 ∧ n.inner.length ≤ 64) && n.inner.all (innT n)
def edgeT (g : Gr) (e : Pt × Pt) : Bool := e.1.o && ! e.2.o && (g.dep e.1).isSome && decide (g.dep e.1 = g.dep e.2)
def formT (g : Gr) : Bool := g.nodes.all nodeT && g.edges.all (edgeT g)
/-- its numbers are what they are in memory -/
def G32 (g : Gr) : Prop := ∀ n, n ∈ g.nodes → ∀ x, x ∈ n.inner → 0 ≤ x.w.add ∧ x.w.add ≤ 4294967295 ∧ U32 x.w.enter

theorem formT_ok {g : Gr} (h : formT g = true) (u : G32 g) : GOK g := by
  unfold formT at h
  simp only [Bool.and_eq_true, List.all_eq_true] at h
  refine ⟨fun n hn => ?_, fun n hn x hx => ?_, fun e he => ?_⟩
  · have a := h.1 n hn
    unfold nodeT at a
    simp only [Bool.and_eq_true, decide_eq_true_eq] at a
    omega
  · have a := h.1 n hn
    unfold nodeT at a
    simp only [Bool.and_eq_true, decide_eq_true_eq, List.all_eq_true] at a
    have b := a.2 x hx
    unfold innT at b
    have b := of_decide_eq_true b
    have c := u n hn x hx
    refine ⟨b.1, b.2.1, b.2.2.1, b.2.2.2.1, b.2.2.2.2.1, b.2.2.2.2.2.1, ?_, b.2.2.2.2.2.2.2.1, b.2.2.2.2.2.2.2.2, c.1, c.2.1, c.2.2⟩
    intro e
    have := b.2.2.2.2.2.2.1
    omega
  · have a := h.2 e he
    unfold edgeT at a
    simp only [Bool.and_eq_true, Bool.not_eq_true', decide_eq_true_eq] at a
    obtain ⟨d, hd⟩ := Option.isSome_iff_exists.1 a.1.2
    exact ⟨a.1.1.1, a.1.1.2, d, hd, by rw [← a.2]; exact hd⟩

/-- a route back to an input that does not increase the time -/
def Cyc (g : Gr) : Prop := ∃ q w, q.o = false ∧ (g.dep q).isSome ∧ Found g q False q w ∧ pl w idW (g.dp q) = true
def CheckIs (g : Gr) (e : Int) : Prop := (formT g = false ∧ e = 60) ∨ (formT g = true ∧ Cyc g ∧ e = 61) ∨ (formT g = true ∧ ¬ Cyc g ∧ e = 0)
theorem CheckIs.unique {g : Gr} {a b : Int} (h : CheckIs g a) (k : CheckIs g b) : a = b := by
  rcases h with ⟨h1, h2⟩ | ⟨h1, h2, h3⟩ | ⟨h1, h2, h3⟩ <;> rcases k with ⟨k1, k2⟩ | ⟨k1, k2, k3⟩ | ⟨k1, k2, k3⟩
  all_goals first | omega | (rw [h1] at k1; simp at k1; done) | exact absurd h2 k2 | exact absurd k2 h2

/-- the least ways to a place, in order -/
def LeastIs (g : Gr) (fr q : Pt) (l : List Way) : Prop := ∃ K, Tab g fr True K ∧ (K q).Pairwise wlt ∧ l = K q
theorem LeastIs.unique {g : Gr} (G : GOK g) {fr q : Pt} (hf : (g.dep fr).isSome) {l m : List Way} (h : LeastIs g fr q l) (k : LeastIs g fr q m) : l = m := by
  obtain ⟨K, h1, h2, rfl⟩ := h
  obtain ⟨L, k1, k2, rfl⟩ := k
  exact Tab.same G hf h1 k1 wlt wlt_irrefl wlt_trans h2 k2

def PlacesT (g : Gr) (fr tt : Pt) : Prop := (g.dep fr).isSome ∧ (g.dep tt).isSome ∧ tt.o = false
def WaysIs (g : Gr) (fr tt : Pt) (l : List Way) (e : Int) : Prop := (CheckIs g e ∧ e ≠ 0 ∧ l = []) ∨ (CheckIs g 0 ∧ ¬ PlacesT g fr tt ∧ e = 60 ∧ l = []) ∨ (CheckIs g 0 ∧ PlacesT g fr tt ∧ e = 0 ∧ LeastIs g fr tt l)
theorem CheckIs.form {g : Gr} (h : CheckIs g 0) : formT g = true := by
  rcases h with ⟨h1, h2⟩ | ⟨h1, h2, h3⟩ | ⟨h1, h2, h3⟩
  · omega
  · exact h1
  · exact h1
theorem WaysIs.unique {g : Gr} (u : G32 g) {fr tt : Pt} {l m : List Way} {a b : Int} (h : WaysIs g fr tt l a) (k : WaysIs g fr tt m b) : l = m ∧ a = b := by
  rcases h with ⟨h1, h2, h3⟩ | ⟨h1, h2, h3, h4⟩ | ⟨h1, h2, h3, h4⟩ <;> rcases k with ⟨k1, k2, k3⟩ | ⟨k1, k2, k3, k4⟩ | ⟨k1, k2, k3, k4⟩
  · exact ⟨by rw [h3, k3], h1.unique k1⟩
  · exact absurd (h1.unique k1) h2
  · exact absurd (h1.unique k1) h2
  · exact absurd (k1.unique h1) k2
  · exact ⟨by rw [h4, k4], by rw [h3, k3]⟩
  · exact absurd k2 h2
  · exact absurd (k1.unique h1) k2
  · exact absurd h2 k2
  · exact ⟨h4.unique (formT_ok h1.form u) h2.1 k4, by rw [h3, k3]⟩
end Go.Proofs.Yteklohamkmiphaa
namespace Go.Proofs.Yteklohamkmiphaa
open Go.RowKit

theorem run_append_two {P : Program} (w : World) {t ty e size bytes : Nat} {z : Value} (E : Elem P t e size bytes z) (base : Nat)
    (A0 : Option Addr) (n c0 : Nat) (xs : List Value) (hown : Own w base e size A0 n c0 xs)
    (A : Option Addr) (m c : Nat) (news : List Value) (hr : Sl w size A m c news) (h1 : ∀ u ∈ news, u.oneCell' = true)
    (hbytes : (n + m) * bytes ≤ 140737488355328) (hb1 : 0 < bytes) (hbase : base ≤ w.heap.size) :
    ∃ A' c' w', (Builtin.append_ #[t, t] ty #[.slice A0 n c0, .slice A m c]).run P w = .ok (.slice A' (n + m) c') w' ∧ Own w' base e size A' (n + m) c' (xs ++ news) ∧ w.grownBy w' (blk A0 c0) ∧
      ((A' = A0 ∧ c' = c0) ∨ (blk A' c' = some w.heap.size ∧ Ext w w')) := by
  obtain ⟨i, hi, hz, hs, hby⟩ := info_parts E.info
  have h63 : n + m ≤ maxLen := by
    have : n + m ≤ (n + m) * bytes := Nat.le_mul_of_pos_right _ hb1
    unfold maxLen; omega
  rcases Nat.eq_zero_or_pos m with hm | hm
  · subst hm
    have hnews : news = [] := List.eq_nil_of_length_eq_zero (by simpa using hr.1)
    subst hnews
    exact ⟨_, _, w, run_append_nothing w E A0 n c0 hown.le.1 A c, by simpa using hown, World.grownBy.refl w _, .inl ⟨rfl, rfl⟩⟩
  · obtain ⟨ad, rfl, hcells⟩ := hr.2.2.2.2 hm
    rcases hown.2 with ⟨rfl, rfl⟩ | ⟨g, cur, rfl, hb, hg, hnc, hcm, hcs, htake⟩
    · have hx : xs = [] := List.eq_nil_of_length_eq_zero (by simpa using hown.1)
      subst hx
      have hge := grownCap_ge w (0 + m) 0 e
      have hcm : grownCap w (0 + m) 0 e ≤ maxLen := grownCap_le_maxLen w (0 + m) 0 e h63
      obtain ⟨kk, hk⟩ : ∃ k, grownCap w (0 + m) 0 e = k + 1 := ⟨_, (Nat.succ_pred_eq_of_pos (by omega)).symm⟩
      have hfin : Own (w.drew.alloc (.cells ((#[] : Array Value) ++ news.toArray ++ Builtin.zeroCells z.cells (grownCap w (0 + m) 0 e - (0 + m))) e)) base e size (some ⟨w.heap.size, 0, none⟩) (0 + m) (grownCap w (0 + m) 0 e) ([] ++ news) := by
        refine ⟨by simpa using hr.1, .inr ⟨w.heap.size, _, rfl, hbase, heap_alloc_new w.drew _, hge, hcm, ?_, ?_⟩⟩
        · refine Nat.le_of_eq (Eq.symm ?_)
          simp only [Array.size_append, List.size_toArray, size_zeroCells, E.zsize, hr.1, List.length_nil, Nat.zero_add, ← Nat.add_mul]
          congr 1
          simp only [Nat.zero_add] at hge
          omega
        · have hlen : ([] ++ news).length = (0 + m) * size := by simpa using hr.1
          simp only [Array.toList_append, List.append_assoc]
          rw [← List.append_assoc, ← hlen]
          exact List.take_left
      cases A0 with
      | none =>
        have hr2 := run_append_nil (P := P) w t ty e i z E.under hi hz ad m c news (by rw [hs]; exact hr.1) hcells hm (by unfold maxLen at h63; omega) (by rw [hby]; simp only [Nat.zero_add] at hbytes; omega)
        simp only [Nat.zero_add, List.nil_append, Array.empty_append] at hfin hk ⊢
        refine ⟨_, _, _, hr2, hfin, ⟨rfl, rfl, rfl, by simp, fun k hk _ => Below.heap_alloc w.drew _ k hk⟩, .inr ⟨?_, ((Ext.refl w).drew).alloc _⟩⟩
        rw [hk]; rfl
      | some b =>
        have hr2 := run_append_grow (P := P) w t ty e i z E.under hi hz b 0 0 [] (by simp) (by simp) ad m c news (by rw [hs]; exact hr.1) hcells (by omega) (by unfold maxLen at h63; omega) (by rw [hby]; exact growslice_fits (by omega) hbytes)
        refine ⟨_, _, _, hr2, hfin, ⟨rfl, rfl, rfl, by simp, fun k hk _ => Below.heap_alloc w.drew _ k hk⟩, .inr ⟨?_, ((Ext.refl w).drew).alloc _⟩⟩
        rw [hk]; rfl
    · have hlen : (xs ++ news).length = (n + m) * size := by rw [List.length_append, hown.1, hr.1, Nat.add_mul]
      by_cases hroom : n + m ≤ c0
      · have hfit : n * i.size + news.length ≤ cur.size := by rw [hr.1, hs, ← Nat.add_mul]; exact Nat.le_trans (Nat.mul_le_mul_right _ hroom) hcs
        have hr2 := run_append_room (P := P) w t ty e i E.under hi g n c0 cur hg ad m c news (by rw [hs]; exact hr.1) hcells h1 hroom hfit
        refine ⟨_, _, _, hr2, ⟨hlen, .inr ⟨g, _, rfl, hb, setRow_heap w g cur _ e _ hg, hroom, hcm, ?_, ?_⟩⟩, ⟨rfl, rfl, rfl, by simp, fun k _ hk => setRow_other w g k _ (fun e' => hk (by
          obtain ⟨c1, rfl⟩ : ∃ c1, c0 = c1 + 1 := ⟨c0 - 1, by omega⟩
          simp [blk, e']))⟩, .inl ⟨rfl, rfl⟩⟩
        · simp only [List.size_toArray, List.length_append, List.length_take, List.length_drop, Array.length_toList]
          omega
        · rw [hs, htake, ← hlen]
          exact List.take_left
      · have holds : ∀ j u, xs[j]? = some u → w.cell? ((⟨g, 0, none⟩ : Addr).add j) = some u := head_cells hg htake
        have hr2 := run_append_grow (P := P) w t ty e i z E.under hi hz ⟨g, 0, none⟩ n c0 xs (by rw [hs]; exact hown.1) holds ad m c news (by rw [hs]; exact hr.1) hcells (by omega) (by unfold maxLen at h63; omega) (by rw [hby]; exact growslice_fits (by omega) hbytes)
        have hge := grownCap_ge w (n + m) c0 e
        have hcm : grownCap w (n + m) c0 e ≤ maxLen := grownCap_le_maxLen w (n + m) c0 e h63
        refine ⟨_, _, _, hr2, ⟨hlen, .inr ⟨w.heap.size, _, rfl, hbase, heap_alloc_new w.drew _, hge, hcm, ?_, ?_⟩⟩, ⟨rfl, rfl, rfl, by simp, fun k hk _ => Below.heap_alloc w.drew _ k hk⟩, .inr ⟨?_, ((Ext.refl w).drew).alloc _⟩⟩
        · refine Nat.le_of_eq (Eq.symm ?_)
          simp only [Array.size_append, List.size_toArray, size_zeroCells, E.zsize, hr.1, hown.1, ← Nat.add_mul]
          congr 1
          omega
        · simp only [Array.toList_append, List.append_assoc]
          rw [← List.append_assoc, ← hlen]
          exact List.take_left
        · obtain ⟨kk, hk⟩ : ∃ k, grownCap w (n + m) c0 e = k + 1 := ⟨_, (Nat.succ_pred_eq_of_pos (by omega)).symm⟩
          rw [hk]; rfl

theorem wp_append_two {P : Program} (w : World) {o : Oper} {a : Act} {K : Act → World → Prop} {Q : Exit → Act → World → Prop} {t e size bytes : Nat} {z : Value} (E : Elem P t e size bytes z) (base : Nat) (s x : Operand)
    (ho : o.op = .call { callee := .builtin .append, args := #[s, x], argTypes := #[t, t] })
    (A0 : Option Addr) (n c0 : Nat) (xs : List Value) (hs : a.eval s = .slice A0 n c0) (hown : Own w base e size A0 n c0 xs)
    (A : Option Addr) (m c : Nat) (news : List Value) (hx : a.eval x = .slice A m c) (hr : Sl w size A m c news) (h1 : ∀ u ∈ news, u.oneCell' = true)
    (hbytes : (n + m) * bytes ≤ 140737488355328) (hb1 : 0 < bytes) (hbase : base ≤ w.heap.size)
    (h : ∀ A' c' w', Own w' base e size A' (n + m) c' (xs ++ news) → w.grownBy w' (blk A0 c0) → ((A' = A0 ∧ c' = c0) ∨ (blk A' c' = some w.heap.size ∧ Ext w w')) → K (a.put o.dst (.slice A' (n + m) c')) w') : o.wp P a w K Q := by
  obtain ⟨A', c', w', hrun, h2, h3, h4⟩ := run_append_two (P := P) (ty := o.type) w E base A0 n c0 xs hown A m c news hr h1 hbytes hb1 hbase
  unfold Oper.wp execOp
  simp only [ho, resolve, invoke, builtin, Sem.run_bind, Sem.run_pure, Result.andThen_ok, List.map_toArray, List.map_cons, List.map_nil, hs, hx, hrun]
  exact h A' c' w' h2 h3 h4

/-- append, in a plain region -/
theorem wpList_append_two {P : Program} (w : World) {ops : Array Oper} {rest : List Oper} {o : Oper} {a : Act} {Q : Exit → Act → World → Prop} {t e size bytes : Nat} {z : Value} (E : Elem P t e size bytes z) (base : Nat) (s x : Operand)
    (ho : o.op = .call { callee := .builtin .append, args := #[s, x], argTypes := #[t, t] }) (hgd : o.guard = none)
    (A0 : Option Addr) (n c0 : Nat) (xs : List Value) (hs : a.eval s = .slice A0 n c0) (hown : Own w base e size A0 n c0 xs)
    (A : Option Addr) (m c : Nat) (news : List Value) (hx : a.eval x = .slice A m c) (hr : Sl w size A m c news) (h1 : ∀ u ∈ news, u.oneCell' = true)
    (hbytes : (n + m) * bytes ≤ 140737488355328) (hb1 : 0 < bytes) (hbase : base ≤ w.heap.size)
    (h : ∀ A' c' w', Own w' base e size A' (n + m) c' (xs ++ news) → w.grownBy w' (blk A0 c0) → ((A' = A0 ∧ c' = c0) ∨ (blk A' c' = some w.heap.size ∧ Ext w w')) → wpList P ops Q rest (a.put o.dst (.slice A' (n + m) c')) w') : wpList P ops Q (o :: rest) a w :=
  wpList_plain hgd fun _ hK => wp_append_two w E base s x ho A0 n c0 xs hs hown A m c news hx hr h1 hbytes hb1 hbase fun A' c' w' h2 h3 h4 => hK _ _ (h A' c' w' h2 h3 h4)

end Go.Proofs.Yteklohamkmiphaa
namespace Go.Proofs.Yteklohamkmiphaa
open Go.RowKit

/-! ### writes to some blocks -/
/-- w' is w but for the blocks that S tells, and new ones -/
structure Upd (S : Nat → Prop) (w w' : World) : Prop where
  os : w'.os = w.os
  tape : w'.tape = w.tape
  output : w'.output = w.output
  size : w.heap.size ≤ w'.heap.size
  block : ∀ k, k < w.heap.size → ¬ S k → w'.heap[k]? = w.heap[k]?
theorem Upd.refl (S : Nat → Prop) (w : World) : Upd S w w := ⟨rfl, rfl, rfl, Nat.le_refl _, fun _ _ _ => rfl⟩
theorem Upd.ext {S : Nat → Prop} {w w' : World} (x : Ext w w') : Upd S w w' := ⟨Below.os x, Below.tape x, Below.output x, Ext.size x, fun k hk _ => Below.block x k hk⟩
theorem Upd.mono {S T : Nat → Prop} {w w' : World} (h : Upd S w w') (hs : ∀ k, k < w.heap.size → S k → T k) : Upd T w w' := ⟨h.os, h.tape, h.output, h.size, fun k hk hn => h.block k hk (fun q => hn (hs k hk q))⟩
theorem Upd.trans {S : Nat → Prop} {a b c : World} (h : Upd S a b) (k : Upd S b c) : Upd S a c :=
  ⟨k.os.trans h.os, k.tape.trans h.tape, k.output.trans h.output, Nat.le_trans h.size k.size, fun q hq hn => (k.block q (Nat.lt_of_lt_of_le hq h.size) hn).trans (h.block q hq hn)⟩
theorem Upd.setCell {S : Nat → Prop} {a w : World} (h : Upd S a w) {p : Addr} (hp : S p.block ∨ a.heap.size ≤ p.block) (u : Value) : Upd S a (w.setCell p u) := by
  refine ⟨h.os, h.tape, h.output, by simpa using h.size, fun k hk hn => ?_⟩
  rw [Below.heap_setCell _ _ _ _ (fun e => by
    rcases hp with hp | hp
    · exact hn (e ▸ hp)
    · omega)]
  exact h.block k hk hn
theorem Upd.alloc {S : Nat → Prop} {a w : World} (h : Upd S a w) (o : Obj) : Upd S a (w.alloc o) := h.trans (Upd.ext ((Ext.refl w).alloc o))
theorem Upd.grown {S : Nat → Prop} {a w w' : World} {row : Option Nat} (h : Upd S a w) (g : w.grownBy w' row) (hr : ∀ k, row = some k → S k ∨ a.heap.size ≤ k) : Upd S a w' :=
  ⟨g.os.trans h.os, g.tape.trans h.tape, g.output.trans h.output, Nat.le_trans h.size g.size, fun k hk hn => (g.block k (Nat.lt_of_lt_of_le hk h.size) (fun e => by
    rcases hr k e.symm with q | q
    · exact hn q
    · omega)).trans (h.block k hk hn)⟩
theorem cell_of_heap {w w' : World} {p : Addr} (h : w'.heap[p.block]? = w.heap[p.block]?) : w'.cell? p = w.cell? p := by unfold World.cell?; rw [h]
theorem Upd.cell {S : Nat → Prop} {w w' : World} (h : Upd S w w') {p : Addr} {u : Value} (hn : ¬ S p.block) (hc : w.cell? p = some u) : w'.cell? p = some u :=
  (cell_of_heap (h.block p.block (World.block_lt_of_cell? w p hc) hn)).trans hc
theorem Sl.upd {S : Nat → Prop} {w w' : World} {size n c : Nat} {A : Option Addr} {xs : List Value} (h : Sl w size A n c xs) (x : Upd S w w') (hn : ∀ k, blk A c = some k → ¬ S k) : Sl w' size A n c xs := by
  refine ⟨h.1, h.2.1, h.2.2.1, h.2.2.2.1, fun h0 => ?_⟩
  obtain ⟨ad, rfl, hc⟩ := h.2.2.2.2 h0
  refine ⟨ad, rfl, fun j u hu => x.cell ?_ (hc j u hu)⟩
  rw [block_add]
  refine hn ad.block ?_
  have := h.2.1
  cases c with
  | zero => omega
  | succ c => rfl
theorem Own.upd {S : Nat → Prop} {w w' : World} {B size n c : Nat} {e : TypeId} {A : Option Addr} {xs : List Value} (h : Own w B e size A n c xs) (x : Upd S w w') (hn : ∀ k, blk A c = some k → ¬ S k) : Own w' B e size A n c xs := by
  refine ⟨h.1, ?_⟩
  rcases h.2 with hz | ⟨g, cur, rfl, hb, hg, rest⟩
  · exact .inl hz
  · cases c with
    | zero =>
      obtain ⟨h1, _⟩ := rest
      exact .inl ⟨rfl, by omega⟩
    | succ c =>
      refine .inr ⟨g, cur, rfl, hb, ?_, rest⟩
      rw [x.block g (Array.getElem?_eq_some_iff.1 hg).1 (hn g rfl)]
      exact hg
/-! ### lists of lists -/
/-- a slice's header -/
structure En where
  A : Option Addr
  n : Nat
  c : Nat
def En.v (x : En) : Value := .slice x.A x.n x.c
def En.b (x : En) : Option Nat := blk x.A x.c
def En.zero : En := ⟨none, 0, 0⟩
def ensC (L : List En) : List Value := L.map En.v
theorem ensC_append (L M : List En) : ensC (L ++ M) = ensC L ++ ensC M := List.map_append
def ena (L : List En) (i : Nat) : En := L.getD i En.zero
theorem ena_append_old {L : List En} {x : En} {i : Nat} (h : i < L.length) : ena (L ++ [x]) i = ena L i := by
  unfold ena
  rw [List.getD_eq_getElem?_getD, List.getElem?_append_left h, List.getD_eq_getElem?_getD]
theorem ena_append_new (L : List En) (x : En) : ena (L ++ [x]) L.length = x := by
  unfold ena
  rw [List.getD_eq_getElem?_getD, List.getElem?_append_right (Nat.le_refl _), Nat.sub_self]
  rfl
section
variable (mk : Int → Nat → List Value) (size : Nat)
/-- so many marks -/
def marks_ (i : Int) (n : Nat) : List Value := (List.range n).flatMap (mk i)
variable {mk size}
theorem marks_zero (i : Int) : marks_ mk i 0 = [] := rfl
theorem marks_succ (i : Int) (n : Nat) : marks_ mk i (n + 1) = marks_ mk i n ++ mk i n := by
  unfold marks_
  rw [List.range_succ, List.flatMap_append, List.flatMap_singleton]
theorem marks_len (hs : ∀ i k, (mk i k).length = size) (i : Int) : ∀ n, (marks_ mk i n).length = n * size
  | 0 => by simp [marks_]
  | n + 1 => by rw [marks_succ, List.length_append, marks_len hs i n, hs, Nat.succ_mul]
end
/-- the lists, each in a block of its own that lies from B on -/
structure Lists (w : World) (B : Nat) (e : TypeId) (size : Nat) (L : List En) (f : Nat → List Value) : Prop where
  own : ∀ i, i < L.length → Own w B e size (ena L i).A (ena L i).n (ena L i).c (f i)
  apart : ∀ i j, i < L.length → j < L.length → i ≠ j → ∀ k, (ena L i).b = some k → (ena L j).b ≠ some k
/-- the blocks that the lists lie in -/
def Foot (L : List En) (k : Nat) : Prop := ∃ i, i < L.length ∧ (ena L i).b = some k
theorem Lists.foot_lt {w : World} {B : Nat} {e : TypeId} {size : Nat} {L : List En} {f : Nat → List Value} (h : Lists w B e size L f) {k : Nat} (hk : Foot L k) : B ≤ k ∧ k < w.heap.size := by
  obtain ⟨i, hi, hb⟩ := hk
  exact (h.own i hi).lt k hb
theorem Lists.upd {S : Nat → Prop} {w w' : World} {B : Nat} {e : TypeId} {size : Nat} {L : List En} {f : Nat → List Value} (h : Lists w B e size L f) (x : Upd S w w') (hn : ∀ k, Foot L k → ¬ S k) : Lists w' B e size L f :=
  ⟨fun i hi => (h.own i hi).upd x (fun k hk => hn k ⟨i, hi, hk⟩), h.apart⟩
theorem Lists.nil (w : World) (B : Nat) (e : TypeId) (size : Nat) (f : Nat → List Value) : Lists w B e size [] f := ⟨fun i hi => by simp at hi, fun i j hi => by simp at hi⟩
/-! ### the first phase: marks are written -/
structure Ph1 (mk : Int → Nat → List Value) (w wr : World) (B : Nat) (e : TypeId) (size : Nat) (L : List En) (i : Nat) (f : Nat → List Value) : Prop where
  ls : Lists wr B e size L f
  done : ∀ j, j < i → j < L.length → f j = marks_ mk j (ena L j).n
  upd : Upd (Foot L) w wr
/-- within an entry -/
structure Ph1I (mk : Int → Nat → List Value) (w wr : World) (B : Nat) (e : TypeId) (size : Nat) (L : List En) (i k : Nat) (f : Nat → List Value) : Prop where
  ph : Ph1 mk w wr B e size L i f
  part : (f i).take (k * size) = marks_ mk i k
theorem Ph1.enter {mk : Int → Nat → List Value} {w wr : World} {B : Nat} {e : TypeId} {size : Nat} {L : List En} {i : Nat} {f : Nat → List Value} (h : Ph1 mk w wr B e size L i f) : Ph1I mk w wr B e size L i 0 f := ⟨h, by rw [Nat.zero_mul]; rfl⟩
theorem Ph1I.leave {mk : Int → Nat → List Value} {w wr : World} {B : Nat} {e : TypeId} {size : Nat} {L : List En} {i : Nat} {f : Nat → List Value} (h : Ph1I mk w wr B e size L i (ena L i).n f) (hi : i < L.length) : Ph1 mk w wr B e size L (i + 1) f := by
  refine ⟨h.ph.ls, fun j hj hjl => ?_, h.ph.upd⟩
  by_cases hij : j < i
  · exact h.ph.done j hij hjl
  · have : j = i := by omega
    subst this
    have hl := (h.ph.ls.own j hi).1
    have := h.part
    rwa [← hl, List.take_length] at this
/-- a store into one of the lists -/
theorem Lists.put {w : World} {B : Nat} {e : TypeId} {size : Nat} {L : List En} {f : Nat → List Value} (h : Lists w B e size L f) {i g : Nat} (hi : i < L.length) (hA : (ena L i).A = some ⟨g, 0, none⟩) (hc : 0 < (ena L i).c) (q : Nat) (u : Value) :
    Lists (w.setCell ⟨g, q, none⟩ u) B e size L (fun j => if j = i then (f i).set q u else f j) := by
  have hb : (ena L i).b = some g := by
    unfold En.b
    rw [hA]
    generalize (ena L i).c = c at hc
    cases c with
    | zero => omega
    | succ c => rfl
  refine ⟨fun j hj => ?_, h.apart⟩
  by_cases hji : j = i
  · subst hji
    rw [if_pos rfl]
    have o := h.own j hi
    rw [hA] at o ⊢
    exact o.put q u
  · rw [if_neg hji]
    exact (h.own j hj).far (p := ⟨g, q, none⟩) (fun e => h.apart i j hi hj (Ne.symm hji) g hb e) u
/-! ### the second phase: each grows -/
structure Ph2 (mk : Int → Nat → List Value) (w1 wr : World) (B : Nat) (e T : TypeId) (size : Nat) (L : List En) (i : Nat) (G : List En) (LA : Option Addr) (lc : Nat) : Prop where
  len : G.length = i
  lst : Own wr w1.heap.size T 1 LA i lc (ensC G)
  rest : ∀ j, i ≤ j → j < L.length → Own wr B e size (ena L j).A (ena L j).n (ena L j).c (marks_ mk j (ena L j).n)
  read : ∀ j, j < i → Sl wr size (ena L j).A (ena L j).n (ena L j).c (marks_ mk j (ena L j).n)
  long : ∀ j, j < i → (ena G j).n = (ena L j).n + 8 ∧ Own wr B e size (ena G j).A (ena G j).n (ena G j).c (marks_ mk j (ena L j).n ++ marks_ mk (-1 - j) 8)
  at_ : ∀ j, j < i → ∀ k, (ena G j).b = some k → (ena L j).b = some k ∨ (w1.heap.size ≤ k ∧ blk LA lc ≠ some k)
  foot : ∀ k, Foot L k → k < w1.heap.size
  apart : ∀ i j, i < L.length → j < L.length → i ≠ j → ∀ k, (ena L i).b = some k → (ena L j).b ≠ some k
  upd : Upd (Foot L) w1 wr
theorem Ph2.start {mk : Int → Nat → List Value} {w wr : World} {B : Nat} {e : TypeId} {size : Nat} {L : List En} {f : Nat → List Value} (T : TypeId) (h : Ph1 mk w wr B e size L L.length f) : Ph2 mk wr wr B e T size L 0 [] none 0 :=
  ⟨rfl, Own.nil _ _ _ _, fun j _ hj => by have := h.ls.own j hj; rwa [h.done j hj hj] at this, fun j hj => by omega, fun j hj => by omega, fun j hj => by omega, fun k hk => (h.ls.foot_lt hk).2, h.ls.apart, Upd.refl _ _⟩
/-- within an entry: x is being grown -/
structure Ph2I (mk : Int → Nat → List Value) (w2 wr : World) (B : Nat) (e : TypeId) (size : Nat) (L : List En) (i k : Nat) (A : Option Addr) (c : Nat) : Prop where
  own : Own wr B e size A ((ena L i).n + k) c (marks_ mk i (ena L i).n ++ marks_ mk (-1 - i) k)
  at_ : (A = (ena L i).A ∧ c = (ena L i).c) ∨ ∃ q, blk A c = some q ∧ w2.heap.size ≤ q
  read : Sl wr size (ena L i).A (ena L i).n (ena L i).c (marks_ mk i (ena L i).n)
  lt : ∀ q, (ena L i).b = some q → q < w2.heap.size
  upd : Upd (fun q => (ena L i).b = some q) w2 wr
theorem Ph2.enter {mk : Int → Nat → List Value} {w1 wr : World} {B : Nat} {e T : TypeId} {size : Nat} {L : List En} {i : Nat} {G : List En} {LA : Option Addr} {lc : Nat} (h : Ph2 mk w1 wr B e T size L i G LA lc) (hi : i < L.length) : Ph2I mk wr wr B e size L i 0 (ena L i).A (ena L i).c := by
  have o := h.rest i (Nat.le_refl _) hi
  exact ⟨by rw [marks_zero, List.append_nil]; exact o, .inl ⟨rfl, rfl⟩, o.sl, fun q hq => (o.lt q hq).2, Upd.refl _ _⟩
theorem Ph2I.step {mk : Int → Nat → List Value} {w2 wr w3 : World} {B : Nat} {e : TypeId} {size : Nat} {L : List En} {i k : Nat} {A A3 : Option Addr} {c c3 : Nat} (h : Ph2I mk w2 wr B e size L i k A c) (hs : ∀ i k, (mk i k).length = size) (ob : Obj)
    (o3 : Own w3 B e size A3 ((ena L i).n + k + 1) c3 (marks_ mk i (ena L i).n ++ marks_ mk (-1 - i) k ++ mk (-1 - i) k)) (g3 : (wr.alloc ob).grownBy w3 (blk A c)) (x3 : (A3 = A ∧ c3 = c) ∨ (blk A3 c3 = some (wr.alloc ob).heap.size ∧ Ext (wr.alloc ob) w3)) : Ph2I mk w2 w3 B e size L i (k + 1) A3 c3 := by
  have hsz : w2.heap.size ≤ (wr.alloc ob).heap.size := Nat.le_trans h.upd.size ((Ext.refl wr).alloc ob).size
  have hin : ∀ q, blk A c = some q → (ena L i).b = some q ∨ w2.heap.size ≤ q := fun q hq => by
    rcases h.at_ with ⟨rfl, rfl⟩ | ⟨q', h1, h2⟩
    · exact .inl hq
    · rw [h1] at hq; injection hq with hq; exact .inr (by omega)
  refine ⟨by rw [marks_succ, ← List.append_assoc]; exact o3, ?_, ?_, h.lt, (h.upd.alloc ob).grown g3 hin⟩
  · rcases x3 with ⟨rfl, rfl⟩ | ⟨h1, _⟩
    · exact h.at_
    · exact .inr ⟨_, h1, hsz⟩
  · have key : A3 = (ena L i).A → c3 = (ena L i).c → Sl w3 size (ena L i).A (ena L i).n (ena L i).c (marks_ mk i (ena L i).n) := fun ea ec => by
      have := Sl.take (k := (ena L i).n) o3.sl (by omega)
      rw [List.append_assoc, List.take_left' (marks_len hs i _), ea, ec] at this
      exact this
    rcases x3 with ⟨rfl, rfl⟩ | ⟨h1, x⟩
    · rcases h.at_ with ⟨ea, ec⟩ | ⟨q', h1, h2⟩
      · exact key ea ec
      · refine Sl.upd (S := fun q => blk A3 c3 = some q) (h.read.ext ((Ext.refl wr).alloc ob)) ((Upd.refl _ _).grown g3 (fun k hk => .inl hk)) (fun q hq hq2 => ?_)
        rw [h1] at hq2
        injection hq2 with hq2
        have := h.lt q hq
        omega
    · exact (h.read.ext ((Ext.refl wr).alloc ob)).ext x
/-- the entry is done: it is put to the long ones -/
theorem Ph2.next {mk : Int → Nat → List Value} {w1 w2 wr w4 : World} {B : Nat} {e T : TypeId} {size : Nat} {L : List En} {i : Nat} {G : List En} {LA LA4 : Option Addr} {lc lc4 : Nat} {A : Option Addr} {c : Nat} (h : Ph2 mk w1 w2 B e T size L i G LA lc) (hi : i < L.length) (hx : Ph2I mk w2 wr B e size L i 8 A c) (ob : Obj)
    (o4 : Own w4 w1.heap.size T 1 LA4 (i + 1) lc4 (ensC G ++ [.slice A ((ena L i).n + 8) c])) (g4 : (wr.alloc ob).grownBy w4 (blk LA lc)) (x4 : (LA4 = LA ∧ lc4 = lc) ∨ (blk LA4 lc4 = some (wr.alloc ob).heap.size ∧ Ext (wr.alloc ob) w4)) : Ph2 mk w1 w4 B e T size L (i + 1) (G ++ [⟨A, (ena L i).n + 8, c⟩]) LA4 lc4 := by
  have hfi : ∀ q, (ena L i).b = some q → Foot L q := fun q hq => ⟨i, hi, hq⟩
  -- from w2 to w4 only entry i's block, and the long ones' list, have turned
  have hlt : ∀ q, blk LA lc = some q → w1.heap.size ≤ q ∧ q < w2.heap.size := fun q hq => h.lst.lt q hq
  have u4 : Upd (fun q => (ena L i).b = some q ∨ blk LA lc = some q) w2 w4 := ((hx.upd.mono (fun k _ q => Or.inl q)).alloc ob).grown g4 (fun k hk => .inl (.inr hk))
  have u5 : Upd (fun q => blk LA lc = some q) wr w4 := ((Upd.refl _ _).alloc ob).grown g4 (fun k hk => .inl hk)
  have nl : ∀ q, Foot L q → blk LA lc ≠ some q := fun q hq e1 => by have := h.foot q hq; have := (hlt q e1).1; omega
  have ni : ∀ j, j < L.length → j ≠ i → ∀ q, (ena L j).b = some q → ¬ ((ena L i).b = some q ∨ blk LA lc = some q) := fun j hj hji q hq e1 => by
    rcases e1 with e1 | e1
    · exact h.apart j i hj hi hji q hq e1
    · exact nl q ⟨j, hj, hq⟩ e1
  have hgl := h.len
  have hxb : ∀ q, blk A c = some q → (ena L i).b = some q ∨ w2.heap.size ≤ q := fun q hq => by
    rcases hx.at_ with ⟨rfl, rfl⟩ | ⟨q', h1, h2⟩
    · exact .inl hq
    · rw [h1] at hq; injection hq with hq; exact .inr (by omega)
  have hll : ∀ q, blk LA4 lc4 = some q → blk LA lc = some q ∨ wr.heap.size ≤ q := fun q hq => by
    rcases x4 with ⟨rfl, rfl⟩ | ⟨h1, _⟩
    · exact .inl hq
    · rw [h1] at hq; injection hq with hq; have := ((Ext.refl wr).alloc ob).size; exact .inr (by omega)
  refine ⟨by rw [List.length_append, hgl]; rfl, by rw [ensC_append]; exact o4, fun j hj hjl => (h.rest j (by omega) hjl).upd u4 (ni j hjl (by omega)), fun j hj => ?_, fun j hj => ?_, fun j hj q hq => ?_, h.foot, h.apart, ?_⟩
  · by_cases hji : j < i
    · exact (h.read j hji).upd u4 (ni j (by omega) (by omega))
    · obtain rfl : j = i := by omega
      exact hx.read.upd u5 (fun q hq => nl q (hfi q hq))
  · by_cases hji : j < i
    · rw [ena_append_old (by omega)]
      obtain ⟨h1, h2⟩ := h.long j hji
      refine ⟨h1, h2.upd u4 (fun q hq e1 => ?_)⟩
      rcases h.at_ j hji q hq with h3 | ⟨h3, h4⟩
      · exact ni j (by omega) (by omega) q h3 e1
      · rcases e1 with e1 | e1
        · have := h.foot q (hfi q e1); omega
        · exact h4 e1
    · obtain rfl : j = i := by omega
      have e1 : ena (G ++ [⟨A, (ena L j).n + 8, c⟩]) j = ⟨A, (ena L j).n + 8, c⟩ := by rw [← hgl]; exact ena_append_new G _
      rw [e1]
      refine ⟨rfl, hx.own.upd u5 (fun q hq e2 => ?_)⟩
      rcases hxb q hq with h3 | h3
      · exact nl q (hfi q h3) e2
      · have := (hlt q e2).2; omega
  · by_cases hji : j < i
    · rw [ena_append_old (by omega)] at hq
      rcases h.at_ j hji q hq with h3 | ⟨h3, h4⟩
      · exact .inl h3
      · refine .inr ⟨h3, fun e1 => ?_⟩
        rcases hll q e1 with h5 | h5
        · exact h4 h5
        · have := ((h.long j hji).2.lt q hq).2
          have := hx.upd.size
          omega
    · obtain rfl : j = i := by omega
      have e1 : ena (G ++ [⟨A, (ena L j).n + 8, c⟩]) j = ⟨A, (ena L j).n + 8, c⟩ := by rw [← hgl]; exact ena_append_new G _
      rw [e1] at hq
      rcases hxb q hq with h3 | h3
      · exact .inl h3
      · refine .inr ⟨Nat.le_trans h.upd.size h3, fun e2 => ?_⟩
        rcases hll q e2 with h5 | h5
        · have := (hlt q h5).2; omega
        · have := (hx.own.lt q hq).2; omega
  · have hd : ∀ q, q < w2.heap.size → (ena L i).b = some q → Foot L q := fun q _ hq => hfi q hq
    exact (h.upd.trans ((hx.upd.mono hd).alloc ob)).grown g4 (fun q hq => .inr (hlt q hq).1)
/-! ### reading elements -/
theorem addr_off (ad : Addr) (j q : Nat) (hq : 0 < q) : ad.add (j + q) = ⟨(ad.add j).block, (ad.add j).off + q, none⟩ := by
  rw [← add_add']
  unfold Addr.add
  rw [if_neg (by omega)]
end Go.Proofs.Yteklohamkmiphaa
namespace Go.Proofs.Yteklohamkmiphaa
open Go.RowKit

section
variable {α : Type} (enc : α → List Value) (k : Nat) (hk : ∀ x, (enc x).length = k)
include hk
theorem els_len : ∀ L : List α, (L.flatMap enc).length = L.length * k
  | [] => by simp
  | x :: l => by rw [List.flatMap_cons, List.length_append, hk, els_len l, List.length_cons, Nat.add_mul]; omega
theorem els_get (z : α) : ∀ (L : List α) (i j : Nat), i < L.length → j < k → (L.flatMap enc)[i * k + j]? = (enc (L.getD i z))[j]?
  | [], i, j, h, _ => absurd h (Nat.not_lt_zero _)
  | d :: l, 0, j, _, hj => by
    rw [List.flatMap_cons, Nat.zero_mul, Nat.zero_add, List.getElem?_append_left (by rw [hk]; exact hj)]
    rfl
  | d :: l, i + 1, j, h, hj => by
    rw [List.flatMap_cons, List.getElem?_append_right (by rw [hk, Nat.add_mul]; omega), show (i + 1) * k + j - (enc d).length = i * k + j by rw [hk, Nat.add_mul]; omega]
    exact els_get z l i j (Nat.lt_of_succ_lt_succ h) hj
theorem els_take : ∀ (L : List α) (m : Nat), (L.flatMap enc).take (m * k) = (L.take m).flatMap enc
  | [], m => by simp
  | x :: L, 0 => by simp
  | x :: L, m + 1 => by
    rw [List.flatMap_cons, List.take_succ_cons, List.flatMap_cons, List.take_append, hk, show (m + 1) * k - k = m * k by rw [Nat.add_mul]; omega, els_take L m, List.take_of_length_le (by rw [hk, Nat.add_mul]; omega)]
/-- the cells of the i-th -/
theorem els_at (z : α) {w : World} {A : Option Addr} {c n : Nat} {L : List α} (h : Sl w k A n c (L.flatMap enc)) (hn : n = L.length) {i : Nat} (hi : i < L.length) (k0 : 0 < k) :
    ∃ ad, A = some ad ∧ (∀ u, (enc (L.getD i z))[0]? = some u → w.cell? (ad.add (i * k)) = some u) ∧ ∀ q u, (enc (L.getD i z))[q + 1]? = some u → w.cell? ⟨(ad.add (i * k)).block, (ad.add (i * k)).off + (q + 1), none⟩ = some u := by
  obtain ⟨ad, e, hc⟩ := h.2.2.2.2 (by omega)
  refine ⟨ad, e, fun u hu => hc _ _ (by have := els_get enc k hk z L i 0 hi k0; rw [Nat.add_zero] at this; rw [this]; exact hu), fun q u hu => ?_⟩
  rw [← addr_off _ _ (q + 1) (by omega)]
  have hq : q + 1 < k := by
    have := (List.getElem?_eq_some_iff.1 hu).1
    rw [hk] at this; exact this
  exact hc _ _ (by rw [els_get enc k hk z L i (q + 1) hi hq]; exact hu)
end
theorem els_one {α : Type} {enc : α → List Value} (h : ∀ x, ∀ u ∈ enc x, u.oneCell' = true) (L : List α) : ∀ u ∈ L.flatMap enc, u.oneCell' = true := by
  intro u hu
  obtain ⟨d, _, g⟩ := List.mem_flatMap.1 hu
  exact h d u g
theorem getD_mem' {α : Type} {L : List α} {i : Nat} (z : α) (h : i < L.length) : L.getD i z ∈ L := by
  rw [List.getD_eq_getElem?_getD, List.getElem?_eq_getElem h]
  exact List.getElem_mem h
end Go.Proofs.Yteklohamkmiphaa
namespace Go.Proofs.Yteklohamkmiphaa
open Go.RowKit

/-- a way that lies in memory -/
structure Pm where
  A : Option Addr
  c : Nat
  w : Way
def Pm.zero : Pm := ⟨none, 0, idW⟩
instance : Inhabited Pm := ⟨Pm.zero⟩
def pmC (x : Pm) : List Value := [.int .i64 x.w.leave, .int .u32 x.w.add, .slice x.A x.w.enter.length x.c]
def pmV (x : Pm) : Value := .agg #[.int .i64 x.w.leave, .int .u32 x.w.add, .slice x.A x.w.enter.length x.c]
theorem pmC_len (x : Pm) : (pmC x).length = 3 := rfl
theorem pmC_one (x : Pm) : ∀ u ∈ pmC x, u.oneCell' = true := by
  intro u hu
  simp only [pmC, List.mem_cons, List.not_mem_nil, or_false] at hu
  rcases hu with rfl | rfl | rfl <;> rfl
/-- its counters lie there -/
def PmR (w : World) (x : Pm) : Prop := Sl w 1 x.A x.w.enter.length x.c (wds x.w.enter)
/-- its numbers are what such are -/
def W64 (x : Way) : Prop := (-9223372036854775808 ≤ x.leave ∧ x.leave ≤ 9223372036854775807) ∧ (0 ≤ x.add ∧ x.add ≤ 4294967295) ∧ U32 x.enter ∧ x.enter.length ≤ 1000000

/-- an inner way in memory -/
structure Im where
  i : Int
  o : Int
  p : Pm
def Im.zero : Im := ⟨0, 0, Pm.zero⟩
instance : Inhabited Im := ⟨Im.zero⟩
def Im.v (x : Im) : Inn := ⟨x.i, x.o, x.p.w⟩
def imC (x : Im) : List Value := [.int .i64 x.i, .int .i64 x.o, .int .i64 x.p.w.leave, .int .u32 x.p.w.add, .slice x.p.A x.p.w.enter.length x.p.c]
def imV (x : Im) : Value := .agg #[.int .i64 x.i, .int .i64 x.o, .int .i64 x.p.w.leave, .int .u32 x.p.w.add, .slice x.p.A x.p.w.enter.length x.p.c]
theorem imC_len (x : Im) : (imC x).length = 5 := rfl
def I64 (z : Int) : Prop := -9223372036854775808 ≤ z ∧ z ≤ 9223372036854775807

/-- a node in memory -/
structure Nm where
  ins : Int
  outs : Int
  depth : Int
  A : Option Addr
  c : Nat
  inner : List Im
def Nm.zero : Nm := ⟨0, 0, 0, none, 0, []⟩
instance : Inhabited Nm := ⟨Nm.zero⟩
def Nm.v (x : Nm) : Nd := ⟨x.ins, x.outs, x.depth, x.inner.map Im.v⟩
def nmC (x : Nm) : List Value := [.int .i64 x.ins, .int .i64 x.outs, .int .i64 x.depth, .slice x.A x.inner.length x.c]
def nmV (x : Nm) : Value := .agg #[.int .i64 x.ins, .int .i64 x.outs, .int .i64 x.depth, .slice x.A x.inner.length x.c]
theorem nmC_len (x : Nm) : (nmC x).length = 4 := rfl
def edC (e : Pt × Pt) : List Value := [.int .i64 e.1.n, .bool e.1.o, .int .i64 e.1.p, .int .i64 e.2.n, .bool e.2.o, .int .i64 e.2.p]
def edV (e : Pt × Pt) : Value := .agg #[.int .i64 e.1.n, .bool e.1.o, .int .i64 e.1.p, .int .i64 e.2.n, .bool e.2.o, .int .i64 e.2.p]
def ptV (p : Pt) : Value := .agg #[.int .i64 p.n, .bool p.o, .int .i64 p.p]
theorem edC_len (e : Pt × Pt) : (edC e).length = 6 := rfl
/-- a graph in memory -/
structure Gm where
  NA : Option Addr
  Nc : Nat
  nodes : List Nm
  EA : Option Addr
  Ec : Nat
  edges : List (Pt × Pt)
def Gm.v (g : Gm) : Gr := ⟨g.nodes.map Nm.v, g.edges⟩
/-- a node's ways lie there -/
structure NmR (w : World) (x : Nm) : Prop where
  sl : Sl w 5 x.A x.inner.length x.c (x.inner.flatMap imC)
  ls : ∀ y ∈ x.inner, PmR w y.p
/-- a graph as readings give it -/
structure GmR (w : World) (g : Gm) : Prop where
  ns : Sl w 4 g.NA g.nodes.length g.Nc (g.nodes.flatMap nmC)
  nd : ∀ x ∈ g.nodes, NmR w x
  es : Sl w 6 g.EA g.edges.length g.Ec (g.edges.flatMap edC)
/-- its numbers are what such are -/
structure N64 (x : Nm) : Prop where
  ins : I64 x.ins
  outs : I64 x.outs
  depth : I64 x.depth
  inn : ∀ y ∈ x.inner, I64 y.i ∧ I64 y.o ∧ W64 y.p.w
def P64 (p : Pt) : Prop := I64 p.n ∧ I64 p.p
structure G64 (g : Gm) : Prop where
  nd : ∀ x ∈ g.nodes, N64 x
  ed : ∀ e ∈ g.edges, P64 e.1 ∧ P64 e.2
section
variable {w w' : World}
theorem PmR.ext {x : Pm} (h : PmR w x) (e : Ext w w') : PmR w' x := Sl.ext h e
theorem NmR.ext {x : Nm} (h : NmR w x) (e : Ext w w') : NmR w' x := ⟨h.sl.ext e, fun y hy => (h.ls y hy).ext e⟩
theorem GmR.ext {g : Gm} (h : GmR w g) (e : Ext w w') : GmR w' g := ⟨h.ns.ext e, fun x hx => (h.nd x hx).ext e, h.es.ext e⟩
theorem NmR.at {x : Nm} (h : NmR w x) {i : Nat} (hi : i < x.inner.length) : ∃ ad, x.A = some ad ∧ w.cell? (ad.add (i * 5)) = some (.int .i64 (x.inner.getD i Im.zero).i) ∧ w.cell? ⟨(ad.add (i * 5)).block, (ad.add (i * 5)).off + 1, none⟩ = some (.int .i64 (x.inner.getD i Im.zero).o) ∧
    w.cell? ⟨(ad.add (i * 5)).block, (ad.add (i * 5)).off + 2, none⟩ = some (.int .i64 (x.inner.getD i Im.zero).p.w.leave) ∧ w.cell? ⟨(ad.add (i * 5)).block, (ad.add (i * 5)).off + 3, none⟩ = some (.int .u32 (x.inner.getD i Im.zero).p.w.add) ∧
    w.cell? ⟨(ad.add (i * 5)).block, (ad.add (i * 5)).off + 4, none⟩ = some (.slice (x.inner.getD i Im.zero).p.A (x.inner.getD i Im.zero).p.w.enter.length (x.inner.getD i Im.zero).p.c) := by
  obtain ⟨ad, e, h0, h1⟩ := els_at imC 5 imC_len Im.zero h.sl rfl hi (by omega)
  exact ⟨ad, e, h0 _ rfl, h1 0 _ rfl, h1 1 _ rfl, h1 2 _ rfl, h1 3 _ rfl⟩
theorem GmR.nat {g : Gm} (h : GmR w g) {i : Nat} (hi : i < g.nodes.length) : ∃ ad, g.NA = some ad ∧ w.cell? (ad.add (i * 4)) = some (.int .i64 (g.nodes.getD i Nm.zero).ins) ∧ w.cell? ⟨(ad.add (i * 4)).block, (ad.add (i * 4)).off + 1, none⟩ = some (.int .i64 (g.nodes.getD i Nm.zero).outs) ∧
    w.cell? ⟨(ad.add (i * 4)).block, (ad.add (i * 4)).off + 2, none⟩ = some (.int .i64 (g.nodes.getD i Nm.zero).depth) ∧ w.cell? ⟨(ad.add (i * 4)).block, (ad.add (i * 4)).off + 3, none⟩ = some (.slice (g.nodes.getD i Nm.zero).A (g.nodes.getD i Nm.zero).inner.length (g.nodes.getD i Nm.zero).c) := by
  obtain ⟨ad, e, h0, h1⟩ := els_at nmC 4 nmC_len Nm.zero h.ns rfl hi (by omega)
  exact ⟨ad, e, h0 _ rfl, h1 0 _ rfl, h1 1 _ rfl, h1 2 _ rfl⟩
def edZ : Pt × Pt := (⟨0, false, 0⟩, ⟨0, false, 0⟩)
theorem GmR.eat {g : Gm} (h : GmR w g) {i : Nat} (hi : i < g.edges.length) : ∃ ad, g.EA = some ad ∧ w.cell? (ad.add (i * 6)) = some (.int .i64 (g.edges.getD i edZ).1.n) ∧ w.cell? ⟨(ad.add (i * 6)).block, (ad.add (i * 6)).off + 1, none⟩ = some (.bool (g.edges.getD i edZ).1.o) ∧
    w.cell? ⟨(ad.add (i * 6)).block, (ad.add (i * 6)).off + 2, none⟩ = some (.int .i64 (g.edges.getD i edZ).1.p) ∧ w.cell? ⟨(ad.add (i * 6)).block, (ad.add (i * 6)).off + 3, none⟩ = some (.int .i64 (g.edges.getD i edZ).2.n) ∧
    w.cell? ⟨(ad.add (i * 6)).block, (ad.add (i * 6)).off + 4, none⟩ = some (.bool (g.edges.getD i edZ).2.o) ∧ w.cell? ⟨(ad.add (i * 6)).block, (ad.add (i * 6)).off + 5, none⟩ = some (.int .i64 (g.edges.getD i edZ).2.p) := by
  obtain ⟨ad, e, h0, h1⟩ := els_at edC 6 edC_len edZ h.es rfl hi (by omega)
  exact ⟨ad, e, h0 _ rfl, h1 0 _ rfl, h1 1 _ rfl, h1 2 _ rfl, h1 3 _ rfl, h1 4 _ rfl⟩
end
theorem G64.g32 {g : Gm} (h : G64 g) : G32 g.v := by
  intro n hn x hx
  obtain ⟨m, hm, rfl⟩ := List.mem_map.1 hn
  obtain ⟨y, hy, rfl⟩ := List.mem_map.1 hx
  obtain ⟨_, _, h3⟩ := (h.nd m hm).inn y hy
  exact ⟨h3.2.1.1, h3.2.1.2, h3.2.2.1⟩
end Go.Proofs.Yteklohamkmiphaa
namespace Go.Proofs.Yteklohamkmiphaa
open Go.RowKit

open Classical in
/-- the least ways from a place to an input -/
noncomputable def lw (g : Gr) (fr t : Pt) : List Way := if h : ∃ l, LeastIs g fr t l then Classical.choose h else []
theorem lw_eq {g : Gr} (G : GOK g) {fr t : Pt} (hf : (g.dep fr).isSome) {l : List Way} (h : LeastIs g fr t l) : lw g fr t = l := by
  unfold lw
  rw [dif_pos ⟨l, h⟩]
  exact (Classical.choose_spec (⟨l, h⟩ : ∃ l, LeastIs g fr t l)).unique G hf h
/-- what is told of a place and an input -/
noncomputable def one (g : Gr) (fr t : Pt) : List (Pt × Pt × List Way) := if lw g fr t = [] then [] else [(fr, t, lw g fr t)]
def insN (g : Gm) (i : Nat) : Nat := (g.nodes.getD i Nm.zero).ins.toNat
def outN (g : Gm) (i : Nat) : Nat := (g.nodes.getD i Nm.zero).outs.toNat
/-- of one node's inputs, so many -/
noncomputable def rowT (g : Gm) (fr : Pt) (a b : Nat) : List (Pt × Pt × List Way) := (List.range b).flatMap fun k : Nat => one g.v fr ⟨a, false, k⟩
/-- of the inputs of so many nodes -/
noncomputable def tosT (g : Gm) (fr : Pt) (a : Nat) : List (Pt × Pt × List Way) := (List.range a).flatMap fun i : Nat => rowT g fr i (insN g i)
/-- a node's places: its inputs, then its outputs -/
def plc (g : Gm) (i k : Nat) : Pt := if k < insN g i then ⟨i, false, k⟩ else ⟨i, true, (k : Int) - insN g i⟩
noncomputable def frT (g : Gm) (i k : Nat) : List (Pt × Pt × List Way) := (List.range k).flatMap fun k : Nat => tosT g (plc g i k) g.nodes.length
noncomputable def totT (g : Gm) (i : Nat) : List (Pt × Pt × List Way) := (List.range i).flatMap fun i : Nat => frT g i (insN g i + outN g i)
/-- what All tells -/
def AllIs (g : Gm) (L : List (Pt × Pt × List Way)) (e : Int) : Prop := (CheckIs g.v e ∧ e ≠ 0 ∧ L = []) ∨ (CheckIs g.v 0 ∧ e = 0 ∧ L = totT g g.nodes.length)
theorem AllIs.unique {g : Gm} {L M : List (Pt × Pt × List Way)} {a b : Int} (h : AllIs g L a) (k : AllIs g M b) : L = M ∧ a = b := by
  rcases h with ⟨h1, h2, h3⟩ | ⟨h1, h2, h3⟩ <;> rcases k with ⟨k1, k2, k3⟩ | ⟨k1, k2, k3⟩
  · exact ⟨by rw [h3, k3], h1.unique k1⟩
  · exact absurd (h1.unique k1) h2
  · exact absurd (k1.unique h1) k2
  · exact ⟨by rw [h3, k3], by rw [h2, k2]⟩
theorem rowT_succ (g : Gm) (fr : Pt) (a b : Nat) : rowT g fr a (b + 1) = rowT g fr a b ++ one g.v fr ⟨a, false, b⟩ := by
  unfold rowT
  rw [List.range_succ, List.flatMap_append, List.flatMap_singleton]
theorem tosT_succ (g : Gm) (fr : Pt) (a : Nat) : tosT g fr (a + 1) = tosT g fr a ++ rowT g fr a (insN g a) := by
  unfold tosT
  rw [List.range_succ, List.flatMap_append, List.flatMap_singleton]
theorem frT_succ (g : Gm) (i k : Nat) : frT g i (k + 1) = frT g i k ++ tosT g (plc g i k) g.nodes.length := by
  unfold frT
  rw [List.range_succ, List.flatMap_append, List.flatMap_singleton]
theorem totT_succ (g : Gm) (i : Nat) : totT g (i + 1) = totT g i ++ frT g i (insN g i + outN g i) := by
  unfold totT
  rw [List.range_succ, List.flatMap_append, List.flatMap_singleton]
theorem rowT_zero (g : Gm) (fr : Pt) (a : Nat) : rowT g fr a 0 = [] := rfl
theorem tosT_zero (g : Gm) (fr : Pt) : tosT g fr 0 = [] := rfl
theorem frT_zero (g : Gm) (i : Nat) : frT g i 0 = [] := rfl
theorem plc_in {g : Gm} {i k : Nat} (h : k < insN g i) : plc g i k = ⟨i, false, k⟩ := by unfold plc; rw [if_pos h]
theorem plc_out {g : Gm} {i k : Nat} : plc g i (insN g i + k) = ⟨i, true, k⟩ := by
  unfold plc
  rw [if_neg (by omega)]
  congr 1
  omega
end Go.Proofs.Yteklohamkmiphaa
namespace Go.Proofs.Yteklohamkmiphaa
open Go.RowKit

/-! ### the type of a block -/
def Ty (w : World) (k : Nat) (e : TypeId) : Prop := ∃ cur z, w.heap[k]? = some (.cells cur e z)
theorem Ty.ne {w : World} {k : Nat} {e f : TypeId} (h : Ty w k e) (g : Ty w k f) : e = f := by
  obtain ⟨a, b, h⟩ := h
  obtain ⟨c, d, g⟩ := g
  rw [h] at g
  injection g with g
  injection g with _ g
theorem Bk.ty {w : World} {g : Nat} {t : TypeId} {cs : Array Value} (h : Bk w g t cs) : Ty w g t := ⟨_, _, h⟩
theorem Own.ty {w : World} {B s n c : Nat} {e : TypeId} {A : Option Addr} {xs : List Value} (h : Own w B e s A n c xs) {k : Nat} (hk : blk A c = some k) : Ty w k e := by
  rcases h.2 with ⟨rfl, _⟩ | ⟨g, cur, rfl, _, hg, _⟩
  · rw [blk_zero] at hk; cases hk
  · cases c with
    | zero => cases hk
    | succ c =>
      injection hk with hk
      simp only at hk
      subst hk
      exact ⟨_, _, hg⟩
end Go.Proofs.Yteklohamkmiphaa
