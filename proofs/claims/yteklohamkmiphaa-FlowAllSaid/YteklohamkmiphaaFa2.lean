/- The queue of least ways, plainly: how many entries of two layers there are at most. The queue of least ways, plainly: how much waits at most. Regions that draw their order: (1) all operations only read, callees at most make new memory; (2) a fixed order serves every order. Slices of uint32: their elements. slices.Clone at counters, SameWords: what they answer. stamp.sum, at: what they answer. stamp.Then: the way that is first one, then another one. stamp.PathLeq: whether a way never comes behind where another one comes. Conditions: each theorem states its own. -/
import Derived.Test.YteklohamkmiphaaFa1
import Derived.OrdersHeld
import Derived.Test.YteklohamkmiphaaChecked
import Derived.BigRegion
namespace Go.Proofs.Yteklohamkmiphaa

theorem prod_lg_le (fs : List Nat) {n s : Nat} (h1 : ∀ x ∈ fs, 1 ≤ x) (h : n ≤ prodL fs) (hs : sumOn lg fs ≤ s) : n ^ 200 ≤ 2 ^ s :=
  Nat.le_trans (Nat.pow_le_pow_left h 200) (Nat.le_trans (prodL_lg fs h1) (Nat.pow_le_pow_right (by omega) hs))

section
variable {P W : Type} [DecidableEq P] {N : Net P W}

theorem sumOn_flat {α : Type} (f : α → List Nat) : ∀ l : List α, sumOn lg (l.flatMap f) = sumOn (fun a => sumOn lg (f a)) l
  | [] => rfl
  | a :: l => by rw [List.flatMap_cons, sumOn_append, sumOn_cons, sumOn_flat f l]
theorem sumOn_map {α β : Type} (f : α → β) (g : β → Nat) : ∀ l : List α, sumOn g (l.map f) = sumOn (fun a => g (f a)) l
  | [] => rfl
  | a :: l => by rw [List.map_cons, sumOn_cons, sumOn_cons, sumOn_map f g l]
theorem sumOn_congr {α : Type} {f g : α → Nat} {l : List α} (h : ∀ a ∈ l, f a = g a) : sumOn f l = sumOn g l := by
  unfold sumOn; rw [List.map_congr_left h]

variable {ws : List W} {eds : List (P × P)} {outs qs : List P} {fd : P → Option P} {inp : P → Bool} {nodes : Nat}

def lgX (N : Net P W) (ws : List W) (fd : P → Option P) (keys : List P) : Nat := lg (1 + k0Of N ws) + sumOn (fun k => lg (1 + bOf N ws fd 1 k) + lg (1 + bOf N ws fd 2 k) + lg (1 + bOf N ws fd 3 k)) keys
def lgY (N : Net P W) (ws : List W) (eds : List (P × P)) (fd : P → Option P) (outs qs : List P) : Nat :=
  lg (1 + k0Of N ws) + (sumOn (fun k => lg (1 + bOf N ws fd 1 k) + lg (1 + bOf N ws fd 2 k)) (outs ++ qs) + (sumOn (fun o => lg (max 1 (bOf N ws fd 3 o + wOf N ws eds fd o))) outs + sumOn (fun q => lg (max 1 (bOf N ws fd 3 q))) qs))

theorem sigO_len (i : Nat) (k : P) : (N.sigO ws (keyOf N fd) i k).length = 1 + bOf N ws fd i k := by
  unfold Net.sigO bOf; rw [List.length_cons, List.length_map]; omega
omit [DecidableEq P] in
theorem rootO_len : (N.rootO ws).length = 1 + k0Of N ws := by
  unfold Net.rootO k0Of; rw [List.length_cons, List.length_map]; omega

theorem fX_lens (keys : List P) : (N.fX ws (keyOf N fd) keys).map (fun f => f.2.length) = (1 + k0Of N ws) :: keys.flatMap (fun k => [1 + bOf N ws fd 1 k, 1 + bOf N ws fd 2 k, 1 + bOf N ws fd 3 k]) := by
  unfold Net.fX
  rw [List.map_cons, rootO_len, List.map_flatMap]
  simp only [List.map_cons, List.map_nil, sigO_len]
theorem Cost.fY_lens [DecidableEq W] (C : Cost N ws eds outs qs fd inp nodes) (keys : List P) : (N.fY ws (keyOf N fd) keys eds fd outs qs).map (fun f => f.2.length) =
    (1 + k0Of N ws) :: (keys.flatMap (fun k => [1 + bOf N ws fd 1 k, 1 + bOf N ws fd 2 k]) ++ (outs.map (fun o => max 1 (bOf N ws fd 3 o + wOf N ws eds fd o)) ++ qs.map (fun q => max 1 (bOf N ws fd 3 q)))) := by
  unfold Net.fY
  rw [List.map_cons, rootO_len, List.map_append, List.map_flatMap, List.map_append, List.map_map, List.map_map]
  simp only [List.map_cons, List.map_nil, sigO_len]
  congr 2
  congr 1
  · refine List.map_congr_left fun o ho => ?_
    show (some1 [] (N.optO ws eds fd o)).length = _
    rw [length_some1, C.optO_len ho]
  · refine List.map_congr_left fun q hq => ?_
    show (some1 [] (N.optQ ws q)).length = _
    rw [length_some1, C.optQ_len hq]

theorem fX_lg (keys : List P) : sumOn lg ((N.fX ws (keyOf N fd) keys).map (fun f => f.2.length)) = lgX N ws fd keys := by
  have e : sumOn (fun k => sumOn lg [1 + bOf N ws fd 1 k, 1 + bOf N ws fd 2 k, 1 + bOf N ws fd 3 k]) keys = sumOn (fun k => lg (1 + bOf N ws fd 1 k) + lg (1 + bOf N ws fd 2 k) + lg (1 + bOf N ws fd 3 k)) keys :=
    sumOn_congr fun k _ => by simp only [sumOn_cons, sumOn_nil]; omega
  rw [fX_lens, sumOn_cons, sumOn_flat, e]
  rfl
theorem Cost.fY_lg [DecidableEq W] (C : Cost N ws eds outs qs fd inp nodes) : sumOn lg ((N.fY ws (keyOf N fd) (outs ++ qs) eds fd outs qs).map (fun f => f.2.length)) = lgY N ws eds fd outs qs := by
  have e : sumOn (fun k => sumOn lg [1 + bOf N ws fd 1 k, 1 + bOf N ws fd 2 k]) (outs ++ qs) = sumOn (fun k => lg (1 + bOf N ws fd 1 k) + lg (1 + bOf N ws fd 2 k)) (outs ++ qs) :=
    sumOn_congr fun k _ => by simp only [sumOn_cons, sumOn_nil]; omega
  rw [C.fY_lens, sumOn_cons, sumOn_append lg (List.flatMap _ _), sumOn_append lg (List.map _ _), sumOn_flat, sumOn_map, sumOn_map, e]
  rfl

theorem lgXY : lgX N ws fd (outs ++ qs) + 3 * lgY N ws eds fd outs qs = totalG N ws eds outs qs fd := by
  unfold lgX lgY totalG gO gQ
  simp only [sumOn_append, sumOn_add, sumOn_mul]
  omega

theorem pow_total {n a s t : Nat} (h1 : n ^ 200 ≤ 2 ^ a) (h2 : n ^ 200 ≤ 2 ^ s) (e : a + 3 * s = t) : (n ^ 200) ^ 4 ≤ 2 ^ t := by
  have h3 := Nat.pow_le_pow_left h2 3
  have h4 := Nat.mul_le_mul h1 h3
  rw [← Nat.pow_mul (2 : Nat), ← Nat.pow_add] at h4
  rw [← e, Nat.mul_comm 3 s]
  refine Nat.le_trans (Nat.le_of_eq ?_) h4
  rw [Nat.pow_succ' (n := 3)]

/-- what a run's lists are to one another -/
structure Run.Lists (R : Run N) (ws : List W) (eds : List (P × P)) (outs qs : List P) (fd : P → Option P) (inp : P → Bool) (nodes : Nat) : Prop where
  K : R.Ways ws (outs ++ qs) (keyOf N fd)
  D : R.Edges ws eds outs qs fd inp
  C : Cost N ws eds outs qs fd inp nodes
  ei : ∀ e, e ∈ eds → inp e.2 = true
  wo : ∀ x, x ∈ ws → inp (N.wout x) = false

variable {R : Run N}

theorem Run.Lists.base4 (A : R.Lists ws eds outs qs fd inp nodes) {l : List (Mv P W)} (h : R.E l) (ho : inp (N.endp l) = false) : N.base 4 l = l := by
  cases l with
  | nil => rfl
  | cons m t =>
    cases m with
    | e o q => have := A.ei _ (A.D.em _ _ _ h); simp only [Net.endp] at ho; rw [ho] at this; simp at this
    | w x => have := (R.kw x t h).2; exact N.base_n x t (by omega)

theorem suffix_next {α : Type} {t l : List α} (h : t <:+ l) (ne : t ≠ l) : ∃ m, (m :: t) <:+ l := by
  obtain ⟨a, rfl⟩ := h
  rcases List.eq_nil_or_concat a with rfl | ⟨b, m, rfl⟩
  · exact absurd rfl ne
  · exact ⟨m, b, by simp⟩

theorem Run.Lists.onward (A : R.Lists ws eds outs qs fd inp nodes) {l : List (Mv P W)} (h : R.E l) (hl : inp (N.endp l) = false ∨ ∃ x, x ∈ ws ∧ N.kp x = 3 ∧ N.win x = N.endp l) : N.onward ws l := by
  intro o q t h1 h2
  have he := (R.suffix h h1).1
  by_cases e : (.e o q :: t : List (Mv P W)) = l
  · subst e
    rcases hl with hl | hl
    · have := A.ei _ (A.D.em _ _ _ he); simp only [Net.endp] at hl; rw [hl] at this; simp at this
    · exact hl
  · obtain ⟨m, hm⟩ := suffix_next h1 e
    have em := (R.suffix h hm).1
    have sm := (R.tl _ _ em).2.2
    have inq := A.ei _ (A.D.em _ _ _ he)
    cases m with
    | e o' q' =>
      simp only [Net.src, Net.endp] at sm
      have := (A.D.eo _ _ (A.D.em _ _ _ em)).2
      rw [sm, inq] at this; simp at this
    | w x =>
      simp only [Net.src, Net.endp] at sm
      refine ⟨x, A.D.wm x _ em, ?_, sm⟩
      have k3 := (R.kw x _ em).2
      have c := R.ch_at h hm (h2.trans (List.suffix_cons _ _))
      obtain ⟨_, _, _, _, c4⟩ := N.ch_some c
      simp only [Net.kpm] at c4
      omega

theorem Run.Lists.pos_X (_A : R.Lists ws eds outs qs fd inp nodes) : ∀ x ∈ (N.fX ws (keyOf N fd) (outs ++ qs)).map (fun f => f.2.length), 1 ≤ x := by
  rw [fX_lens]
  intro x hx
  rcases List.mem_cons.1 hx with rfl | hx
  · omega
  · obtain ⟨k, _, hx⟩ := List.mem_flatMap.1 hx
    simp at hx; omega
variable [DecidableEq W]
theorem Run.Lists.listX (A : R.Lists ws eds outs qs fd inp nodes) {L : List (List (Mv P W))} (nd : L.Nodup) (h : ∀ l ∈ L, R.E l ∧ inp (N.endp l) = false) : L.length ≤ prodL ((N.fX ws (keyOf N fd) (outs ++ qs)).map fun f => f.2.length) :=
  A.K.boundX L nd fun l hl => ⟨(h l hl).1, A.base4 (h l hl).1 (h l hl).2⟩
theorem Run.Lists.listY (A : R.Lists ws eds outs qs fd inp nodes) {L : List (List (Mv P W))} {n : Nat} (nd : L.Nodup) (h : ∀ l ∈ L, R.E l ∧ l.length = n ∧ (inp (N.endp l) = false ∨ ∃ x, x ∈ ws ∧ N.kp x = 3 ∧ N.win x = N.endp l)) :
    L.length ≤ prodL ((N.fY ws (keyOf N fd) (outs ++ qs) eds fd outs qs).map fun f => f.2.length) :=
  A.D.boundY A.K A.C.qi n L nd fun l hl => ⟨(h l hl).1, A.onward (h l hl).1 (h l hl).2.2, (h l hl).2.1⟩

theorem Run.Lists.pos_Y (A : R.Lists ws eds outs qs fd inp nodes) : ∀ x ∈ (N.fY ws (keyOf N fd) (outs ++ qs) eds fd outs qs).map (fun f => f.2.length), 1 ≤ x := by
  rw [A.C.fY_lens]
  intro x hx
  rcases List.mem_cons.1 hx with rfl | hx
  · omega
  · rcases List.mem_append.1 hx with hx | hx
    · obtain ⟨k, _, hx⟩ := List.mem_flatMap.1 hx
      simp at hx; omega
    · rcases List.mem_append.1 hx with hx | hx
      · obtain ⟨o, _, rfl⟩ := List.mem_map.1 hx; omega
      · obtain ⟨o, _, rfl⟩ := List.mem_map.1 hx; omega

/-- of one layer, at outputs -/
theorem Run.Lists.outs_le (A : R.Lists ws eds outs qs fd inp nodes) {L : List (List (Mv P W))} {n : Nat} (nd : L.Nodup) (h : ∀ l ∈ L, R.E l ∧ l.length = n ∧ inp (N.endp l) = false) : (L.length ^ 200) ^ 4 ≤ 2 ^ totalG N ws eds outs qs fd :=
  pow_total (prod_lg_le _ A.pos_X (A.listX nd fun l hl => ⟨(h l hl).1, (h l hl).2.2⟩) (Nat.le_of_eq (fX_lg _)))
    (prod_lg_le _ A.pos_Y (A.listY nd fun l hl => ⟨(h l hl).1, (h l hl).2.1, .inl (h l hl).2.2⟩) (Nat.le_of_eq A.C.fY_lg)) lgXY

theorem exists_max {α : Type} (f : α → Nat) : ∀ l : List α, l ≠ [] → ∃ a, a ∈ l ∧ ∀ b ∈ l, f b ≤ f a
  | [], h => absurd rfl h
  | [a], _ => ⟨a, by simp, by simp⟩
  | a :: b :: l, _ => by
    obtain ⟨c, h1, h2⟩ := exists_max f (b :: l) (by simp)
    by_cases hc : f a ≤ f c
    · refine ⟨c, List.mem_cons_of_mem _ h1, fun x hx => ?_⟩
      rcases List.mem_cons.1 hx with rfl | hx
      · exact hc
      · exact h2 x hx
    · refine ⟨a, List.mem_cons_self, fun x hx => ?_⟩
      rcases List.mem_cons.1 hx with rfl | hx
      · exact Nat.le_refl _
      · exact Nat.le_trans (h2 x hx) (by omega)

theorem nodup_le {α : Type} [DecidableEq α] {L O : List α} (nd : L.Nodup) (h : ∀ x ∈ L, x ∈ O) : L.length ≤ O.length := by
  have := count_by (fun x => x) 1 O L h fun b _ => by
    have : ∀ l : List α, l.Nodup → (l.filter (fun x => decide (x = b))).length ≤ 1 := by
      intro l nl
      have h2 := nl.filter (fun x => decide (x = b))
      match hh : l.filter (fun x => decide (x = b)) with
      | [] => simp
      | [a] => simp
      | a :: c :: r =>
        rw [hh] at h2
        have m1 : a ∈ l.filter (fun x => decide (x = b)) := by rw [hh]; simp
        have m2 : c ∈ l.filter (fun x => decide (x = b)) := by rw [hh]; simp
        have e1 := of_decide_eq_true (List.mem_filter.1 m1).2
        have e2 := of_decide_eq_true (List.mem_filter.1 m2).2
        simp [e1, e2] at h2
    exact this L nd
  omega
theorem inj_le {α β : Type} [DecidableEq β] {f : α → β} {L : List α} {O : List β} (nd : L.Nodup) (h : ∀ x ∈ L, f x ∈ O) (inj : ∀ x ∈ L, ∀ y ∈ L, f x = f y → x = y) : L.length ≤ O.length := by
  have n2 : (L.map f).Nodup := by
    refine List.nodup_iff_pairwise_ne.2 (List.pairwise_map.2 ?_)
    have hp := List.nodup_iff_pairwise_ne.1 nd
    refine hp.imp_of_mem ?_
    intro a b ha hb hab e
    exact hab (inj a ha b hb e)
  have := nodup_le n2 (O := O) fun y hy => by obtain ⟨x, hx, rfl⟩ := List.mem_map.1 hy; exact h x hx
  rwa [List.length_map] at this
end
end Go.Proofs.Yteklohamkmiphaa
namespace Go.Proofs.Yteklohamkmiphaa
section
variable {P W : Type} [DecidableEq P] [DecidableEq W] {N : Net P W} {ws : List W} {eds : List (P × P)} {outs qs : List P} {fd : P → Option P} {inp : P → Bool} {nodes : Nat} {R : Run N}

theorem pow_le {a k n t s : Nat} (hk : k ^ 200 ≤ 2 ^ a) (hn : (n ^ 200) ^ 4 ≤ 2 ^ t) (h : t + 4 * a ≤ s) : ((k * n) ^ 200) ^ 4 ≤ 2 ^ s := by
  have h1 := Nat.mul_le_mul (Nat.pow_le_pow_left hk 4) hn
  rw [← Nat.pow_mul 2, ← Nat.pow_add] at h1
  rw [Nat.mul_pow, Nat.mul_pow]
  exact Nat.le_trans h1 (Nat.pow_le_pow_right (by omega) (by omega))

theorem root_le {n s a b c : Nat} (h : (n ^ a) ^ b ≤ 2 ^ s) (e : s = c * a * b) (ha : a ≠ 0) (hb : b ≠ 0) : n ≤ 2 ^ c := by
  rw [e, Nat.pow_mul, Nat.pow_mul] at h
  exact (Nat.pow_le_pow_iff_left ha).1 ((Nat.pow_le_pow_iff_left hb).1 h)
theorem le_41 {n s : Nat} (h : (n ^ 200) ^ 4 ≤ 2 ^ s) (e : s = 32800) : n ≤ 2 ^ 41 := root_le (c := 41) h (by omega) (by omega) (by omega)
theorem le_402 {n s : Nat} (h : (n ^ 200) ^ 4 ≤ 2 ^ s) (es : s = 32160) : n ≤ 1263007198127 := by
  have e : n ^ 200 = (n ^ 5) ^ 40 := by rw [← Nat.pow_mul]
  rw [e] at h
  have h1 : n ^ 5 ≤ 2 ^ 201 := root_le (c := 201) h (by omega) (by omega) (by omega)
  refine Classical.byContradiction fun c => ?_
  have h2 : 1263007198128 ^ 5 ≤ n ^ 5 := Nat.pow_le_pow_left (by omega) 5
  have h3 := Nat.le_trans h2 h1
  revert h3
  decide

def dead (N : Net P W) (ws : List W) (eds : List (P × P)) (o : P) : List (P × P) := eds.filter (fun e => decide (e.1 = o) && ! has3 N ws e.2)
omit [DecidableEq W] in
theorem dead_le (fd : P → Option P) (o : P) : (dead N ws eds o).length ≤ d1Of eds fd o + mOf N ws eds fd o := by
  unfold dead d1Of mOf
  induction eds with
  | nil => simp
  | cons e l ih =>
    simp only [List.filter_cons]
    by_cases h1 : e.1 = o <;> by_cases h2 : fd e.2 = none <;> cases h3 : has3 N ws e.2 <;> simp [h1, h2] <;> omega

omit [DecidableEq W] in
/-- what is at an input came by an edge -/
theorem Run.Lists.in_form (A : R.Lists ws eds outs qs fd inp nodes) {l : List (Mv P W)} (h : R.E l) (hi : inp (N.endp l) = true) : l = [] ∨ ∃ o q t, l = .e o q :: t := by
  cases l with
  | nil => exact .inl rfl
  | cons m t =>
    cases m with
    | e o q => exact .inr ⟨o, q, t, rfl⟩
    | w x => have := A.wo x (A.D.wm x t h); simp only [Net.endp] at hi; rw [this] at hi; simp at hi

omit [DecidableEq W] in
theorem Run.Lists.tail_out (A : R.Lists ws eds outs qs fd inp nodes) {o q : P} {t : List (Mv P W)} (h : R.E (.e o q :: t)) : R.E t ∧ N.endp t = o ∧ o ∈ outs ∧ inp (N.endp t) = false ∧ (o, q) ∈ eds := by
  have he := A.D.em _ _ _ h
  obtain ⟨h1, _, h3⟩ := R.tl _ _ h
  simp only [Net.src] at h3
  have := A.D.eo _ _ he
  exact ⟨h1, h3.symm, this.1, h3 ▸ this.2, he⟩

def tailL {α : Type} : List α → List α
  | [] => []
  | _ :: t => t

/-- at inputs, of one layer, by how much each output's entries grow -/
theorem Run.Lists.ins_by (A : R.Lists ws eds outs qs fd inp nodes) {L : List (List (Mv P W))} {d : Nat} (nd : L.Nodup) (h : ∀ l ∈ L, R.E l ∧ ∃ o q t, l = .e o q :: t)
    (hd : ∀ (t : List (Mv P W)) (M : List (List (Mv P W))), M.Nodup → (∀ l ∈ M, l ∈ L ∧ tailL l = t) → M.length ≤ d) :
    ∃ T : List (List (Mv P W)), T.Nodup ∧ (∀ t ∈ T, R.E t ∧ inp (N.endp t) = false ∧ ∃ m, m :: t ∈ L) ∧ L.length ≤ T.length * d := by
  have hT : ∀ T : List (List (Mv P W)), ∃ U : List (List (Mv P W)), U.Nodup ∧ ∀ x, x ∈ U ↔ x ∈ T := by
    intro T
    induction T with
    | nil => exact ⟨[], List.nodup_nil, fun _ => Iff.rfl⟩
    | cons a T ih =>
      obtain ⟨U, u1, u2⟩ := ih
      by_cases ha : a ∈ U
      · exact ⟨U, u1, fun x => by rw [u2 x, List.mem_cons]; constructor; exact .inr; rintro (rfl | h); exact (u2 _).1 ha; exact h⟩
      · exact ⟨a :: U, List.nodup_cons.2 ⟨ha, u1⟩, fun x => by rw [List.mem_cons, List.mem_cons, u2 x]⟩
  obtain ⟨T, t1, t2⟩ := hT (L.map tailL)
  refine ⟨T, t1, fun t ht => ?_, ?_⟩
  · obtain ⟨l, hl, e⟩ := List.mem_map.1 ((t2 t).1 ht)
    obtain ⟨h1, o, q, s, rfl⟩ := h l hl
    simp only [tailL] at e
    subst e
    have := A.tail_out h1
    exact ⟨this.1, this.2.2.2.1, _, hl⟩
  · refine count_by tailL d T L (fun l hl => (t2 _).2 (List.mem_map.2 ⟨l, hl, rfl⟩)) fun t _ => ?_
    exact hd t _ (nd.filter _) fun l hl => ⟨(List.mem_filter.1 hl).1, of_decide_eq_true (List.mem_filter.1 hl).2⟩

theorem max_out {P : Type} (f : P → Nat) (outs : List P) : ∃ d, (∀ o ∈ outs, f o ≤ d) ∧ (d = 0 ∨ ∃ o, o ∈ outs ∧ d = f o) := by
  by_cases h : outs = []
  · exact ⟨0, by simp [h], .inl rfl⟩
  · obtain ⟨o, h1, h2⟩ := exists_max f outs h
    exact ⟨f o, h2, .inr ⟨o, h1, rfl⟩⟩

/-- what leads on: entries at inputs with a way that keeps all -/
theorem Run.Lists.ins_on (A : R.Lists ws eds outs qs fd inp nodes) {L : List (List (Mv P W))} {n : Nat} (nd : L.Nodup) (h : ∀ l ∈ L, R.E l ∧ l.length = n ∧ (∃ o q t, l = .e o q :: t) ∧ has3 N ws (N.endp l) = true) : L.length ≤ 1263007198127 := by
  obtain ⟨d, d1, d2⟩ := max_out (fun o => max 1 (bOf N ws fd 3 o + wOf N ws eds fd o)) outs
  obtain ⟨T, t1, t2, t3⟩ := A.ins_by nd (d := d) (fun l hl => ⟨(h l hl).1, (h l hl).2.2.1⟩) (by
    intro t M nM hM
    cases M with
    | nil => simp
    | cons l0 M0 =>
    obtain ⟨a1, a2⟩ := hM l0 List.mem_cons_self
    obtain ⟨b1, _, ⟨o, q, s, rfl⟩, _⟩ := h l0 a1
    simp only [tailL] at a2
    subst a2
    have ho := A.tail_out b1
    refine Nat.le_trans ?_ (d1 o ho.2.2.1)
    have hl := A.C.optO_len ho.2.2.1
    refine Nat.le_trans ?_ (Nat.le_max_right _ _)
    rw [← hl]
    -- of each the first choice that begins with its edge
    refine inj_le (f := fun l => ((N.optO ws eds fd o).find? (fun c => decide (c.head? = l.head?))).getD []) nM ?_ ?_
    all_goals
      have key : ∀ l ∈ (.e o q :: s) :: M0, ∃ c, (N.optO ws eds fd o).find? (fun c => decide (c.head? = l.head?)) = some c ∧ c ∈ N.optO ws eds fd o ∧ c.head? = l.head? ∧ tailL l = s ∧ l ≠ [] := by
        intro l hl
        obtain ⟨c1, c2⟩ := hM l hl
        obtain ⟨e1, _, ⟨o', q', s', rfl⟩, e3⟩ := h l c1
        simp only [tailL] at c2
        subst c2
        have ho' := A.tail_out e1
        have eo : o' = o := by rw [← ho'.2.1, ho.2.1]
        subst eo
        simp only [Net.endp] at e3
        have ex : ∃ c, c ∈ N.optO ws eds fd o' ∧ c.head? = some (.e o' q') := by
          cases hf : fd q' with
          | none =>
            refine ⟨[.e o' q'], List.mem_append_right _ (List.mem_map.2 ⟨(o', q'), List.mem_filter.2 ⟨ho'.2.2.2.2, ?_⟩, rfl⟩), rfl⟩
            unfold has3 at e3
            simp only [hf, decide_true, Bool.true_and]
            exact e3
          | some o2 =>
            have := A.D.feed e1 hf
            subst this
            unfold has3 at e3
            obtain ⟨x, x1, x2⟩ := List.any_eq_true.1 e3
            simp at x2
            refine ⟨[.e o2 (N.win x), .w x], List.mem_append_left _ (List.mem_map.2 ⟨x, List.mem_filter.2 ⟨x1, ?_⟩, rfl⟩), by rw [x2.2]; rfl⟩
            simp [x2.1, x2.2, hf]
        obtain ⟨c, c1, c2⟩ := ex
        cases hc : (N.optO ws eds fd o').find? (fun c => decide (c.head? = (.e o' q' :: s' : List (Mv P W)).head?)) with
        | none => have := List.find?_eq_none.1 hc c c1; simp [c2] at this
        | some c' =>
          refine ⟨c', rfl, List.mem_of_find?_eq_some hc, ?_, rfl, by simp⟩
          have := List.find?_some hc
          exact of_decide_eq_true this
    · intro l hl
      obtain ⟨c, c1, c2, _⟩ := key l hl
      rw [c1]; exact c2
    · intro l hl m hm e
      obtain ⟨c, c1, c2, c3, c4, c5⟩ := key l hl
      obtain ⟨c', c1', c2', c3', c4', c5'⟩ := key m hm
      rw [c1, c1'] at e
      simp only [Option.getD_some] at e
      rw [← e, c3] at c3'
      cases l with
      | nil => exact absurd rfl c5
      | cons a l =>
        cases m with
        | nil => exact absurd rfl c5'
        | cons b m =>
          simp only [tailL] at c4 c4'
          simp only [List.head?_cons, Option.some.injEq] at c3'
          rw [c3', c4, c4'])
  obtain ⟨s, hs⟩ : ∃ s, s = 32160 := ⟨_, rfl⟩
  refine le_402 (n := L.length) (s := s) ?_ hs
  have hX := A.listX t1 fun t ht => ⟨(t2 t ht).1, (t2 t ht).2.1⟩
  have pT := prod_lg_le _ A.pos_X hX (Nat.le_of_eq (fX_lg _))
  have hY := A.listY nd (n := n) fun l hl => ⟨(h l hl).1, (h l hl).2.1, .inr (by
    have h3 := (h l hl).2.2.2
    unfold has3 at h3
    obtain ⟨x, x1, x2⟩ := List.any_eq_true.1 h3
    simp at x2
    exact ⟨x, x1, x2.1, x2.2⟩)⟩
  have pY := prod_lg_le _ A.pos_Y hY (Nat.le_of_eq A.C.fY_lg)
  rcases d2 with rfl | ⟨o, ho, rfl⟩
  · rw [Nat.mul_zero] at t3
    have : L.length = 0 := by omega
    rw [this]; exact Nat.zero_le _
  · have hm := lg_ge (max 1 (bOf N ws fd 3 o + wOf N ws eds fd o)) (Nat.le_max_left _ _)
    have hL := Nat.pow_le_pow_left t3 200
    rw [Nat.mul_pow] at hL
    have hL2 := Nat.le_trans hL (Nat.mul_le_mul pT hm)
    rw [← Nat.pow_add] at hL2
    have tw := A.C.total_with (x := lg (max 1 (bOf N ws fd 3 o + wOf N ws eds fd o))) (c := 469) (o := o) (.inl ⟨ho, A.C.out_many ho⟩)
    have lxy := lgXY (N := N) (ws := ws) (eds := eds) (outs := outs) (qs := qs) (fd := fd)
    have fin := pow_total hL2 pY (rfl)
    exact Nat.le_trans fin (Nat.pow_le_pow_right (by omega) (by omega))

/-- what leads nowhere: entries at the other inputs, and those of a layer at outputs -/
theorem Run.Lists.ins_off (A : R.Lists ws eds outs qs fd inp nodes) {L M : List (List (Mv P W))} {n m : Nat} (nd : L.Nodup) (h : ∀ l ∈ L, R.E l ∧ l.length = n ∧ (∃ o q t, l = .e o q :: t) ∧ has3 N ws (N.endp l) = false)
    (nM : M.Nodup) (hM : ∀ l ∈ M, R.E l ∧ l.length = m ∧ inp (N.endp l) = false) : L.length + M.length ≤ 2 ^ 41 := by
  obtain ⟨d, d1, d2⟩ := max_out (fun o => (dead N ws eds o).length) outs
  obtain ⟨T, t1, t2, t3⟩ := A.ins_by nd (d := d) (fun l hl => ⟨(h l hl).1, (h l hl).2.2.1⟩) (by
    intro t M nM hM
    cases M with
    | nil => simp
    | cons l0 M0 =>
    obtain ⟨a1, a2⟩ := hM l0 List.mem_cons_self
    obtain ⟨b1, _, ⟨o, q, s, rfl⟩, _⟩ := h l0 a1
    simp only [tailL] at a2
    subst a2
    have ho := A.tail_out b1
    refine Nat.le_trans ?_ (d1 o ho.2.2.1)
    refine inj_le (f := fun l => (o, N.endp l)) nM ?_ ?_
    · intro l hl
      obtain ⟨c1, c2⟩ := hM l hl
      obtain ⟨e1, _, ⟨o', q', s', rfl⟩, e3⟩ := h l c1
      simp only [tailL] at c2
      subst c2
      have ho' := A.tail_out e1
      have eo : o' = o := by rw [← ho'.2.1, ho.2.1]
      subst eo
      simp only [Net.endp] at e3 ⊢
      unfold dead
      exact List.mem_filter.2 ⟨ho'.2.2.2.2, by simp [e3]⟩
    · intro l hl m hm e
      obtain ⟨c1, c2⟩ := hM l hl
      obtain ⟨e1, _, ⟨o', q', s', rfl⟩, e3⟩ := h l c1
      obtain ⟨f1, f2⟩ := hM m hm
      obtain ⟨g1, _, ⟨o2, q2, s2, rfl⟩, g3⟩ := h m f1
      simp only [tailL] at c2 f2
      subst c2; subst f2
      have ho' := A.tail_out e1
      have ho2 := A.tail_out g1
      simp only [Net.endp, Prod.mk.injEq, true_and] at e
      subst e
      rw [← ho'.2.1, ← ho2.2.1])
  have bound : ∀ x : Nat, (x ^ 200) ^ 4 ≤ 2 ^ totalG N ws eds outs qs fd → (1 + d) * x ≤ 2 ^ 41 := by
    intro x hx
    obtain ⟨s, hs⟩ : ∃ s, s = 32800 := ⟨_, rfl⟩
    refine le_41 (s := s) ?_ hs
    rcases d2 with rfl | ⟨o, ho, rfl⟩
    · have tw := A.C.total_with (x := 0) (c := 0) (o := N.start) (.inr (Nat.le_refl _))
      exact pow_le (k := 1 + 0) (a := 0) (by simp) hx (by omega)
    · have dl := dead_le (N := N) (ws := ws) (eds := eds) fd o
      have hm := lg_ge (1 + d1Of eds fd o + mOf N ws eds fd o) (by omega)
      have tw := A.C.total_with (x := 4 * lg (1 + d1Of eds fd o + mOf N ws eds fd o)) (c := 1109) (o := o) (.inl ⟨ho, A.C.out_dead ho⟩)
      exact pow_le (Nat.le_trans (Nat.pow_le_pow_left (by omega) 200) hm) hx (by omega)
  have bT := bound T.length (A.outs_le t1 (n := n - 1) fun t ht => ⟨(t2 t ht).1, by
    obtain ⟨m, hm⟩ := (t2 t ht).2.2
    have := (h _ hm).2.1
    simp at this; omega, (t2 t ht).2.1⟩)
  have bM := bound M.length (A.outs_le nM (n := m) hM)
  rw [Nat.add_mul, Nat.one_mul] at bT bM
  have e := Nat.mul_comm T.length d
  rcases Nat.le_total T.length M.length with hc | hc
  · have := Nat.mul_le_mul_left d hc; omega
  · omega

/-- two layers, at most -/
theorem Run.Lists.waits (A : R.Lists ws eds outs qs fd inp nodes) {L M : List (List (Mv P W))} {n m : Nat} (nd : L.Nodup) (h : ∀ l ∈ L, R.E l ∧ l.length = n ∧ inp (N.endp l) = true)
    (nM : M.Nodup) (hM : ∀ l ∈ M, R.E l ∧ l.length = m ∧ inp (N.endp l) = false) : L.length + M.length ≤ 3462030453680 := by
  by_cases hn : ([] : List (Mv P W)) ∈ L
  · have n0 := (h _ hn).2.1
    simp at n0
    have hL : L.length ≤ [([] : List (Mv P W))].length := nodup_le nd fun l hl => by
      have := (h l hl).2.1
      rw [← n0] at this
      have := List.length_eq_zero_iff.1 this
      subst this; simp
    have := A.ins_off (L := []) (n := 0) List.nodup_nil (by simp) nM hM
    simp at this hL
    omega
  · have f : ∀ l ∈ L, ∃ o q t, l = .e o q :: t := fun l hl => (A.in_form (h l hl).1 (h l hl).2.2).resolve_left fun e => hn (e ▸ hl)
    have c1 := A.ins_on (L := L.filter (fun l => has3 N ws (N.endp l))) (n := n) (nd.filter _) fun l hl => by
      have hl := List.mem_filter.1 hl
      exact ⟨(h l hl.1).1, (h l hl.1).2.1, f l hl.1, hl.2⟩
    have c2 := A.ins_off (L := L.filter (fun l => ! has3 N ws (N.endp l))) (n := n) (nd.filter _) (fun l hl => by
      have hl := List.mem_filter.1 hl
      exact ⟨(h l hl.1).1, (h l hl.1).2.1, f l hl.1, by simpa using hl.2⟩) nM hM
    have sp := List.length_eq_countP_add_countP (l := L) (fun l => has3 N ws (N.endp l))
    rw [List.countP_eq_length_filter, List.countP_eq_length_filter] at sp
    have e : (L.filter (fun a => decide (¬ has3 N ws (N.endp a) = true))).length = (L.filter (fun l => ! has3 N ws (N.endp l))).length := by
      congr 1; refine List.filter_congr fun l _ => ?_; cases has3 N ws (N.endp l) <;> simp
    omega

def endX (N : Net P W) (ws : List W) (outs qs : List P) (fd : P → Option P) : Nat := prodL ((N.fX ws (keyOf N fd) (outs ++ qs)).map fun f => f.2.length)
/-- there is an end -/
theorem Run.Lists.finite (A : R.Lists ws eds outs qs fd inp nodes) (L : List (List (Mv P W))) (nd : L.Nodup) (h : ∀ l ∈ L, R.E l) : L.length ≤ endX N ws outs qs fd + (1 + endX N ws outs qs fd * eds.length) := by
  obtain ⟨X, hX⟩ : ∃ X, X = endX N ws outs qs fd := ⟨_, rfl⟩
  rw [← hX]
  unfold endX at hX
  have sp := List.length_eq_countP_add_countP (l := L) (fun l => inp (N.endp l))
  rw [List.countP_eq_length_filter, List.countP_eq_length_filter] at sp
  have c1 := A.listX (L := L.filter (fun a => decide (¬ inp (N.endp a) = true))) (nd.filter _) fun l hl => by
    have hl := List.mem_filter.1 hl
    exact ⟨h l hl.1, by simpa using hl.2⟩
  rw [← hX] at c1
  have nf : (L.filter (fun l => inp (N.endp l))).Nodup := nd.filter _
  have hf : ∀ l ∈ L.filter (fun l => inp (N.endp l)), R.E l ∧ inp (N.endp l) = true := fun l hl => ⟨h l (List.mem_filter.1 hl).1, (List.mem_filter.1 hl).2⟩
  revert sp nf hf
  generalize L.filter (fun l => inp (N.endp l)) = I
  intro sp nf hf
  have sq := List.length_eq_countP_add_countP (l := I) (fun l => decide (l = []))
  rw [List.countP_eq_length_filter, List.countP_eq_length_filter] at sq
  have c2 : (I.filter (fun l => decide (l = []))).length ≤ [([] : List (Mv P W))].length := nodup_le (nf.filter _) fun l hl => by
    have := of_decide_eq_true (List.mem_filter.1 hl).2
    simp [this]
  obtain ⟨T, t1, t2, t3⟩ := A.ins_by (L := I.filter (fun a => decide (¬ decide (a = []) = true))) (d := eds.length) (nf.filter _) (fun l hl => by
    have hl := List.mem_filter.1 hl
    refine ⟨(hf l hl.1).1, (A.in_form (hf l hl.1).1 (hf l hl.1).2).resolve_left fun e => ?_⟩
    have h2 := hl.2; simp at h2; exact h2 e) (by
    intro t M nM hM
    refine inj_le (f := fun l => (N.endp t, N.endp l)) nM ?_ ?_
    · intro l hl
      obtain ⟨c1, c2⟩ := hM l hl
      have c3 := List.mem_filter.1 c1
      obtain ⟨o, q, s, rfl⟩ := (A.in_form (hf l c3.1).1 (hf l c3.1).2).resolve_left fun e => by have h2 := c3.2; simp at h2; exact h2 e
      simp only [tailL] at c2
      subst c2
      have := A.tail_out (hf _ c3.1).1
      rw [this.2.1]; exact this.2.2.2.2
    · intro l hl m hm e
      obtain ⟨c1, c2⟩ := hM l hl
      have c3 := List.mem_filter.1 c1
      obtain ⟨o, q, s, rfl⟩ := (A.in_form (hf l c3.1).1 (hf l c3.1).2).resolve_left fun e => by have h2 := c3.2; simp at h2; exact h2 e
      obtain ⟨d1, d2⟩ := hM m hm
      have d3 := List.mem_filter.1 d1
      obtain ⟨o2, q2, s2, rfl⟩ := (A.in_form (hf m d3.1).1 (hf m d3.1).2).resolve_left fun e => by have h2 := d3.2; simp at h2; exact h2 e
      simp only [tailL] at c2 d2
      subst c2; subst d2
      have a1 := A.tail_out (hf _ c3.1).1
      have a2 := A.tail_out (hf _ d3.1).1
      simp only [Net.endp, Prod.mk.injEq, true_and] at e
      subst e
      rw [← a1.2.1, ← a2.2.1])
  have c3 := A.listX t1 fun t ht => ⟨(t2 t ht).1, (t2 t ht).2.1⟩
  rw [← hX] at c3
  have := Nat.mul_le_mul_right eds.length c3
  simp only [List.length_cons, List.length_nil] at c2
  omega
end
end Go.Proofs.Yteklohamkmiphaa
namespace Go.Proofs.Yteklohamkmiphaa
open Go.RowKit

/-- the worlds that have grown out of w -/
structure Xt (w : World) where
  W : World
  x : Ext w W

instance Xt.any (w : World) : Nonempty (Xt w) := ⟨⟨w, Ext.refl w⟩⟩

/-- a region that draws its order and only reads; callees may make new memory: walked in the order of the text, in whatever world has grown out of the first -/
theorem wp_region_ext {P : Program} {id : Nat} {Q : Exit → Act → World → Prop} {a : Act} {w : World} {l : List Oper} (hm : P.follows .mixedOrders = true) (hB : Region.lexB .any l.toArray = true)
    (h : wpQuiet P l.toArray (fun w' => ∃ y : Xt w, w' = y.W) (fun a' => ∀ w', (∃ y : Xt w, w' = y.W) → Q .normal a' w') l a) : (Code.region id l.toArray true).wp P Q a w :=
  wp_region_quiet (C := fun w' => ∃ y : Xt w, w' = y.W) hm hB ⟨⟨_, (Ext.refl w).drew⟩, rfl⟩ (by simpa using h)

/-- a callee's contract in such a region -/
theorem call_ext {P : Program} {f : FuncId} {args : Array Value} {w : World} {y : Xt w} {v : Value} (h : Calls P f args y.W fun e w' => e = .returned v ∧ Ext y.W w') :
    Calls P f args y.W fun e w'' => e = .returned v ∧ ∃ z : Xt w, w'' = z.W :=
  h.mono fun _ w' ⟨he, hx⟩ => ⟨he, ⟨w', y.x.trans hx⟩, rfl⟩
/-! ### a fixed order -/
/-- operations that yield a value and do nothing else -/
def isFlo : Op → Bool
  | .move _ | .assign _ | .pick .. | .build .. | .load .. | .nilCheck _ | .binOp .. | .unOp .. | .convert .. | .slice .. | .fieldAddr .. | .field .. | .indexAddr .. | .index .. | .lookup .. | .extract .. | .makeInterface .. | .makeFunc .. => true
  | .call { callee := .builtin .len, .. } | .call { callee := .builtin .cap, .. } | .call { callee := .builtin .min, .. } | .call { callee := .builtin .max, .. } => true
  | _ => false

theorem value_of_bind {P : Program} {s : Sem Value} {w w' : World} {r : Next} (h : (do let x ← s; pure (Next.value x) : Sem Next).run P w = .ok r w') : ∃ v, r = .value v := by
  simp only [Sem.run_bind] at h
  cases hs : s.run P w with
  | ok v w1 => rw [hs] at h; simp only [Result.andThen_ok, Sem.run_pure, Result.ok.injEq] at h; exact ⟨v, h.1.symm⟩
  | halt x w1 => rw [hs] at h; simp [Result.andThen] at h

theorem flo_value {P : Program} {o : Oper} (ho : isFlo o.op = true) {ρ : Operand → Value} {w w' : World} {r : Next} (h : (execOp ρ o).run P w = .ok r w') : ∃ v, r = .value v := by
  obtain ⟨dst, op, type, pos, after, guard⟩ := o
  cases op with
  | move x => simp only [execOp, Sem.run_pure, Result.ok.injEq] at h; exact ⟨_, h.1.symm⟩
  | assign x => simp only [execOp, Sem.run_pure, Result.ok.injEq] at h; exact ⟨_, h.1.symm⟩
  | pick c x y =>
    simp only [execOp, Sem.run_bind] at h
    cases hs : (asBool (ρ c)).run P w with
    | ok v w1 => rw [hs] at h; simp only [Result.andThen_ok, Sem.run_pure, Result.ok.injEq] at h; exact ⟨_, h.1.symm⟩
    | halt x w1 => rw [hs] at h; simp [Result.andThen] at h
  | nilCheck x =>
    simp only [execOp] at h
    have key : ∀ v : Value, (pure (Next.value v) : Sem Next).run P w = .ok r w' → ∃ v, r = .value v := fun v hh => by
      simp only [Sem.run_pure, Result.ok.injEq] at hh; exact ⟨_, hh.1.symm⟩
    have bad : (runtimePanic RuntimeError.nilDeref : Sem Next).run P w = .ok r w' → ∃ v, r = .value v := fun hh => by
      simp [runtimePanic] at hh
    split at h
    · exact bad h
    · exact bad h
    · exact bad h
    · split at h
      · exact bad h
      · simp only [Sem.run_bind] at h
        cases h1 : (Sem.run P program w) with
        | halt x w1 => rw [h1] at h; simp [Result.andThen] at h
        | ok p w1 =>
          rw [h1] at h
          simp only [Result.andThen_ok] at h
          cases hh : (nilAhead (p.types.size + Made.depth) _ _ _).run P w1 with
          | halt x w2 => rw [hh] at h; simp [Result.andThen] at h
          | ok b w2 =>
            rw [hh] at h
            simp only [Result.andThen_ok] at h
            split at h
            · simp [unsupported, Result.andThen] at h
            · simp only [Sem.run_pure, Result.ok.injEq] at h; exact ⟨_, h.1.symm⟩
      · exact key _ h
    · exact key _ h
  | build t parts => exact value_of_bind h
  | load t x => exact value_of_bind h
  | binOp op t x y u => exact value_of_bind h
  | unOp op t x => exact value_of_bind h
  | convert s d x => exact value_of_bind h
  | slice t x lo hi mx => exact value_of_bind h
  | fieldAddr s x f => exact value_of_bind h
  | field t x f => exact value_of_bind h
  | indexAddr t x i => exact value_of_bind h
  | index t x i => exact value_of_bind h
  | lookup t x i ok => exact value_of_bind h
  | extract t i => exact value_of_bind h
  | makeInterface t x => exact value_of_bind h
  | makeFunc f a b => exact value_of_bind h
  | call c =>
    obtain ⟨callee, args, ats⟩ := c
    cases callee with
    | builtin b =>
      have e : execOp ρ { dst, op := .call { callee := .builtin b, args, argTypes := ats }, type, pos, after, guard } = builtin b ats type (args.map fun | .const _ => true | _ => false) (args.map ρ) := rfl
      rw [e] at h
      cases b <;> first | exact value_of_bind h | (simp [isFlo] at ho)
    | value f => simp [isFlo] at ho
    | invoke r m => simp [isFlo] at ho
  | _ => simp [isFlo] at ho

section
variable {P : Program} {ops : Array Oper} {Q : Exit → Act → World → Prop} {bs : Array Nat}

/-- operation i comes ahead of operation j in every order -/
def ancB (ops : Array Oper) (bs : Array Nat) (i j : Nat) : Bool := decide (i < ops.size) && (bs.getD j 0).testBit i
def ancOkB (ops : Array Oper) (bs : Array Nat) : Bool :=
  (List.range ops.size).all fun j => (List.range ops.size).all fun i => !ancB ops bs i j ||
    match ops[j]? with
    | some o => o.after.toList.any fun e => Region.binds .any e && (e.on == i || ancB ops bs i e.on)
    | none => false
theorem ancOk_spec (h : ancOkB ops bs = true) {i j : Nat} (hij : ancB ops bs i j = true) {o : Oper} (ho : ops[j]? = some o) :
    ∃ e ∈ o.after, Region.binds .any e = true ∧ (e.on = i ∨ ancB ops bs i e.on = true) := by
  have hj : j < ops.size := (Array.getElem?_eq_some_iff.1 ho).1
  have hi : i < ops.size := by
    unfold ancB at hij
    simp only [Bool.and_eq_true, decide_eq_true_eq] at hij
    exact hij.1
  unfold ancOkB at h
  have h1 := List.all_eq_true.1 (List.all_eq_true.1 h j (List.mem_range.2 hj)) i (List.mem_range.2 hi)
  rw [hij, ho] at h1
  simp only [Bool.not_true, Bool.false_or, List.any_eq_true, Bool.and_eq_true, Bool.or_eq_true, beq_iff_eq] at h1
  obtain ⟨e, he, hb, hh⟩ := h1
  exact ⟨e, Array.mem_toList_iff.1 he, hb, hh⟩

def Closed (ops : Array Oper) (bs : Array Nat) (listed : Array Bool) : Prop := ∀ j, listed.getD j false = true → ∀ i, ancB ops bs i j = true → listed.getD i false = true

theorem ready_anc (hok : ancOkB ops bs = true) {listed : Array Bool} (hc : Closed ops bs listed) {j i : Nat} (hj : j ∈ Region.ready .any ops listed) (hij : ancB ops bs i j = true) : listed.getD i false = true := by
  obtain ⟨_, o, ho, hall⟩ := mem_ready.1 hj
  obtain ⟨e, he, hb, hh⟩ := ancOk_spec hok hij ho
  have h1 := hall e he hb
  rcases hh with rfl | hh
  · exact h1
  · exact hc _ h1 _ hh

theorem Closed.add (hok : ancOkB ops bs = true) {listed : Array Bool} (hc : Closed ops bs listed) {j : Nat} (hj : j ∈ Region.ready .any ops listed) : Closed ops bs (listed.setIfInBounds j true) := by
  intro k hk i hik
  by_cases hjk : j = k
  · subst hjk
    exact getD_set_true (ready_anc hok hc hj hik)
  · rw [getD_set_ne false hjk] at hk
    exact getD_set_true (hc k hk i hik)

/-- whatever order is picked from here on, and operations of the set X at most make new memory -/
def wpX (P : Program) (ops : Array Oper) (Q : Exit → Act → World → Prop) (X : Nat → Bool) : Nat → Array Bool → Act → World → Prop
  | 0, listed, a, w => Region.ready .any ops listed = [] ∧ Q .normal a w
  | fuel + 1, listed, a, w =>
    (Region.ready .any ops listed = [] → Q .normal a w) ∧
    ∀ i ∈ Region.ready .any ops listed, wpOp P ops Q i (fun a' w' => (X i = true → Ext w w') ∧ wpX P ops Q X fuel (listed.setIfInBounds i true) a' w') a w

theorem wpAny_of_X {X : Nat → Bool} : ∀ (fuel : Nat) (listed : Array Bool) (a : Act) (w : World), wpX P ops Q X fuel listed a w → wpAny P .any ops Q fuel listed a w
  | 0, _, _, _, h => h
  | fuel + 1, _, _, _, h => ⟨h.1, fun i hi => wpOp_mono (fun a' w' h' => wpAny_of_X fuel _ a' w' h'.2) (h.2 i hi)⟩

theorem wpX_done {X : Nat → Bool} {listed : Array Bool} {a : Act} {w : World} (hr : Region.ready .any ops listed = []) (h : Q .normal a w) : ∀ fuel, wpX P ops Q X fuel listed a w
  | 0 => ⟨hr, h⟩
  | _ + 1 => ⟨fun _ => h, by rw [hr]; simp⟩

theorem yields_later {o : Oper} {v : Value} {a : Act} {w w' : World} (h : YieldsIf P ops (Ext w) o v a) (x : Ext w w') : YieldsIf P ops (Ext w') o v a :=
  h.imp (fun ⟨h1, h2⟩ => ⟨h1, fun u hu => h2 u (x.trans hu)⟩) id

theorem wpX_first {X : Nat → Bool} (hok : ancOkB ops bs = true) {i : Nat} {oi : Oper} {v : Value} (hi : ops[i]? = some oi) (hsel : ∀ (j : Nat) (o : Oper) cs b, ops[j]? = some o → o.op ≠ .select cs b)
    (hQ : ∀ c a d v w, Q (.panic c) (a.put d v) w → Q (.panic c) a w) :
    ∀ (fuel : Nat) (listed : Array Bool) (a : Act) (w : World), Closed ops bs listed →
      (∀ j oj, ops[j]? = some oj → j ≠ i → listed.getD j true = false → ancB ops bs i j = false → oi.apart ops oj = true ∧ X j = true) →
      i ∈ Region.ready .any ops listed → YieldsIf P ops (Ext w) oi v a →
      wpX P ops Q X fuel (listed.setIfInBounds i true) (a.put oi.dst v) w → wpX P ops Q X (fuel + 1) listed a w := by
  intro fuel
  induction fuel with
  | zero =>
    intro listed a w hcl _ hr hy H
    refine ⟨fun h => (by rw [h] at hr; cases hr), fun j hj => ?_⟩
    by_cases hji : j = i
    · subst hji; exact hy.wpOp hi (Ext.refl w) ⟨fun _ => Ext.refl w, H⟩
    · have := ready_mono hj hji
      rw [H.1] at this
      cases this
  | succ fuel ih =>
    intro listed a w hcl hfree hr hy H
    refine ⟨fun h => (by rw [h] at hr; cases hr), fun j hj => ?_⟩
    by_cases hji : j = i
    · subst hji; exact hy.wpOp hi (Ext.refl w) ⟨fun _ => Ext.refl w, H⟩
    · have h1 := H.2 j (ready_mono hj hji)
      obtain ⟨hjun, oj, hoj, hall⟩ := mem_ready.1 hj
      have hiun := (mem_ready.1 hr).1
      have hnot : ancB ops bs i j = false := by
        cases hb : ancB ops bs i j with
        | false => rfl
        | true =>
          have h2 := ready_anc hok hcl hj hb
          rcases Nat.lt_or_ge i listed.size with h' | h'
          · simp [h'] at h2 hiun; rw [hiun] at h2; cases h2
          · simp [Array.getElem?_eq_none h'] at h2
      obtain ⟨hap, hX⟩ := hfree j oj hoj hji hjun hnot
      have h2 := wpOp_putIf hoj hap (fun cs b => hsel i oi cs b hi) (fun cs b => hsel j oj cs b hoj) (fun c a w => hQ c a _ _ w) hy h1
      have hfree' : ∀ k ok, ops[k]? = some ok → k ≠ i → (listed.setIfInBounds j true).getD k true = false → ancB ops bs i k = false → oi.apart ops ok = true ∧ X k = true := fun k ok hk hki hun hno => by
        refine hfree k ok hk hki ?_ hno
        by_cases hjk : j = k
        · subst hjk; exact hjun
        · rw [getD_set_ne true hjk] at hun; exact hun
      refine wpOp_mono (fun a' w' h3 => ⟨h3.2.1, ih (listed.setIfInBounds j true) a' w' (hcl.add hok hj) hfree' (ready_mono hr (Ne.symm hji)) (yields_later h3.1 (h3.2.1 hX)) ?_⟩) h2
      rw [Array.setIfInBounds_comm _ _ hji]
      exact h3.2.2

theorem wpX_first_pure {X : Nat → Bool} (hok : ancOkB ops bs = true) {i : Nat} {oi : Oper} {v : Value} (hi : ops[i]? = some oi) (hsel : ∀ (j : Nat) (o : Oper) cs b, ops[j]? = some o → o.op ≠ .select cs b)
    (hQ : ∀ c a d v w, Q (.panic c) (a.put d v) w → Q (.panic c) a w) :
    ∀ (fuel : Nat) (listed : Array Bool) (a : Act) (w : World), Closed ops bs listed →
      (∀ j oj, ops[j]? = some oj → j ≠ i → listed.getD j true = false → ancB ops bs i j = false → oi.apart ops oj = true) →
      i ∈ Region.ready .any ops listed → YieldsIf P ops (fun _ => True) oi v a →
      wpX P ops Q X fuel (listed.setIfInBounds i true) (a.put oi.dst v) w → wpX P ops Q X (fuel + 1) listed a w := by
  intro fuel
  induction fuel with
  | zero =>
    intro listed a w hcl _ hr hy H
    refine ⟨fun h => (by rw [h] at hr; cases hr), fun j hj => ?_⟩
    by_cases hji : j = i
    · subst hji; exact hy.wpOp hi trivial ⟨fun _ => Ext.refl w, H⟩
    · have := ready_mono hj hji
      rw [H.1] at this
      cases this
  | succ fuel ih =>
    intro listed a w hcl hfree hr hy H
    refine ⟨fun h => (by rw [h] at hr; cases hr), fun j hj => ?_⟩
    by_cases hji : j = i
    · subst hji; exact hy.wpOp hi trivial ⟨fun _ => Ext.refl w, H⟩
    · have h1 := H.2 j (ready_mono hj hji)
      obtain ⟨hjun, oj, hoj, hall⟩ := mem_ready.1 hj
      have hiun := (mem_ready.1 hr).1
      have hnot : ancB ops bs i j = false := by
        cases hb : ancB ops bs i j with
        | false => rfl
        | true =>
          have h2 := ready_anc hok hcl hj hb
          rcases Nat.lt_or_ge i listed.size with h' | h'
          · simp [h'] at h2 hiun; rw [hiun] at h2; cases h2
          · simp [Array.getElem?_eq_none h'] at h2
      have hap := hfree j oj hoj hji hjun hnot
      have h2 := wpOp_putIf hoj hap (fun cs b => hsel i oi cs b hi) (fun cs b => hsel j oj cs b hoj) (fun c a w => hQ c a _ _ w) hy h1
      have hfree' : ∀ k ok, ops[k]? = some ok → k ≠ i → (listed.setIfInBounds j true).getD k true = false → ancB ops bs i k = false → oi.apart ops ok = true := fun k ok hk hki hun hno => by
        refine hfree k ok hk hki ?_ hno
        by_cases hjk : j = k
        · subst hjk; exact hjun
        · rw [getD_set_ne true hjk] at hun; exact hun
      refine wpOp_mono (fun a' w' h3 => ⟨h3.2.1, ih (listed.setIfInBounds j true) a' w' (hcl.add hok hj) hfree' (ready_mono hr (Ne.symm hji)) h3.1 ?_⟩) h2
      rw [Array.setIfInBounds_comm _ _ hji]
      exact h3.2.2

/-! #### the walk in the fixed order: 'flo': operations that only read; 'ext': one that may make new memory; 'one': one that is alone; 'both': either of two comes up -/
def pickOps (ops : Array Oper) (l : List Nat) : List Oper := l.filterMap (ops[·]?)
inductive Plan where
  | fin
  | flo (l : List Nat) (r : Plan)
  | pur (l : List Nat) (r : Plan)
  | ext (i : Nat) (r : Plan)
  | one (i : Nat) (r : Plan)
  | both (i j : Nat) (r q : Plan)
/-- b: the world of which the facts at hand speak; what is at hand has grown out of it -/
def ordWalk (P : Program) (ops : Array Oper) (Q : Exit → Act → World → Prop) : Plan → World → Act → World → Prop
  | .fin, _, a, w => Q .normal a w
  | .flo l r, b, a, w => wpQuiet P ops (fun w' => ∃ y : Xt b, w' = y.W) (fun a' => ordWalk P ops Q r b a' w) (pickOps ops l) a
  | .pur l r, b, a, w => wpQuiet P ops (fun _ => True) (fun a' => ordWalk P ops Q r b a' w) (pickOps ops l) a
  | .ext i r, b, a, w => wpList P ops (Exit.then (fun a' w' => Ext w w' ∧ ordWalk P ops Q r b a' w') Q) (pickOps ops [i]) a w
  | .one i r, _, a, w => wpList P ops (Exit.then (fun a' w' => ordWalk P ops Q r w' a' w') Q) (pickOps ops [i]) a w
  | .both i j r q, b, a, w => wpList P ops (Exit.then (fun a' w' => Ext w w' ∧ ordWalk P ops Q r b a' w') Q) (pickOps ops [i]) a w ∧ wpList P ops (Exit.then (fun a' w' => Ext w w' ∧ ordWalk P ops Q q b a' w') Q) (pickOps ops [j]) a w

def extIdx : Plan → List Nat
  | .fin => []
  | .flo _ r => extIdx r
  | .pur _ r => extIdx r
  | .ext i r => i :: extIdx r
  | .one _ r => extIdx r
  | .both i j r q => i :: j :: (extIdx r ++ extIdx q)
def inX (ops : Array Oper) (es : List Nat) (j : Nat) : Bool := es.contains j || ((ops[j]?).map (isFlo ·.op)).getD false
def floB (ops : Array Oper) (bs : Array Nat) (es : List Nat) (i : Nat) (listed : Array Bool) : Bool :=
  match ops[i]? with
  | some oi => isFlo oi.op && (Region.ready .any ops listed).contains i &&
      (List.range ops.size).all fun j => j == i || listed.getD j true || ancB ops bs i j || (match ops[j]? with | some oj => oi.apart ops oj && inX ops es j | none => true)
  | none => false
def purB (ops : Array Oper) (bs : Array Nat) (i : Nat) (listed : Array Bool) : Bool :=
  match ops[i]? with
  | some oi => isFlo oi.op && (Region.ready .any ops listed).contains i &&
      (List.range ops.size).all fun j => j == i || listed.getD j true || ancB ops bs i j || (match ops[j]? with | some oj => oi.apart ops oj | none => true)
  | none => false
def pursB (ops : Array Oper) (bs : Array Nat) : List Nat → Array Bool → Bool
  | [], _ => true
  | i :: l, listed => purB ops bs i listed && pursB ops bs l (listed.setIfInBounds i true)
def flosB (ops : Array Oper) (bs : Array Nat) (es : List Nat) : List Nat → Array Bool → Bool
  | [], _ => true
  | i :: l, listed => floB ops bs es i listed && flosB ops bs es l (listed.setIfInBounds i true)
def listAll : List Nat → Array Bool → Array Bool
  | [], listed => listed
  | i :: l, listed => listAll l (listed.setIfInBounds i true)
def ordB (ops : Array Oper) (bs : Array Nat) (es : List Nat) : Plan → Array Bool → Bool
  | .fin, listed => (Region.ready .any ops listed).isEmpty
  | .flo l r, listed => flosB ops bs es l listed && ordB ops bs es r (listAll l listed)
  | .pur l r, listed => pursB ops bs l listed && ordB ops bs es r (listAll l listed)
  | .ext i r, listed => ((Region.ready .any ops listed) == [i]) && ordB ops bs es r (listed.setIfInBounds i true)
  | .one i r, listed => ((Region.ready .any ops listed) == [i]) && !inX ops es i && ordB ops bs es r (listed.setIfInBounds i true)
  | .both i j r q, listed => ((Region.ready .any ops listed) == [i, j]) && ordB ops bs es r (listed.setIfInBounds i true) && ordB ops bs es q (listed.setIfInBounds j true)
def total : Plan → Nat
  | .fin => 0
  | .flo l r => l.length + total r
  | .pur l r => l.length + total r
  | .ext _ r => 1 + total r
  | .one _ r => 1 + total r
  | .both _ _ r q => 1 + max (total r) (total q)

theorem quiet_yields {o : Oper} {a : Act} {w : World} {K : Act → Prop} (ho : isFlo o.op = true) (h : o.quiet P a (fun w' => ∃ y : Xt w, w' = y.W) K) :
    ∃ v, (∀ u, Ext w u → (execOp a.eval o).run P u = .ok (.value v) u) ∧ K (a.put o.dst v) := by
  obtain ⟨v, h1, h2⟩ := h
  refine ⟨v, fun u hu => ?_, h2⟩
  have h3 := h1 u ⟨⟨u, hu⟩, rfl⟩
  unfold Oper.quietAt at h3
  cases hr : (execOp a.eval o).run P u with
  | ok n u' =>
    rw [hr] at h3
    obtain ⟨x, rfl⟩ := flo_value ho hr
    obtain ⟨e1, e2⟩ := h3
    rw [e1, e2]
  | halt x u' => rw [hr] at h3; exact h3.elim

theorem quiet_yields_pure {o : Oper} {a : Act} {K : Act → Prop} (ho : isFlo o.op = true) (h : o.quiet P a (fun _ => True) K) :
    ∃ v, (∀ u, (execOp a.eval o).run P u = .ok (.value v) u) ∧ K (a.put o.dst v) := by
  obtain ⟨v, h1, h2⟩ := h
  refine ⟨v, fun u => ?_, h2⟩
  have h3 := h1 u trivial
  unfold Oper.quietAt at h3
  cases hr : (execOp a.eval o).run P u with
  | ok n u' =>
    rw [hr] at h3
    obtain ⟨x, rfl⟩ := flo_value ho hr
    obtain ⟨e1, e2⟩ := h3
    rw [e1, e2]
  | halt x u' => rw [hr] at h3; exact h3.elim

theorem one_step {K : Act → World → Prop} {i : Nat} {o : Oper} {a : Act} {w : World} (hi : ops[i]? = some o) (h : wpList P ops (Exit.then K Q) (pickOps ops [i]) a w) : wpOp P ops Q i K a w := by
  have e : pickOps ops [i] = [o] := by simp [pickOps, hi]
  rw [e] at h
  unfold wpList at h
  unfold wpOp
  simp only [hi]
  split at h
  · rename_i hw
    rw [if_pos hw]
    refine h.imp (fun hh => ?_) (fun ⟨h1, a0, w0, h2⟩ => ⟨h1, a0, w0, h2⟩)
    unfold Oper.wp at hh ⊢
    generalize (execOp a.eval o).run P w = r at *
    cases r with
    | ok n w' =>
      cases n <;> simp only [Oper.upon] at hh ⊢ <;>
        first
          | exact hh
          | exact Calls.mono hh (fun e w'' he => by cases e <;> exact he)
    | halt x w' => cases x <;> simp only [Oper.upon] at hh ⊢ <;> exact hh
  · rename_i hw
    rw [if_neg hw]
    exact h

theorem X_of_ord (hok : ancOkB ops bs = true) (hsel : Region.noSelect ops = true) (hQ : ∀ c a d v w, Q (.panic c) (a.put d v) w → Q (.panic c) a w) (es : List Nat) :
    ∀ (p : Plan) (b : World) (listed : Array Bool) (a : Act) (w : World) (fuel : Nat), Ext b w → total p ≤ fuel → Closed ops bs listed → ordB ops bs es p listed = true → ordWalk P ops Q p b a w →
      wpX P ops Q (inX ops es) fuel listed a w := by
  intro p
  induction p with
  | fin =>
    intro b listed a w fuel _ _ _ hB h
    exact wpX_done (by simpa [ordB] using hB) h fuel
  | flo l r ih =>
    induction l with
    | nil =>
      intro b listed a w fuel hx hf hc hB h
      refine ih b listed a w fuel hx (by simpa [total] using hf) hc (by simpa [ordB, flosB, listAll] using hB) ?_
      simpa [ordWalk, pickOps, wpQuiet] using h
    | cons i l ihl =>
      intro b listed a w fuel hx hf hc hB h
      simp only [ordB, flosB, listAll, Bool.and_eq_true] at hB
      obtain ⟨⟨hi, hl⟩, hr⟩ := hB
      cases ho : ops[i]? with
      | none => simp [floB, ho] at hi
      | some oi =>
        simp only [floB, ho, Bool.and_eq_true] at hi
        obtain ⟨⟨hflo, hrd⟩, hfr⟩ := hi
        have hrd' : i ∈ Region.ready .any ops listed := by simpa using hrd
        obtain ⟨fuel, rfl⟩ : ∃ f, fuel = f + 1 := ⟨fuel - 1, by simp [total] at hf; omega⟩
        have hfree : ∀ j oj, ops[j]? = some oj → j ≠ i → listed.getD j true = false → ancB ops bs i j = false → oi.apart ops oj = true ∧ inX ops es j = true := by
          intro j oj hj hne hun hno
          have := List.all_eq_true.1 hfr j (List.mem_range.2 (Array.getElem?_eq_some_iff.1 hj).1)
          simpa [hne, hun, hno, hj] using this
        have hp : pickOps ops (i :: l) = oi :: pickOps ops l := by simp [pickOps, ho]
        simp only [ordWalk, hp] at h
        unfold wpQuiet at h
        have go : ∀ v, YieldsIf P ops (Ext w) oi v a → wpQuiet P ops (fun w' => ∃ y : Xt b, w' = y.W) (fun a' => ordWalk P ops Q r b a' w) (pickOps ops l) (a.put oi.dst v) → wpX P ops Q (inX ops es) (fuel + 1) listed a w := by
          intro v hy hk
          refine wpX_first hok ho (Region.noSelect_spec hsel) hQ fuel listed a w hc hfree hrd' hy ?_
          refine ihl b (listed.setIfInBounds i true) (a.put oi.dst v) w fuel hx (by simp [total] at hf ⊢; omega) (hc.add hok hrd') ?_ ?_
          · simp only [ordB, Bool.and_eq_true]; exact ⟨hl, hr⟩
          · simpa only [ordWalk] using hk
        split at h
        · rename_i hw
          obtain ⟨v, hv, hk⟩ := quiet_yields hflo h
          exact go v (.inl ⟨hw, fun u hu => hv u (hx.trans hu)⟩) hk
        · rename_i hw
          exact go undef (.inr ⟨by simpa using hw, rfl⟩) h
  | pur l r ih =>
    induction l with
    | nil =>
      intro b listed a w fuel hx hf hc hB h
      refine ih b listed a w fuel hx (by simpa [total] using hf) hc (by simpa [ordB, pursB, listAll] using hB) ?_
      simpa [ordWalk, pickOps, wpQuiet] using h
    | cons i l ihl =>
      intro b listed a w fuel hx hf hc hB h
      simp only [ordB, pursB, listAll, Bool.and_eq_true] at hB
      obtain ⟨⟨hi, hl⟩, hr⟩ := hB
      cases ho : ops[i]? with
      | none => simp [purB, ho] at hi
      | some oi =>
        simp only [purB, ho, Bool.and_eq_true] at hi
        obtain ⟨⟨hflo, hrd⟩, hfr⟩ := hi
        have hrd' : i ∈ Region.ready .any ops listed := by simpa using hrd
        obtain ⟨fuel, rfl⟩ : ∃ f, fuel = f + 1 := ⟨fuel - 1, by simp [total] at hf; omega⟩
        have hfree : ∀ j oj, ops[j]? = some oj → j ≠ i → listed.getD j true = false → ancB ops bs i j = false → oi.apart ops oj = true := by
          intro j oj hj hne hun hno
          have := List.all_eq_true.1 hfr j (List.mem_range.2 (Array.getElem?_eq_some_iff.1 hj).1)
          simpa [hne, hun, hno, hj] using this
        have hp : pickOps ops (i :: l) = oi :: pickOps ops l := by simp [pickOps, ho]
        simp only [ordWalk, hp] at h
        unfold wpQuiet at h
        have go : ∀ v, YieldsIf P ops (fun _ => True) oi v a → wpQuiet P ops (fun _ => True) (fun a' => ordWalk P ops Q r b a' w) (pickOps ops l) (a.put oi.dst v) → wpX P ops Q (inX ops es) (fuel + 1) listed a w := by
          intro v hy hk
          refine wpX_first_pure hok ho (Region.noSelect_spec hsel) hQ fuel listed a w hc hfree hrd' hy ?_
          refine ihl b (listed.setIfInBounds i true) (a.put oi.dst v) w fuel hx (by simp [total] at hf ⊢; omega) (hc.add hok hrd') ?_ ?_
          · simp only [ordB, Bool.and_eq_true]; exact ⟨hl, hr⟩
          · simpa only [ordWalk] using hk
        split at h
        · rename_i hw
          obtain ⟨v, hv, hk⟩ := quiet_yields_pure hflo h
          exact go v (.inl ⟨hw, fun u _ => hv u⟩) hk
        · rename_i hw
          exact go undef (.inr ⟨by simpa using hw, rfl⟩) h
  | ext i r ih =>
    intro b listed a w fuel hx hf hc hB h
    simp only [ordB, Bool.and_eq_true] at hB
    obtain ⟨hr, hr2⟩ := hB
    have hr' : Region.ready .any ops listed = [i] := by simpa using hr
    have hmem : i ∈ Region.ready .any ops listed := by rw [hr']; simp
    obtain ⟨_, o, ho, _⟩ := mem_ready.1 hmem
    obtain ⟨fuel, rfl⟩ : ∃ f, fuel = f + 1 := ⟨fuel - 1, by simp [total] at hf; omega⟩
    refine ⟨fun h0 => (by rw [hr'] at h0; cases h0), fun j hj => ?_⟩
    rw [hr'] at hj
    obtain rfl : j = i := by simpa using hj
    exact wpOp_mono (fun a' w' hh => ⟨fun _ => hh.1, ih b _ a' w' fuel (hx.trans hh.1) (by simp [total] at hf ⊢; omega) (hc.add hok hmem) hr2 hh.2⟩) (one_step ho h)
  | one i r ih =>
    intro b listed a w fuel hx hf hc hB h
    simp only [ordB, Bool.and_eq_true] at hB
    obtain ⟨⟨hr, hk⟩, hr2⟩ := hB
    have hr' : Region.ready .any ops listed = [i] := by simpa using hr
    have hmem : i ∈ Region.ready .any ops listed := by rw [hr']; simp
    obtain ⟨_, o, ho, _⟩ := mem_ready.1 hmem
    obtain ⟨fuel, rfl⟩ : ∃ f, fuel = f + 1 := ⟨fuel - 1, by simp [total] at hf; omega⟩
    refine ⟨fun h0 => (by rw [hr'] at h0; cases h0), fun j hj => ?_⟩
    rw [hr'] at hj
    obtain rfl : j = i := by simpa using hj
    have hnx : inX ops es j = false := by simpa using hk
    exact wpOp_mono (fun a' w' hh => ⟨fun hX => (by rw [hnx] at hX; cases hX), ih w' _ a' w' fuel (Ext.refl w') (by simp [total] at hf ⊢; omega) (hc.add hok hmem) hr2 hh⟩) (one_step ho h)
  | both i j r q ihr ihq =>
    intro b listed a w fuel hx hf hc hB h
    simp only [ordB, Bool.and_eq_true] at hB
    obtain ⟨⟨hr, hr2⟩, hq2⟩ := hB
    have hr' : Region.ready .any ops listed = [i, j] := by simpa using hr
    obtain ⟨fuel, rfl⟩ : ∃ f, fuel = f + 1 := ⟨fuel - 1, by simp [total] at hf; omega⟩
    have mi : i ∈ Region.ready .any ops listed := by rw [hr']; simp
    have mj : j ∈ Region.ready .any ops listed := by rw [hr']; simp
    refine ⟨fun h0 => (by rw [hr'] at h0; cases h0), fun k hk => ?_⟩
    rw [hr'] at hk
    rcases List.mem_cons.1 hk with rfl | hk
    · obtain ⟨_, o, ho, _⟩ := mem_ready.1 mi
      exact wpOp_mono (fun a' w' hh => ⟨fun _ => hh.1, ihr b _ a' w' fuel (hx.trans hh.1) (by simp [total] at hf ⊢; omega) (hc.add hok mi) hr2 hh.2⟩) (one_step ho h.1)
    · obtain rfl : k = j := by simpa using hk
      obtain ⟨_, o, ho, _⟩ := mem_ready.1 mj
      exact wpOp_mono (fun a' w' hh => ⟨fun _ => hh.1, ihq b _ a' w' fuel (hx.trans hh.1) (by simp [total] at hf ⊢; omega) (hc.add hok mj) hq2 hh.2⟩) (one_step ho h.2)

/-- A REGION THAT DRAWS ITS ORDER, WALKED IN ONE ORDER. 'bs': of each operation those that come ahead of it in every order, as bits. -/
theorem wp_region_ord {id : Nat} {a : Act} {w : World} {l : List Oper} (bs : List Nat) (p : Plan) (hm : P.follows .mixedOrders = true)
    (hB : (ancOkB l.toArray bs.toArray && Region.noSelect l.toArray && ordB l.toArray bs.toArray (extIdx p) p (Array.replicate l.toArray.size false) && decide (total p ≤ l.toArray.size)) = true)
    (hQ : ∀ c a d v w, Q (.panic c) (a.put d v) w → Q (.panic c) a w)
    (h : ordWalk P l.toArray Q p w.drew a w.drew) : (Code.region id l.toArray true).wp P Q a w := by
  simp only [Bool.and_eq_true, decide_eq_true_eq] at hB
  obtain ⟨⟨⟨h1, h2⟩, h3⟩, h4⟩ := hB
  refine wp_region_any hm (wpAny_of_X _ _ _ _ (X_of_ord h1 h2 hQ _ p w.drew _ a w.drew _ (Ext.refl _) h4 ?_ h3 h))
  intro j hj
  exfalso
  rcases Nat.lt_or_ge j l.toArray.size with h' | h'
  · simp [Array.getD] at hj
  · simp [Array.getD] at hj

theorem pick_nil : pickOps ops [] = [] := rfl
/-- the operation of number i, found by going down the list -/
def nth : List Oper → Nat → Option Oper
  | [], _ => none
  | o :: _, 0 => some o
  | _ :: l, i + 1 => nth l i
theorem nth_eq : ∀ (l : List Oper) (i : Nat), nth l i = l[i]?
  | [], _ => by simp [nth]
  | _ :: _, 0 => rfl
  | _ :: l, i + 1 => by simp [nth, nth_eq l i]
theorem pick_cons {i : Nat} {o : Oper} {ol : List Oper} {l : List Nat} {r : List Oper} (h : nth ol i = some o) (k : pickOps ol.toArray l = r) : pickOps ol.toArray (i :: l) = o :: r := by
  subst k; rw [nth_eq] at h; simp [pickOps, h]
/-- the steps of such a walk -/
def ordNext (P : Program) (ops : Array Oper) (Q : Exit → Act → World → Prop) (r : Plan) (b w : World) (a' : Act) (w' : World) : Prop := Ext w w' ∧ ordWalk P ops Q r b a' w'
theorem ordNext.mk {r : Plan} {b w w' : World} {a : Act} (x : Ext w w') (h : ordWalk P ops Q r b a w') : ordNext P ops Q r b w a w' := ⟨x, h⟩
theorem ord_flo {l : List Nat} {r : Plan} {a : Act} {b w : World} {ol : List Oper} (hp : pickOps ops l = ol)
    (h : wpQuiet P ops (fun w' => ∃ y : Xt b, w' = y.W) (fun a' => ordWalk P ops Q r b a' w) ol a) : ordWalk P ops Q (.flo l r) b a w := by
  subst hp; exact h
theorem ord_pur {l : List Nat} {r : Plan} {a : Act} {b w : World} {ol : List Oper} (hp : pickOps ops l = ol)
    (h : wpQuiet P ops (fun _ => True) (fun a' => ordWalk P ops Q r b a' w) ol a) : ordWalk P ops Q (.pur l r) b a w := by
  subst hp; exact h
theorem ord_ext {i : Nat} {r : Plan} {a : Act} {b w : World} {o : Oper} (hp : pickOps ops [i] = [o])
    (h : ∀ K : Act → World → Prop, (∀ a' w', ordNext P ops Q r b w a' w' → K a' w') → wpList P ops (Exit.then K Q) [o] a w) : ordWalk P ops Q (.ext i r) b a w := by
  show wpList P ops _ (pickOps ops [i]) a w
  rw [hp]; exact h _ fun _ _ h => h
theorem ord_one {i : Nat} {r : Plan} {a : Act} {b w : World} {o : Oper} (hp : pickOps ops [i] = [o])
    (h : ∀ K : Act → World → Prop, (∀ a' w', ordWalk P ops Q r w' a' w' → K a' w') → wpList P ops (Exit.then K Q) [o] a w) : ordWalk P ops Q (.one i r) b a w := by
  show wpList P ops _ (pickOps ops [i]) a w
  rw [hp]; exact h _ fun _ _ h => h
theorem ord_both {i j : Nat} {r q : Plan} {a : Act} {b w : World} {o u : Oper} (hp : pickOps ops [i] = [o]) (hq : pickOps ops [j] = [u])
    (h : ∀ K : Act → World → Prop, (∀ a' w', ordNext P ops Q r b w a' w' → K a' w') → wpList P ops (Exit.then K Q) [o] a w)
    (k : ∀ K : Act → World → Prop, (∀ a' w', ordNext P ops Q q b w a' w' → K a' w') → wpList P ops (Exit.then K Q) [u] a w) : ordWalk P ops Q (.both i j r q) b a w := by
  refine ⟨?_, ?_⟩
  · rw [hp]; exact h _ fun _ _ h => h
  · rw [hq]; exact k _ fun _ _ h => h
theorem ord_fin {a : Act} {b w : World} (h : Q .normal a w) : ordWalk P ops Q .fin b a w := h
end

end Go.Proofs.Yteklohamkmiphaa
namespace Go.Proofs.Yteklohamkmiphaa
open Go.RowKit

theorem elemWords : Elem Try.prog 30 45 1 4 (.int .u32 0) := ⟨by kernel_rfl, by kernel_rfl, rfl, by omega⟩
end Go.Proofs.Yteklohamkmiphaa
namespace Go.Proofs.Yteklohamkmiphaa
open Go.RowKit

set_option maxRecDepth 100000 in
set_option maxHeartbeats 400000 in
theorem clone_words (A : Option Addr) (n c : Nat) (xs : List Value) (w : World) (h : Sl w 1 A n c xs) (h1 : ∀ u ∈ xs, u.oneCell' = true) (hn : n * 4 ≤ 140737488355328) :
    Calls Try.prog 58 #[.slice A n c] w fun e w' => ∃ A' c', e = .returned (.slice A' n c') ∧ Own w' w.heap.size 45 1 A' n c' xs ∧ Ext w w' := by
  have hnil := fun (W : World) => Lib.run_eql_slice_nil (P := Try.prog) W 30 45 A n c 0 0 Try.underlying30
  rcases A with _ | a
  · obtain rfl : c = 0 := h.2.2.2.1 rfl
    have hn0 : n = 0 := by have := h.2.1; omega
    subst hn0
    have hx : xs = [] := List.eq_nil_of_length_eq_zero (by simpa using h.1)
    subst hx
    go_enter Try.func58, Try.ntmps58
    go_wp2
    go_ret
    exact ⟨none, 0, rfl, Own.nil _ _ _ _, Ext.refl _⟩
  · go_enter Try.func58, Try.ntmps58
    go_wp2_with (at_builtin; refine wpList_append_gen _ elemWords w.heap.size _ _ (by rfl) (by rfl) _ 0 0 [] (by rfl) (Own.empty _ _ _ _ _) (some a) n c xs (by rfl) (h.ext ((Ext.refl w).alloc _)) h1 (by omega) (by omega) (by simp) ?_; intro A' c' w1 ho1 hg1 hk1)
    go_ret
    refine ⟨A', c', by simp, by simpa using ho1, ?_⟩
    exact ((Ext.refl w).alloc _).grown hg1 (by simp [blk])

set_option maxRecDepth 100000 in
set_option maxHeartbeats 400000 in
theorem sameWords_diff (A1 A2 : Option Addr) (n1 n2 c1 c2 : Nat) (w : World) (hne : ((n1 : Int) != (n2 : Int)) = true) :
    Calls Try.prog 59 #[.slice A1 n1 c1, .slice A2 n2 c2] w fun e w' => e = .returned (.bool false) ∧ Ext w w' := by
  go_enter Try.func59, Try.ntmps59
  go_wp2
  go_ret
  exact ⟨rfl, Ext.refl _⟩

theorem getD_ext {l1 l2 : List Int} (hl : l1.length = l2.length) : (∀ k, k < l1.length → l1.getD k 0 = l2.getD k 0) ↔ l1 = l2 := by
  constructor
  · intro h
    refine List.ext_getElem hl fun k h1 h2 => ?_
    have := h k h1
    simpa [List.getD_eq_getElem?_getD, List.getElem?_eq_getElem h1, List.getElem?_eq_getElem h2] using this
  · rintro rfl k _; rfl

set_option maxRecDepth 100000 in
set_option maxHeartbeats 400000 in
theorem sameWords_same (A1 A2 : Option Addr) (n c1 c2 : Nat) (l1 l2 : List Int) (w : World) (h1 : Sl w 1 A1 n c1 (wds l1)) (h2 : Sl w 1 A2 n c2 (wds l2)) :
    Calls Try.prog 59 #[.slice A1 n c1, .slice A2 n c2] w fun e w' => e = .returned (.bool (decide (l1 = l2))) ∧ Ext w w' := by
  have hm := h1.le
  have hl1 := Lib.hid h1.wlen
  have hl2 := Lib.hid h2.wlen
  have he : ((n : Int) != (n : Int)) = false := by simp
  go_enter Try.func59, Try.ntmps59
  go_wp2
  go_loopw [5] (fun v wr => ∃ k : Nat, k ≤ n ∧ v = .int .i64 k ∧ (∀ j, j < k → l1.getD j 0 = l2.getD j 0) ∧ ∃ m, wr = w.drewN m) (fun v _ => n - (intOf v).toNat)
  case atStart => exact ⟨0, Nat.zero_le _, rfl, fun j hj => absurd hj (by omega), 0, rfl⟩
  case round =>
    obtain ⟨k, hk, rfl, hall, m, rfl⟩ := hrel
    have H := Lib.hid hall
    clear hall
    by_cases hlt : k < n
    · obtain ⟨a1, ha1, hc1, _⟩ := h1.word hlt
      obtain ⟨a2, ha2, hc2, _⟩ := h2.word hlt
      have T : Hid (k < l1.length) := by show k < l1.length; rw [hl1.out]; exact hlt
      by_cases hq : (l1[k]?.getD 0 != l2[k]?.getD 0) = true
      · go_wp2
        go_quiet (fail)
        go_wp2
        go_ret
        refine ⟨ret_bool (Eq.symm (decide_eq_false fun e => ?_)), ((Ext.refl w).drewN _).drewN _⟩
        rw [e] at hq
        simp at hq
      · have hq' : (l1[k]?.getD 0 != l2[k]?.getD 0) = false := by simpa using hq
        have Q := Lib.hid hq
        clear hq
        go_wp2
        go_quiet (fail)
        go_wp2
        go_roundw
        case rel =>
          refine ⟨k + 1, by omega, by go_num, fun j hj => ?_, _, rfl⟩
          by_cases hjk : j < k
          · exact H.out j hjk
          · obtain rfl : j = k := by omega
            simpa [List.getD_eq_getElem?_getD] using hq'
        case measure => simp [intOf]; omega
    · go_wp2
      go_ret
      refine ⟨ret_bool (Eq.symm (decide_eq_true ?_)), (Ext.refl w).drewN _⟩
      exact (getD_ext (by rw [hl1.out, hl2.out])).1 fun j hj => H.out j (by rw [hl1.out] at hj; omega)

theorem sameWords_any (A1 A2 : Option Addr) (n1 n2 c1 c2 : Nat) (l1 l2 : List Int) (w : World) (h1 : Sl w 1 A1 n1 c1 (wds l1)) (h2 : Sl w 1 A2 n2 c2 (wds l2)) :
    Calls Try.prog 59 #[.slice A1 n1 c1, .slice A2 n2 c2] w fun e w' => e = .returned (.bool (decide (l1 = l2))) ∧ Ext w w' := by
  by_cases hn : n1 = n2
  · subst hn; exact sameWords_same A1 A2 n1 c1 c2 l1 l2 w h1 h2
  · have hf : decide (l1 = l2) = false := decide_eq_false fun e => hn (by rw [← h1.wlen, ← h2.wlen, e])
    rw [hf]
    exact sameWords_diff A1 A2 n1 n2 c1 c2 w (by simp; omega)

def leqT (e1 : Int) (l1 : List Int) (e2 : Int) (l2 : List Int) : Bool := decide (l1.length = l2.length ∧ e1 ≤ e2 ∧ ∀ k, k < l1.length → l1.getD k 0 ≤ l2.getD k 0)
end Go.Proofs.Yteklohamkmiphaa
namespace Go.Proofs.Yteklohamkmiphaa
open Go.RowKit

set_option maxRecDepth 100000 in
set_option maxHeartbeats 400000 in
theorem sum_over (x y : Int) (w : World) (hx : 0 ≤ x ∧ x ≤ 4294967295) (hy : 0 ≤ y ∧ y ≤ 4294967295) (h : 4294967295 - y < x) :
    Calls Try.prog 67 #[.int .u32 x, .int .u32 y] w fun e w' => e = .returned (.tuple #[.int .u32 0, .int .u16 41]) ∧ w = w' := by
  obtain ⟨hx0, hx1⟩ := hx
  obtain ⟨hy0, hy1⟩ := hy
  go_enter Try.func67, Try.ntmps67
  go_wp2
  go_ret2
  exact ⟨rfl, rfl⟩
set_option maxRecDepth 100000 in
set_option maxHeartbeats 400000 in
theorem sum_ok (x y : Int) (w : World) (hx : 0 ≤ x ∧ x ≤ 4294967295) (hy : 0 ≤ y ∧ y ≤ 4294967295) (h : x ≤ 4294967295 - y) :
    Calls Try.prog 67 #[.int .u32 x, .int .u32 y] w fun e w' => e = .returned (.tuple #[.int .u32 (x + y), .int .u16 0]) ∧ w = w' := by
  obtain ⟨hx0, hx1⟩ := hx
  obtain ⟨hy0, hy1⟩ := hy
  go_enter Try.func67, Try.ntmps67
  go_wp2
  go_ret2
  exact ⟨rfl, rfl⟩

end Go.Proofs.Yteklohamkmiphaa
namespace Go.Proofs.Yteklohamkmiphaa
open Go.RowKit

structure Way where
  leave : Int
  add : Int
  enter : List Int
/-- what Then answers: the way and the error's number -/
def thenT (La aa : Int) (la : List Int) (Lb ab : Int) (lb : List Int) : Way × Int :=
  if Lb < 0 then (⟨0, 0, []⟩, 40)
  else if Lb < la.length then
    (if 4294967295 - ab < la.getD (la.length - Lb.toNat - 1) 0 then (⟨0, 0, []⟩, 41) else (⟨La, aa, la.take (la.length - Lb.toNat - 1) ++ [la.getD (la.length - Lb.toNat - 1) 0 + ab] ++ lb⟩, 0))
  else if Lb = la.length then (if 4294967295 - ab < aa then (⟨0, 0, []⟩, 41) else (⟨La, aa + ab, lb⟩, 0))
  else (⟨wrap64 (wrap64 (La + Lb) - la.length), ab, lb⟩, 0)
def WayOut (w : World) (r : Way × Int) (e : Ending) (w' : World) : Prop :=
  ∃ A c, e = .returned (.tuple #[.agg #[.int .i64 r.1.leave, .int .u32 r.1.add, .slice A r.1.enter.length c], .int .u16 r.2]) ∧ Own w' w.heap.size 45 1 A r.1.enter.length c (wds r.1.enter) ∧ Ext w w'

theorem wayNone {w w' : World} {n : Int} (x : Ext w w') : WayOut w (⟨0, 0, []⟩, n) (.returned (.tuple #[.agg #[.int .i64 0, .int .u32 0, .slice none 0 0], .int .u16 n])) w' := ⟨Option.none, 0, rfl, Own.nil _ _ _ _, x⟩

set_option maxRecDepth 100000 in
set_option maxHeartbeats 400000 in
theorem then_neg (La aa Lb ab : Int) (A1 A2 : Option Addr) (n1 n2 c1 c2 : Nat) (w : World) (hL : Lb < 0) :
    Calls Try.prog 52 #[.agg #[.int .i64 La, .int .u32 aa, .slice A1 n1 c1], .agg #[.int .i64 Lb, .int .u32 ab, .slice A2 n2 c2]] w (WayOut w (⟨0, 0, []⟩, 40)) := by
  go_enter Try.func52, Try.ntmps52
  go_wp2
  refine bodyPost_ret (v := .tuple #[.agg #[.int .i64 0, .int .u32 0, .slice none 0 0], .int .u16 40]) (by simp only [results, Try.results52]; go_simp) rfl ?_
  exact wayNone ((((Ext.refl w).alloc _).alloc _).alloc _ |>.alloc _)
set_option maxRecDepth 100000 in
set_option maxHeartbeats 2000000 in
theorem then_eq (La aa ab : Int) (A1 A2 : Option Addr) (n1 n2 c1 c2 : Nat) (l2 : List Int) (w : World) (h2 : Sl w 1 A2 n2 c2 (wds l2)) (haa : 0 ≤ aa ∧ aa ≤ 4294967295) (hab : 0 ≤ ab ∧ ab ≤ 4294967295) (hn2 : n2 ≤ 1000000) :
    Calls Try.prog 52 #[.agg #[.int .i64 La, .int .u32 aa, .slice A1 n1 c1], .agg #[.int .i64 n1, .int .u32 ab, .slice A2 n2 c2]] w
      (WayOut w (if 4294967295 - ab < aa then (⟨0, 0, []⟩, 41) else (⟨La, aa + ab, l2⟩, 0))) := by
  have q0 : ((n1 : Int) == (n1 : Int)) = true := by simp
  by_cases hov : 4294967295 - ab < aa
  · rw [if_pos hov]
    go_enter Try.func52, Try.ntmps52
    go_wp2_with (refine (sum_over _ _ _ haa hab hov).mono ?_; rintro r w1 ⟨rfl, rfl⟩)
    refine bodyPost_ret (v := .tuple #[.agg #[.int .i64 0, .int .u32 0, .slice none 0 0], .int .u16 41]) (by simp only [results, Try.results52]; go_simp) rfl ?_
    exact wayNone ((((Ext.refl w).alloc _).alloc _).alloc _ |>.alloc _)
  · rw [if_neg hov]
    have WH := Lib.hid (show ∀ (r : Ending) (w' : World), WayOut w (⟨La, aa + ab, l2⟩, 0) r w' → WayOut w (⟨La, aa + ab, l2⟩, 0) r w' from fun _ _ h => h)
    go_enter Try.func52, Try.ntmps52
    go_upto_region 3 with fail
    obtain ⟨w0, hw0⟩ : ∃ w0, w0 = (((w.alloc (Obj.cells #[Value.int IntKind.i64 La, Value.int IntKind.u32 aa, Value.slice A1 n1 c1] 47)).alloc (Obj.cells #[Value.int IntKind.i64 n1, Value.int IntKind.u32 ab, Value.slice A2 n2 c2] 47)).alloc
        (Obj.cells #[Value.int IntKind.i64 0, Value.int IntKind.u32 0, Value.slice none 0 0] 47)).alloc (Obj.cells #[Value.int IntKind.i64 La, Value.int IntKind.u32 aa, Value.slice none 0 0] 47) := ⟨_, rfl⟩
    have x0 : Ext w w0 := hw0 ▸ ((((Ext.refl w).alloc _).alloc _).alloc _).alloc _
    have s0 : w0.heap.size = w.heap.size + 4 := by subst hw0; simp
    have a0 : Bk w0 w.heap.size 47 #[Value.int IntKind.i64 La, Value.int IntKind.u32 aa, Value.slice A1 n1 c1] := by subst hw0; exact (((Bk.new _ _ _).alloc _).alloc _).alloc _
    have b0 : Bk w0 (w.heap.size + 1) 47 #[Value.int IntKind.i64 n1, Value.int IntKind.u32 ab, Value.slice A2 n2 c2] := by subst hw0; exact ((Bk.at (by simp)).alloc _).alloc _
    have r0 : Bk w0 (w.heap.size + 1 + 1) 47 #[Value.int IntKind.i64 0, Value.int IntKind.u32 0, Value.slice none 0 0] := by subst hw0; exact (Bk.at (by simp)).alloc _
    have y0 : Bk w0 (w.heap.size + 1 + 1 + 1) 47 #[Value.int IntKind.i64 La, Value.int IntKind.u32 aa, Value.slice none 0 0] := by subst hw0; exact Bk.at (by simp)
    rw [← hw0]
    clear hw0
    have a1 : w0.cell? ⟨w.heap.size, 0, none⟩ = some (.int .i64 La) := a0.cell 0
    have a2 : w0.cell? ⟨w.heap.size, 1, none⟩ = some (.int .u32 aa) := a0.cell 1
    have a3 : w0.cell? ⟨w.heap.size, 2, none⟩ = some (.slice A1 n1 c1) := a0.cell 2
    have b1 : w0.cell? ⟨w.heap.size + 1, 0, none⟩ = some (.int .i64 n1) := b0.cell 0
    have b2 : w0.cell? ⟨w.heap.size + 1, 1, none⟩ = some (.int .u32 ab) := b0.cell 1
    have b3 : w0.cell? ⟨w.heap.size + 1, 2, none⟩ = some (.slice A2 n2 c2) := b0.cell 2
    have r1 : w0.cell? ⟨w.heap.size + 1 + 1, 0, none⟩ = some (.int .i64 0) := r0.cell 0
    have r2 : w0.cell? ⟨w.heap.size + 1 + 1, 1, none⟩ = some (.int .u32 0) := r0.cell 1
    have r3 : w0.cell? ⟨w.heap.size + 1 + 1, 2, none⟩ = some (.slice none 0 0) := r0.cell 2
    have r4 := r0.free 0
    have r5 := r0.free 1
    have r6 := r0.free 2
    have y1 : w0.cell? ⟨w.heap.size + 1 + 1 + 1, 0, none⟩ = some (.int .i64 La) := y0.cell 0
    have y2 : w0.cell? ⟨w.heap.size + 1 + 1 + 1, 1, none⟩ = some (.int .u32 aa) := y0.cell 1
    have y3 : w0.cell? ⟨w.heap.size + 1 + 1 + 1, 2, none⟩ = some (.slice none 0 0) := y0.cell 2
    have y4 := y0.free 0
    have y5 := y0.free 1
    have y6 := y0.free 2
    go_wp2_with (first | (go_at_call 67; refine (sum_ok _ _ _ haa hab (by omega)).mono ?_; rintro r w1 ⟨rfl, rfl⟩) | (at_builtin; refine wpList_append_gen _ elemWords (w.heap.size + 4) _ _ (by rfl) (by rfl) Option.none 0 0 [] (by rfl) (Own.nil _ _ _ _) A2 n2 c2 (wds l2) (by rfl) (h2.ext (x0.set (by simp; omega) _)) (wds_one _) (by omega) (by omega) (by simp; omega) ?_; intro A' c' w1 ho1 hg1 hk1; have yy := Bk.grown (by exact y0.set 1 _) hg1 (by simp [blk]); have z1 : w1.cell? ⟨w.heap.size + 1 + 1 + 1, 0, none⟩ = some (.int .i64 (La)) := yy.cell 0; have z2 : w1.cell? ⟨w.heap.size + 1 + 1 + 1, 1, none⟩ = some (.int .u32 (aa + ab)) := yy.cell 1; have z3 : w1.cell? ⟨w.heap.size + 1 + 1 + 1, 2, none⟩ = some (.slice none 0 0) := yy.cell 2; have z4 := yy.free 2; have rr := Bk.grown (by exact r0.far (by simp) _) hg1 (by simp [blk]); have u1 : w1.cell? ⟨w.heap.size + 1 + 1, 0, none⟩ = some (.int .i64 0) := rr.cell 0; have u2 : w1.cell? ⟨w.heap.size + 1 + 1, 1, none⟩ = some (.int .u32 0) := rr.cell 1; have u3 : w1.cell? ⟨w.heap.size + 1 + 1, 2, none⟩ = some (.slice none 0 0) := rr.cell 2; have u4 := rr.free 0; have u5 := rr.free 1; have u6 := rr.free 2))
    refine bodyPost_ret (v := .tuple #[.agg #[.int .i64 La, .int .u32 (aa + ab), .slice A' n2 c'], .int .u16 0]) (by simp only [results, Try.results52]; go_simp) rfl ?_
    have hl := h2.wlen
    subst hl
    refine ⟨A', c', rfl, ?_, ?_⟩
    · rw [List.nil_append, Nat.zero_add] at ho1
      have hx : ∀ k, k < w.heap.size + 4 → blk A' c' ≠ some k := fun k hk => ho1.ne hk
      refine Own.far ?_ (hx _ (by simp)) _
      refine Own.far ?_ (hx _ (by simp)) _
      refine Own.far ?_ (hx _ (by simp)) _
      exact Own.far (ho1.mono (by omega)) (hx _ (by simp)) _
    · have e1 : Ext w w1 := (x0.set (p := ⟨w.heap.size + 1 + 1 + 1, 1, none⟩) (by simp; omega) _).grown hg1 (fun k hk => by simp [blk] at hk)
      (repeat' (first | with_reducible exact e1 | with_reducible refine Ext.drew ?_ | with_reducible refine Ext.drewN ?_ _ | with_reducible refine Ext.alloc ?_ _ | with_reducible refine Ext.set ?_ ?_ _ | omega | (simp; done) | (simp; omega)))

set_option maxRecDepth 100000 in
set_option maxHeartbeats 4000000 in
theorem then_in (K m : Nat) (hK : 0 < K) (La aa ab : Int) (A1 A2 : Option Addr) (n2 c1 c2 : Nat) (l1 l2 : List Int) (w : World) (h1 : Sl w 1 A1 (K + m) c1 (wds l1)) (h2 : Sl w 1 A2 n2 c2 (wds l2)) (u1 : U32 l1)
    (hab : 0 ≤ ab ∧ ab ≤ 4294967295) (hn1 : K + m ≤ 1000000) (hn2 : n2 ≤ 1000000) :
    Calls Try.prog 52 #[.agg #[.int .i64 La, .int .u32 aa, .slice A1 (K + m : Nat) c1], .agg #[.int .i64 m, .int .u32 ab, .slice A2 n2 c2]] w
      (WayOut w (if 4294967295 - ab < l1.getD (K - 1) 0 then (⟨0, 0, []⟩, 41) else (⟨La, aa, l1.take (K - 1) ++ [l1.getD (K - 1) 0 + ab] ++ l2⟩, 0))) := by
  have hm := h1.le
  have hc := h1.cap
  have hl1 : K ≤ l1.length := by have := h1.wlen; omega
  have uu := u1.getD (K - 1)
  have hs : Sl w 1 A1 K c1 (wds (l1.take K)) := by
    have := h1.take (k := K) (by omega)
    rwa [Nat.mul_one, wds_take] at this
  have lt0 : (m : Int) < ((K + m : Nat) : Int) := by omega
  obtain ⟨res, hres⟩ : ∃ res, res = (if 4294967295 - ab < l1.getD (K - 1) 0 then ((⟨0, 0, []⟩, 41) : Way × Int) else (⟨La, aa, l1.take (K - 1) ++ [l1.getD (K - 1) 0 + ab] ++ l2⟩, 0)) := ⟨_, rfl⟩
  rw [← hres]
  have HR := Lib.hid hres
  clear hres
  have U1 := Lib.hid u1
  clear u1
  go_enter Try.func52, Try.ntmps52
  go_upto_region 3 with fail
  obtain ⟨w0, hw0⟩ : ∃ w0, w0 = (((w.alloc (Obj.cells #[Value.int IntKind.i64 La, Value.int IntKind.u32 aa, Value.slice A1 (K + m) c1] 47)).alloc (Obj.cells #[Value.int IntKind.i64 m, Value.int IntKind.u32 ab, Value.slice A2 n2 c2] 47)).alloc
      (Obj.cells #[Value.int IntKind.i64 0, Value.int IntKind.u32 0, Value.slice none 0 0] 47)).alloc (Obj.cells #[Value.int IntKind.i64 La, Value.int IntKind.u32 aa, Value.slice none 0 0] 47) := ⟨_, rfl⟩
  have x0 : Ext w w0 := hw0 ▸ ((((Ext.refl w).alloc _).alloc _).alloc _).alloc _
  have s0 : w0.heap.size = w.heap.size + 4 := by subst hw0; simp
  have a0 : Bk w0 w.heap.size 47 #[Value.int IntKind.i64 La, Value.int IntKind.u32 aa, Value.slice A1 (K + m) c1] := by subst hw0; exact (((Bk.new _ _ _).alloc _).alloc _).alloc _
  have b0 : Bk w0 (w.heap.size + 1) 47 #[Value.int IntKind.i64 m, Value.int IntKind.u32 ab, Value.slice A2 n2 c2] := by subst hw0; exact ((Bk.at (by simp)).alloc _).alloc _
  have r0 : Bk w0 (w.heap.size + 1 + 1) 47 #[Value.int IntKind.i64 0, Value.int IntKind.u32 0, Value.slice none 0 0] := by subst hw0; exact (Bk.at (by simp)).alloc _
  have y0 : Bk w0 (w.heap.size + 1 + 1 + 1) 47 #[Value.int IntKind.i64 La, Value.int IntKind.u32 aa, Value.slice none 0 0] := by subst hw0; exact Bk.at (by simp)
  rw [← hw0]
  clear hw0
  have a1 : w0.cell? ⟨w.heap.size, 0, none⟩ = some (.int .i64 La) := a0.cell 0
  have a2 : w0.cell? ⟨w.heap.size, 1, none⟩ = some (.int .u32 aa) := a0.cell 1
  have a3 : w0.cell? ⟨w.heap.size, 2, none⟩ = some (.slice A1 (K + m) c1) := a0.cell 2
  have b1 : w0.cell? ⟨w.heap.size + 1, 0, none⟩ = some (.int .i64 m) := b0.cell 0
  have b2 : w0.cell? ⟨w.heap.size + 1, 1, none⟩ = some (.int .u32 ab) := b0.cell 1
  have b3 : w0.cell? ⟨w.heap.size + 1, 2, none⟩ = some (.slice A2 n2 c2) := b0.cell 2
  have r1 : w0.cell? ⟨w.heap.size + 1 + 1, 0, none⟩ = some (.int .i64 0) := r0.cell 0
  have r2 : w0.cell? ⟨w.heap.size + 1 + 1, 1, none⟩ = some (.int .u32 0) := r0.cell 1
  have r3 : w0.cell? ⟨w.heap.size + 1 + 1, 2, none⟩ = some (.slice none 0 0) := r0.cell 2
  have r4 := r0.free 0
  have r5 := r0.free 1
  have r6 := r0.free 2
  have y1 : w0.cell? ⟨w.heap.size + 1 + 1 + 1, 0, none⟩ = some (.int .i64 La) := y0.cell 0
  have y2 : w0.cell? ⟨w.heap.size + 1 + 1 + 1, 1, none⟩ = some (.int .u32 aa) := y0.cell 1
  have y3 : w0.cell? ⟨w.heap.size + 1 + 1 + 1, 2, none⟩ = some (.slice none 0 0) := y0.cell 2
  have y4 := y0.free 0
  have y5 := y0.free 1
  have y6 := y0.free 2
  have i0 : (0 : Int) ≤ (K : Int) - 1 := by omega
  have i1 : (K : Int) - 1 < (K : Int) := by omega
  have i2 : IntKind.i64.wrap ((K : Int) - 1) = (K : Int) - 1 := IntWalk.i64_in _ (by omega)
  have i3 : ((K : Int) - 1).toNat = K - 1 := by omega
  go_upto_region 10 with (go_at_call 58; refine (clone_words A1 K c1 (wds (l1.take K)) _ (hs.ext x0) (wds_one _) (by omega)).mono ?_; rintro r w1 ⟨A, c, rfl, ho, x1⟩; obtain ⟨gA, rfl, hbA, hgA, hgA2, hcA, hfA⟩ := ho.form hK; have y31 : w1.cell? ⟨w.heap.size + 1 + 1 + 1, 2, none⟩ = some (.slice none 0 0) := x1.cell y3; have y61 := (y0.ext x1).free 2)
  obtain ⟨w2, hw2⟩ : ∃ w2, w2 = w1.setCell ⟨w.heap.size + 1 + 1 + 1, 2, none⟩ (.slice (some ⟨gA, 0, none⟩) K c) := ⟨_, rfl⟩
  rw [← hw2]
  have cA : w2.cell? ⟨gA, K - 1, none⟩ = some (.int .u32 (l1.getD (K - 1) 0)) := by
    rw [hw2, World.cell?_setCell_other _ _ _ _ (by simp)]
    refine hcA _ _ ?_
    simp only [wds, List.getElem?_map, List.getElem?_take, if_pos (show K - 1 < K by omega), List.getD_eq_getElem?_getD, List.getElem?_eq_getElem (show K - 1 < l1.length by omega)]
    rfl
  have fA : w2.frozen? ⟨gA, K - 1, none⟩ = false := by rw [hw2, World.frozen?_setCell]; exact hfA _
  have x2 : Ext w w2 := hw2 ▸ (x0.trans x1).set (by simp; omega) _
  have ho2 : Own w2 (w.heap.size + 4) 45 1 (some ⟨gA, 0, none⟩) K c (wds (l1.take K)) := hw2 ▸ (ho.mono (by omega)).far (ho.ne (by simp [s0])) _
  have yB : Bk w2 (w.heap.size + 1 + 1 + 1) 47 #[.int .i64 La, .int .u32 aa, .slice (some ⟨gA, 0, none⟩) K c] := hw2 ▸ (y0.ext x1).set 2 _
  have rB : Bk w2 (w.heap.size + 1 + 1) 47 #[.int .i64 0, .int .u32 0, .slice none 0 0] := hw2 ▸ (r0.ext x1).far (by simp) _
  have bB : Bk w2 (w.heap.size + 1) 47 #[.int .i64 m, .int .u32 ab, .slice A2 n2 c2] := hw2 ▸ (b0.ext x1).far (by simp) _
  clear hw2 hcA hfA y31 y61 a1 a2 a3 b1 b2 b3 r1 r2 r3 r4 r5 r6 y1 y2 y3 y4 y5 y6
  have b2 : w2.cell? ⟨w.heap.size + 1, 1, none⟩ = some (.int .u32 ab) := bB.cell 1
  have b3 : w2.cell? ⟨w.heap.size + 1, 2, none⟩ = some (.slice A2 n2 c2) := bB.cell 2
  have r1 : w2.cell? ⟨w.heap.size + 1 + 1, 0, none⟩ = some (.int .i64 0) := rB.cell 0
  have r2 : w2.cell? ⟨w.heap.size + 1 + 1, 1, none⟩ = some (.int .u32 0) := rB.cell 1
  have r3 : w2.cell? ⟨w.heap.size + 1 + 1, 2, none⟩ = some (.slice none 0 0) := rB.cell 2
  have r4 := rB.free 0
  have r5 := rB.free 1
  have r6 := rB.free 2
  have y1 : w2.cell? ⟨w.heap.size + 1 + 1 + 1, 0, none⟩ = some (.int .i64 La) := yB.cell 0
  have y2 : w2.cell? ⟨w.heap.size + 1 + 1 + 1, 1, none⟩ = some (.int .u32 aa) := yB.cell 1
  have y3 : w2.cell? ⟨w.heap.size + 1 + 1 + 1, 2, none⟩ = some (.slice (some ⟨gA, 0, none⟩) K c) := yB.cell 2
  have y6 := yB.free 2
  have g1 : ¬ gA = w.heap.size + 1 := by omega
  have g2 : ¬ gA = w.heap.size + 1 + 1 := by omega
  have g3 : ¬ gA = w.heap.size + 1 + 1 + 1 := by omega
  have g4 : ¬ w.heap.size + 1 = gA := by omega
  have g5 : ¬ w.heap.size + 1 + 1 = gA := by omega
  have g6 : ¬ w.heap.size + 1 + 1 + 1 = gA := by omega
  have X : Ext w2 w2.drew := (Ext.refl w2).drew
  have d2 : ∀ y : Xt w2.drew, y.W.cell? ⟨w.heap.size + 1, 1, none⟩ = some (.int .u32 ab) := fun y => y.x.cell (X.cell b2)
  have dA : ∀ y : Xt w2.drew, y.W.cell? ⟨gA, K - 1, none⟩ = some (.int .u32 (l1.getD (K - 1) 0)) := fun y => y.x.cell (X.cell cA)
  by_cases hov : 4294967295 - ab < l1.getD (K - 1) 0
  · have R0 := HR.out
    rw [if_pos hov] at R0
    have RH := Lib.hid R0
    clear R0
    refine wp_region_ord [0,0,2,6,0,16,62,126,254,254,511,1535,4095] (.pur [0] (.flo [1,2,3,4,5] (.one 6 (.flo [7,8,10] (.pur [9] (.one 11 (.flo [12] (.fin)))))))) (by kernel_rfl) (by kernel_rfl) (by intro _ _ d _ _ h; cases d <;> exact h) ?_
    (refine ord_pur (pick_cons rfl pick_nil) ?_; (repeat (go_big_quiet_step (fail))); refine wpQuiet_nil ?_; show ordWalk _ _ _ _ _ _ _)
    (refine ord_flo (pick_cons rfl (pick_cons rfl (pick_cons rfl (pick_cons rfl (pick_cons rfl pick_nil))))) ?_; (repeat (go_big_quiet_step (fail))); refine wpQuiet_nil ?_; show ordWalk _ _ _ _ _ _ _)
    refine ord_one (pick_cons rfl pick_nil) ?_; intro K_ hK_
    go_wp2_with (refine (sum_over _ _ _ uu hab hov).mono ?_; rintro r w1' ⟨rfl, rfl⟩)
    (refine ord_flo (pick_cons rfl (pick_cons rfl (pick_cons rfl pick_nil))) ?_; (repeat (go_big_quiet_step (fail))); refine wpQuiet_nil ?_; show ordWalk _ _ _ _ _ _ _)
    (refine ord_pur (pick_cons rfl pick_nil) ?_; (repeat (go_big_quiet_step (fail))); refine wpQuiet_nil ?_; show ordWalk _ _ _ _ _ _ _)
    refine ord_one (pick_cons rfl pick_nil) ?_; intro K_ hK_
    go_wp2
    (refine ord_flo (pick_cons rfl pick_nil) ?_; (repeat (go_big_quiet_step (fail))); refine wpQuiet_nil ?_; show ordWalk _ _ _ _ _ _ _)
    refine ord_fin ?_
    go_wp2
    refine bodyPost_ret (v := .tuple #[.agg #[.int .i64 0, .int .u32 0, .slice none 0 0], .int .u16 41]) (by simp only [results, Try.results52]; go_simp) rfl ?_
    rw [RH.out]
    refine wayNone ?_
    (repeat' (first | with_reducible exact x2 | with_reducible refine Ext.drew ?_ | with_reducible refine Ext.drewN ?_ _ | with_reducible refine Ext.alloc ?_ _ | with_reducible refine Ext.set ?_ ?_ _ | omega | (simp; done) | (simp; omega)))
  · have R0 := HR.out
    rw [if_neg hov] at R0
    have RH := Lib.hid R0
    clear R0
    have uo : l1.getD (K - 1) 0 + ab ≤ 4294967295 := by omega
    refine wp_region_ord [0,0,2,6,0,16,62,126,254,254,511,1535,4095] (.pur [0] (.flo [1,2,3,4,5] (.one 6 (.flo [7,8,10] (.pur [9] (.one 11 (.flo [12] (.fin)))))))) (by kernel_rfl) (by kernel_rfl) (by intro _ _ d _ _ h; cases d <;> exact h) ?_
    (refine ord_pur (pick_cons rfl pick_nil) ?_; (repeat (go_big_quiet_step (fail))); refine wpQuiet_nil ?_; show ordWalk _ _ _ _ _ _ _)
    (refine ord_flo (pick_cons rfl (pick_cons rfl (pick_cons rfl (pick_cons rfl (pick_cons rfl pick_nil))))) ?_; (repeat (go_big_quiet_step (fail))); refine wpQuiet_nil ?_; show ordWalk _ _ _ _ _ _ _)
    refine ord_one (pick_cons rfl pick_nil) ?_; intro K_ hK_
    go_wp2_with (refine (sum_ok _ _ _ uu hab (by omega)).mono ?_; rintro r w1' ⟨rfl, rfl⟩)
    (refine ord_flo (pick_cons rfl (pick_cons rfl (pick_cons rfl pick_nil))) ?_; (repeat (go_big_quiet_step (fail))); refine wpQuiet_nil ?_; show ordWalk _ _ _ _ _ _ _)
    (refine ord_pur (pick_cons rfl pick_nil) ?_; (repeat (go_big_quiet_step (fail))); refine wpQuiet_nil ?_; show ordWalk _ _ _ _ _ _ _)
    refine ord_one (pick_cons rfl pick_nil) ?_; intro K_ hK_
    go_wp2
    (refine ord_flo (pick_cons rfl pick_nil) ?_; (repeat (go_big_quiet_step (fail))); refine wpQuiet_nil ?_; show ordWalk _ _ _ _ _ _ _)
    refine ord_fin ?_
    go_wp2_with (at_builtin; refine wpList_append_gen _ elemWords (w.heap.size + 4) _ _ (by rfl) (by rfl) (some ⟨gA, 0, none⟩) K c _ (by rfl) ((ho2.put (K - 1) _).drew) A2 n2 c2 (wds l2) (by rfl) (h2.ext (Ext.drew (x2.set (by simp; omega) _))) (wds_one _) (by omega) (by omega) (by have := x2.size; have := yB.lt; simp; omega) ?_; intro A' c' w1' ho1 hg1 hk1; have yy := Bk.grown (by exact (yB.far (by simpa using g6) _).drew) hg1 (ho2.ne (by omega)); have z1 : w1'.cell? ⟨w.heap.size + 1 + 1 + 1, 0, none⟩ = some (.int .i64 La) := yy.cell 0; have z2 : w1'.cell? ⟨w.heap.size + 1 + 1 + 1, 1, none⟩ = some (.int .u32 aa) := yy.cell 1; have z3 : w1'.cell? ⟨w.heap.size + 1 + 1 + 1, 2, none⟩ = some (.slice (some ⟨gA, 0, none⟩) K c) := yy.cell 2; have z4 := yy.free 2; have rr := Bk.grown (by exact (rB.far (by simpa using g5) _).drew) hg1 (ho2.ne (by omega)); have v1 : w1'.cell? ⟨w.heap.size + 1 + 1, 0, none⟩ = some (.int .i64 0) := rr.cell 0; have v2 : w1'.cell? ⟨w.heap.size + 1 + 1, 1, none⟩ = some (.int .u32 0) := rr.cell 1; have v3 : w1'.cell? ⟨w.heap.size + 1 + 1, 2, none⟩ = some (.slice none 0 0) := rr.cell 2; have v4 := rr.free 0; have v5 := rr.free 1; have v6 := rr.free 2)
    refine bodyPost_ret (v := .tuple #[.agg #[.int .i64 La, .int .u32 aa, .slice A' (K + n2) c'], .int .u16 0]) (by simp only [results, Try.results52]; go_simp) rfl ?_
    rw [RH.out]
    have hl2 := h2.wlen
    have e0 : (l1.take (K - 1) ++ [l1.getD (K - 1) 0 + ab] ++ l2).length = K + n2 := by simp; omega
    refine ⟨A', c', by simp only [e0], ?_, ?_⟩
    · have e2 : (wds (l1.take K)).set (K - 1) (.int .u32 (l1[K - 1]?.getD 0 + ab)) ++ wds l2 = wds (l1.take (K - 1) ++ [l1.getD (K - 1) 0 + ab] ++ l2) := by
        rw [← List.getD_eq_getElem?_getD, wds_set_last _ _ _ hK hl1, wds_append]
      rw [e2] at ho1
      have hx : ∀ k, k < w.heap.size + 4 → blk A' c' ≠ some k := fun k hk => ho1.ne hk
      simp only [e0]
      refine Own.far ?_ (hx _ (by simp)) _
      refine Own.far ?_ (hx _ (by simp)) _
      refine Own.far ?_ (hx _ (by simp)) _
      exact Own.far (ho1.mono (by omega)) (hx _ (by simp)) _
    · have e1 : Ext w w1' := (Ext.drew (x2.set (p := ⟨gA, K - 1, none⟩) (by simp; omega) _)).grown hg1 (fun k hk => by have := ho2.lt k hk; omega)
      (repeat' (first | with_reducible exact e1 | with_reducible refine Ext.drew ?_ | with_reducible refine Ext.drewN ?_ _ | with_reducible refine Ext.alloc ?_ _ | with_reducible refine Ext.set ?_ ?_ _ | omega | (simp; done) | (simp; omega)))

set_option maxRecDepth 100000 in
set_option maxHeartbeats 2000000 in
theorem then_gt (La aa Lb ab : Int) (A1 A2 : Option Addr) (n1 n2 c1 c2 : Nat) (l2 : List Int) (w : World) (h2 : Sl w 1 A2 n2 c2 (wds l2)) (hn2 : n2 ≤ 1000000) (hn1 : n1 ≤ 1000000) (hLb : (n1 : Int) < Lb) :
    Calls Try.prog 52 #[.agg #[.int .i64 La, .int .u32 aa, .slice A1 n1 c1], .agg #[.int .i64 Lb, .int .u32 ab, .slice A2 n2 c2]] w
      (WayOut w (⟨wrap64 (wrap64 (La + Lb) - n1), ab, l2⟩, 0)) := by
  have q0 : (Lb == (n1 : Int)) = false := by simp; omega
  go_enter Try.func52, Try.ntmps52
  have WH := Lib.hid (show ∀ (r : Ending) (w' : World), WayOut w (⟨wrap64 (wrap64 (La + Lb) - n1), ab, l2⟩, 0) r w' → WayOut w (⟨wrap64 (wrap64 (La + Lb) - n1), ab, l2⟩, 0) r w' from fun _ _ h => h)
  go_upto_region 4 with fail
  go_region
  obtain ⟨v, hv⟩ : ∃ v, v = wrap64 (wrap64 (La + Lb) - n1) := ⟨_, rfl⟩
  rw [← hv] at WH
  go_wp2_with (at_builtin; simp only [← hv]; refine wpList_append_gen _ elemWords (w.heap.size + 4) _ _ (by rfl) (by rfl) Option.none 0 0 [] (by rfl) (Own.nil _ _ _ _) A2 n2 c2 (wds l2) (by rfl) (h2.ext (Ext.drew (((((Ext.refl w).alloc _).alloc _).alloc _).alloc _))) (wds_one _) (by omega) (by omega) (by simp) ?_; intro A' c' w1 ho1 hg1 hk1; have yy := Bk.grown (show Bk _ (w.heap.size + 1 + 1 + 1) 47 #[.int .i64 v, .int .u32 ab, .slice Option.none 0 0] from (Bk.at (by simp)).drew) hg1 (by simp [blk]); have z1 : w1.cell? ⟨w.heap.size + 1 + 1 + 1, 0, none⟩ = some (.int .i64 v) := yy.cell 0; have z2 : w1.cell? ⟨w.heap.size + 1 + 1 + 1, 1, none⟩ = some (.int .u32 ab) := yy.cell 1; have z3 : w1.cell? ⟨w.heap.size + 1 + 1 + 1, 2, none⟩ = some (.slice none 0 0) := yy.cell 2; have z4 := yy.free 2; have rr := Bk.grown (show Bk _ (w.heap.size + 1 + 1) 47 #[.int .i64 0, .int .u32 0, .slice Option.none 0 0] from ((Bk.at (by simp)).alloc _).drew) hg1 (by simp [blk]); have u1 : w1.cell? ⟨w.heap.size + 1 + 1, 0, none⟩ = some (.int .i64 0) := rr.cell 0; have u2 : w1.cell? ⟨w.heap.size + 1 + 1, 1, none⟩ = some (.int .u32 0) := rr.cell 1; have u3 : w1.cell? ⟨w.heap.size + 1 + 1, 2, none⟩ = some (.slice none 0 0) := rr.cell 2; have u4 := rr.free 0; have u5 := rr.free 1; have u6 := rr.free 2)
  refine bodyPost_ret (v := .tuple #[.agg #[.int .i64 v, .int .u32 ab, .slice A' n2 c'], .int .u16 0]) (by simp only [results, Try.results52]; go_simp) rfl ?_
  subst hv
  have hl := h2.wlen
  subst hl
  refine ⟨A', c', rfl, ?_, ?_⟩
  · rw [List.nil_append, Nat.zero_add] at ho1
    have hx : ∀ k, k < w.heap.size + 4 → blk A' c' ≠ some k := fun k hk => ho1.ne hk
    refine Own.far ?_ (hx _ (by simp)) _
    refine Own.far ?_ (hx _ (by simp)) _
    refine Own.far ?_ (hx _ (by simp)) _
    exact Own.far (ho1.mono (by omega)) (hx _ (by simp)) _
  · have e1 : Ext w w1 := (Ext.drew (((((Ext.refl w).alloc _).alloc _).alloc _).alloc _)).grown hg1 (fun k hk => by simp [blk] at hk)
    (repeat' (first | with_reducible exact e1 | with_reducible refine Ext.drew ?_ | with_reducible refine Ext.drewN ?_ _ | with_reducible refine Ext.alloc ?_ _ | with_reducible refine Ext.set ?_ ?_ _ | omega | (simp; done) | (simp; omega)))

theorem then_any (La aa Lb ab : Int) (A1 A2 : Option Addr) (n1 n2 c1 c2 : Nat) (l1 l2 : List Int) (w : World) (h1 : Sl w 1 A1 n1 c1 (wds l1)) (h2 : Sl w 1 A2 n2 c2 (wds l2)) (u1 : U32 l1)
    (haa : 0 ≤ aa ∧ aa ≤ 4294967295) (hab : 0 ≤ ab ∧ ab ≤ 4294967295) (hn1 : n1 ≤ 1000000) (hn2 : n2 ≤ 1000000) :
    Calls Try.prog 52 #[.agg #[.int .i64 La, .int .u32 aa, .slice A1 n1 c1], .agg #[.int .i64 Lb, .int .u32 ab, .slice A2 n2 c2]] w (WayOut w (thenT La aa l1 Lb ab l2)) := by
  have hw1 := h1.wlen
  unfold thenT
  by_cases k1 : Lb < 0
  · rw [if_pos k1]; exact then_neg _ _ _ _ _ _ _ _ _ _ _ k1
  rw [if_neg k1]
  by_cases k2 : Lb < l1.length
  · rw [if_pos k2]
    obtain ⟨m, rfl⟩ : ∃ m : Nat, Lb = m := ⟨Lb.toNat, by omega⟩
    obtain ⟨K, rfl⟩ : ∃ K, n1 = K + m := ⟨n1 - m, by omega⟩
    have := then_in K m (by omega) La aa ab A1 A2 n2 c1 c2 l1 l2 w h1 h2 u1 hab hn1 hn2
    have e : l1.length - (m : Int).toNat - 1 = K - 1 := by omega
    rw [e]
    exact this
  rw [if_neg k2]
  by_cases k3 : Lb = l1.length
  · rw [if_pos k3]
    have e : Lb = (n1 : Int) := by omega
    rw [e]
    exact then_eq La aa ab A1 A2 n1 n2 c1 c2 l2 w h2 haa hab hn2
  rw [if_neg k3]
  have e : (l1.length : Int) = (n1 : Int) := by omega
  rw [e]
  exact then_gt La aa Lb ab A1 A2 n1 n2 c1 c2 l2 w h2 hn2 hn1 (by omega)
end Go.Proofs.Yteklohamkmiphaa
namespace Go.Proofs.Yteklohamkmiphaa
open Go.RowKit

/-- what a way does at a place -/
def placeT (L a : Int) (l : List Int) (d i : Int) : Bool × Int :=
  if i < d - L then (true, 0) else if i = d - L then (true, a) else (false, l.getD (i - (d - L) - 1).toNat 0)

def PlaceOut (w : World) (r : Bool × Int) (e : Ending) (w' : World) : Prop := e = .returned (.tuple #[.bool r.1, .int .u32 r.2]) ∧ Ext w w'
set_option maxRecDepth 100000 in
set_option maxHeartbeats 1000000 in
theorem place_w (L a d i : Int) (A : Option Addr) (n c b : Nat) (l : List Int) (w : World) (hs : Sl w 1 A n c (wds l)) (hd : w.cell? ⟨b, 0, none⟩ = some (.int .i64 d)) (hb : b < w.heap.size)
    (h0 : 0 ≤ i) (h1 : 0 ≤ L) (h2 : L ≤ d) (h3 : d ≤ 1000) (hi : i - (d - L) - 1 < n) (hn : n ≤ 1000000) (hi2 : i ≤ 1000000) (ul : U32 l) :
    Calls Try.prog 50 #[.agg #[.int .i64 L, .int .u32 a, .slice A n c], .int .i64 i, .pointer (some ⟨b, 0, none⟩)] w (PlaceOut w (placeT L a l d i)) := by
  have i0 : IntKind.i64.wrap (d - L) = d - L := IntWalk.i64_in _ (by omega)
  have hb1 : ¬ b = w.heap.size := by omega
  by_cases k1 : i < d - L
  · have e : placeT L a l d i = (true, 0) := by unfold placeT; rw [if_pos k1]
    rw [e]
    go_enter Try.func50, Try.ntmps50
    go_wp2
    refine bodyPost_ret (v := .tuple #[.bool true, .int .u32 0]) (by simp only [results, Try.results50]; go_simp) rfl ?_
    exact ⟨rfl, (Ext.refl w).alloc _⟩
  by_cases k2 : i = d - L
  · have e : placeT L a l d i = (true, a) := by unfold placeT; rw [if_neg k1, if_pos k2]
    rw [e]
    subst k2
    go_enter Try.func50, Try.ntmps50
    go_wp2
    go_quiet (fail)
    go_wp2
    refine bodyPost_ret (v := .tuple #[.bool true, .int .u32 a]) (by simp only [results, Try.results50]; go_simp) rfl ?_
    exact ⟨rfl, ((Ext.refl w).alloc _).drewN _⟩
  have e : placeT L a l d i = (false, l.getD (i - (d - L) - 1).toNat 0) := by unfold placeT; rw [if_neg k1, if_neg k2]
  rw [e]
  have i1 : IntKind.i64.wrap (i - (d - L)) = i - (d - L) := IntWalk.i64_in _ (by omega)
  obtain ⟨m, hm⟩ : ∃ m : Nat, i - (d - L) - 1 = m := ⟨(i - (d - L) - 1).toNat, by omega⟩
  have i2 : IntKind.i64.wrap (i - (d - L) - 1) = m := by rw [hm]; exact IntWalk.i64_in _ (by omega)
  have e2 : (i - (d - L) - 1).toNat = m := by omega
  rw [e2]
  have hmn : m < n := by omega
  have x0 : Ext w (w.alloc (Obj.cells #[Value.int IntKind.i64 L, Value.int IntKind.u32 a, Value.slice A n c] 47)) := (Ext.refl w).alloc _
  obtain ⟨a1, ha1, hc1, _⟩ := (hs.ext x0).word hmn
  have ud := ul.getD m
  have WH := Lib.hid (show ∀ (r : Ending) (w' : World), PlaceOut w (false, l.getD m 0) r w' → PlaceOut w (false, l.getD m 0) r w' from fun _ _ h => h)
  clear ul
  subst ha1
  go_enter Try.func50, Try.ntmps50
  go_wp2
  go_quiet (fail)
  go_wp2
  refine bodyPost_ret (v := .tuple #[.bool false, .int .u32 (l.getD m 0)]) (by simp only [results, Try.results50]; go_simp) rfl ?_
  exact ⟨rfl, ((Ext.refl w).alloc _).drewN _⟩

/-- whether what is done at a place is never behind -/
def Never (x y : Bool × Int) : Prop := x.2 ≤ y.2 ∧ (x.1 = true → y.1 = true)
instance (x y : Bool × Int) : Decidable (Never x y) := by unfold Never; exact inferInstance
def pathLeqT (La aa : Int) (l1 : List Int) (Lb ab : Int) (l2 : List Int) (d : Int) : Bool :=
  decide (0 ≤ d ∧ d ≤ 3 ∧ 0 ≤ La ∧ La ≤ d ∧ 0 ≤ Lb ∧ Lb ≤ d ∧ d - La + l1.length ≤ 3 ∧ d - La + l1.length = d - Lb + l2.length ∧ ∀ k : Nat, k < (d - La + l1.length).toNat + 1 → Never (placeT La aa l1 d k) (placeT Lb ab l2 d k))

set_option maxRecDepth 100000 in
set_option maxHeartbeats 1000000 in
theorem pleq_off (La aa Lb ab d : Int) (A1 A2 : Option Addr) (n1 n2 c1 c2 : Nat) (w : World) (hn1 : n1 ≤ 1000000) (hn2 : n2 ≤ 1000000)
    (h : ¬ (0 ≤ d ∧ d ≤ 3 ∧ 0 ≤ La ∧ La ≤ d ∧ 0 ≤ Lb ∧ Lb ≤ d ∧ d - La + n1 ≤ 3 ∧ d - La + n1 = d - Lb + n2)) :
    Calls Try.prog 27 #[.agg #[.int .i64 La, .int .u32 aa, .slice A1 n1 c1], .agg #[.int .i64 Lb, .int .u32 ab, .slice A2 n2 c2], .int .i64 d] w (fun e w' => e = .returned (.bool false) ∧ Ext w w') := by
  by_cases k1 : d < 0
  · go_enter Try.func27, Try.ntmps27
    go_wp2
    refine bodyPost_ret (v := .bool false) (by simp only [results, Try.results27]; go_simp) rfl ?_
    refine ⟨rfl, ?_⟩
    have e1 := Ext.refl w
    (repeat' (first | with_reducible exact e1 | with_reducible refine Ext.drew ?_ | with_reducible refine Ext.drewN ?_ _ | with_reducible refine Ext.alloc ?_ _ | with_reducible refine Ext.set ?_ ?_ _ | omega | (simp; done) | (simp; omega)))
  by_cases k2 : 3 < d
  · go_enter Try.func27, Try.ntmps27
    go_wp2
    refine bodyPost_ret (v := .bool false) (by simp only [results, Try.results27]; go_simp) rfl ?_
    refine ⟨rfl, ?_⟩
    have e1 := Ext.refl w
    (repeat' (first | with_reducible exact e1 | with_reducible refine Ext.drew ?_ | with_reducible refine Ext.drewN ?_ _ | with_reducible refine Ext.alloc ?_ _ | with_reducible refine Ext.set ?_ ?_ _ | omega | (simp; done) | (simp; omega)))
  by_cases k3 : La < 0
  · go_enter Try.func27, Try.ntmps27
    go_wp2
    refine bodyPost_ret (v := .bool false) (by simp only [results, Try.results27]; go_simp) rfl ?_
    refine ⟨rfl, ?_⟩
    have e1 := Ext.refl w
    (repeat' (first | with_reducible exact e1 | with_reducible refine Ext.drew ?_ | with_reducible refine Ext.drewN ?_ _ | with_reducible refine Ext.alloc ?_ _ | with_reducible refine Ext.set ?_ ?_ _ | omega | (simp; done) | (simp; omega)))
  by_cases k4 : d < La
  · go_enter Try.func27, Try.ntmps27
    go_wp2
    refine bodyPost_ret (v := .bool false) (by simp only [results, Try.results27]; go_simp) rfl ?_
    refine ⟨rfl, ?_⟩
    have e1 := Ext.refl w
    (repeat' (first | with_reducible exact e1 | with_reducible refine Ext.drew ?_ | with_reducible refine Ext.drewN ?_ _ | with_reducible refine Ext.alloc ?_ _ | with_reducible refine Ext.set ?_ ?_ _ | omega | (simp; done) | (simp; omega)))
  by_cases k5 : Lb < 0
  · go_enter Try.func27, Try.ntmps27
    go_wp2
    refine bodyPost_ret (v := .bool false) (by simp only [results, Try.results27]; go_simp) rfl ?_
    refine ⟨rfl, ?_⟩
    have e1 := Ext.refl w
    (repeat' (first | with_reducible exact e1 | with_reducible refine Ext.drew ?_ | with_reducible refine Ext.drewN ?_ _ | with_reducible refine Ext.alloc ?_ _ | with_reducible refine Ext.set ?_ ?_ _ | omega | (simp; done) | (simp; omega)))
  by_cases k6 : d < Lb
  · have q6 : (!decide (Lb ≤ d)) = true := by simp; omega
    go_enter Try.func27, Try.ntmps27
    go_wp2
    refine bodyPost_ret (v := .bool false) (by simp only [results, Try.results27]; go_simp) rfl ?_
    refine ⟨rfl, ?_⟩
    have e1 := Ext.refl w
    (repeat' (first | with_reducible exact e1 | with_reducible refine Ext.drew ?_ | with_reducible refine Ext.drewN ?_ _ | with_reducible refine Ext.alloc ?_ _ | with_reducible refine Ext.set ?_ ?_ _ | omega | (simp; done) | (simp; omega)))
  have q6 : (!decide (Lb ≤ d)) = false := by simp; omega
  have i1 : IntKind.i64.wrap (d - La) = d - La := IntWalk.i64_in _ (by omega)
  have i2 : IntKind.i64.wrap (d - La + n1) = d - La + n1 := IntWalk.i64_in _ (by omega)
  have i3 : IntKind.i64.wrap (d - Lb) = d - Lb := IntWalk.i64_in _ (by omega)
  have i4 : IntKind.i64.wrap (d - Lb + n2) = d - Lb + n2 := IntWalk.i64_in _ (by omega)
  by_cases k7 : 3 < d - La + n1
  · go_enter Try.func27, Try.ntmps27
    go_wp2
    refine bodyPost_ret (v := .bool false) (by simp only [results, Try.results27]; go_simp) rfl ?_
    refine ⟨rfl, ?_⟩
    have e1 := Ext.refl w
    (repeat' (first | with_reducible exact e1 | with_reducible refine Ext.drew ?_ | with_reducible refine Ext.drewN ?_ _ | with_reducible refine Ext.alloc ?_ _ | with_reducible refine Ext.set ?_ ?_ _ | omega | (simp; done) | (simp; omega)))
  have k8 : (d - La + n1 != d - Lb + n2) = true := by simp; omega
  clear h
  go_enter Try.func27, Try.ntmps27
  go_wp2
  refine bodyPost_ret (v := .bool false) (by simp only [results, Try.results27]; go_simp) rfl ?_
  refine ⟨rfl, ?_⟩
  have e1 := Ext.refl w
  (repeat' (first | with_reducible exact e1 | with_reducible refine Ext.drew ?_ | with_reducible refine Ext.drewN ?_ _ | with_reducible refine Ext.alloc ?_ _ | with_reducible refine Ext.set ?_ ?_ _ | omega | (simp; done) | (simp; omega)))
end Go.Proofs.Yteklohamkmiphaa
