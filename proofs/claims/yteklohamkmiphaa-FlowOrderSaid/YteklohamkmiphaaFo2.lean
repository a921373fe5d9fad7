/- The queue of least ways, plainly: the second bound, with the last part as a walk. The queue of least ways, plainly: numbers. The queue of least ways, plainly: what a graph of at most 60 nodes, edges and ways lets wait. The queue of least ways, plainly: the sum over a graph, and what waits at most. The queue of least ways, plainly: how many entries of two layers there are at most. The queue of least ways, plainly: how much waits at most. Regions that draw their order: (1) all operations only read, callees at most make new memory; (2) a fixed order serves every order. Slices of uint32: their elements. slices.Clone at counters, SameWords: what they answer. stamp.sum, at: what they answer. Conditions: each theorem states its own. -/
import Derived.Test.YteklohamkmiphaaFo1
import Derived.OrdersHeld
import Derived.Test.YteklohamkmiphaaChecked
namespace Go.Proofs.Yteklohamkmiphaa

section
variable {P W : Type} [DecidableEq P] [DecidableEq W] {N : Net P W}

def some1 {β : Type} (d : β) : List β → List β
  | [] => [d]
  | a :: l => a :: l
theorem mem_some1 {β : Type} {d x : β} {l : List β} (h : x ∈ l) : x ∈ some1 d l := by
  cases l with
  | nil => simp at h
  | cons a l => exact h
theorem head_some1 {β : Type} (d : β) (l : List β) : l.headD d ∈ some1 d l := by
  cases l <;> simp [some1]
theorem length_some1 {β : Type} (d : β) (l : List β) : (some1 d l).length = max 1 l.length := by
  cases l with
  | nil => rfl
  | cons a l => simp only [some1, List.length_cons]; omega

/-- what may be chosen at an output: where to, and, where that is single, by which way on -/
def Net.optO (N : Net P W) (ws : List W) (eds : List (P × P)) (fd : P → Option P) (o : P) : List (List (Mv P W)) :=
  (ws.filter (fun x => decide (N.kp x = 3) && decide (fd (N.win x) = some o))).map (fun x => [.e o (N.win x), .w x]) ++
  (eds.filter (fun e => decide (e.1 = o) && decide (fd e.2 = none) && ws.any (fun x => decide (N.kp x = 3) && decide (N.win x = e.2)))).map (fun e => [.e o e.2])
def Net.optQ (N : Net P W) (ws : List W) (q : P) : List (List (Mv P W)) := (ws.filter (fun x => decide (N.kp x = 3) && decide (N.win x = q))).map (fun x => [.w x])
def Net.cO (N : Net P W) (ws : List W) (eds : List (P × P)) (fd : P → Option P) (l : List (Mv P W)) (o : P) : List (Mv P W) :=
  match N.ch l o with
  | some (.e _ q) =>
    if fd q = none then [.e o q] else
    match N.ch l q with
    | some (.w x) => [.e o q, .w x]
    | _ => ((N.optO ws eds fd o).find? (fun c => decide (c.head? = some (.e o q)))).getD []
  | _ => (N.optO ws eds fd o).headD []
def Net.cQ (N : Net P W) (ws : List W) (l : List (Mv P W)) (q : P) : List (Mv P W) :=
  match N.ch l q with
  | some m => [m]
  | none => (N.optQ ws q).headD []

omit [DecidableEq W] in
theorem Net.ch_some (N : Net P W) : ∀ {l : List (Mv P W)} {p : P} {m : Mv P W}, N.ch l p = some m → ∃ t, (m :: t) <:+ l ∧ N.base 3 l <:+ t ∧ N.src m = p ∧ 3 ≤ N.kpm m
  | [], p, m, h => by simp [Net.ch] at h
  | n :: l, p, m, h => by
    simp only [Net.ch] at h
    split at h
    · rename_i k
      rw [N.base_ge l k]
      split at h
      · rename_i e
        injection h with h; subst h
        exact ⟨l, List.suffix_refl _, N.base_suffix 3 l, e, k⟩
      · obtain ⟨t, a, b, c, d⟩ := ch_some N h
        exact ⟨t, a.trans (List.suffix_cons _ _), b, c, d⟩
    · simp at h

/-- what is known of a run's edges, and of the inputs that but one leads to -/
structure Run.Edges (R : Run N) (ws : List W) (eds : List (P × P)) (outs qs : List P) (fd : P → Option P) (inp : P → Bool) : Prop where
  wm : ∀ x t, R.E (.w x :: t) → x ∈ ws
  em : ∀ o q t, R.E (.e o q :: t) → (o, q) ∈ eds
  eo : ∀ o q, (o, q) ∈ eds → o ∈ outs ∧ inp o = false
  wi : ∀ x, x ∈ ws → inp (N.win x) = true ∧ (fd (N.win x) = none → N.win x ∈ qs)
  sg : ∀ o q, fd q = some o → R.Single o q

/-- of the last part each edge leads to where one may go on -/
def Net.onward (N : Net P W) (ws : List W) (l : List (Mv P W)) : Prop := ∀ o q t, (.e o q :: t) <:+ l → N.base 3 l <:+ t → ∃ x, x ∈ ws ∧ N.kp x = 3 ∧ N.win x = q

variable {R : Run N} {ws : List W} {keys : List P} {key : W → P} {eds : List (P × P)} {outs qs : List P} {fd : P → Option P} {inp : P → Bool}

omit [DecidableEq P] [DecidableEq W] in
theorem Run.Edges.feed (D : R.Edges ws eds outs qs fd inp) {o o1 q : P} {t : List (Mv P W)} (h : R.E (.e o q :: t)) (hf : fd q = some o1) : o1 = o := by
  have := (D.sg o1 q hf).2 _ t h rfl
  injection this with a _; exact a.symm

theorem Run.Edges.cO_head (D : R.Edges ws eds outs qs fd inp) {l : List (Mv P W)} (hl : R.E l) (g : N.onward ws l) {o q : P} (h : N.ch l o = some (.e o q)) :
    (N.cO ws eds fd l o).head? = some (.e o q) ∧ N.cO ws eds fd l o ∈ some1 [] (N.optO ws eds fd o) := by
  obtain ⟨t, h1, h2, _, _⟩ := N.ch_some h
  have et := (R.suffix hl h1).1
  obtain ⟨x, x1, x2, x3⟩ := g o q t h1 h2
  unfold Net.cO
  rw [h]
  by_cases hf : fd q = none
  · simp only [if_pos hf]
    refine ⟨rfl, mem_some1 (List.mem_append_right _ (List.mem_map.2 ⟨(o, q), List.mem_filter.2 ⟨D.em o q t et, ?_⟩, rfl⟩))⟩
    simp only [hf, decide_true, Bool.true_and, List.any_eq_true]
    exact ⟨x, x1, by simp [x2, x3]⟩
  · have ho : fd q = some o := by
      cases hc : fd q with
      | none => exact absurd hc hf
      | some o1 => rw [D.feed et hc]
    simp only [if_neg hf]
    have mem : ∀ y, y ∈ ws → N.kp y = 3 → N.win y = q → ([.e o q, .w y] : List (Mv P W)) ∈ N.optO ws eds fd o := by
      intro y y1 y2 y3
      refine List.mem_append_left _ (List.mem_map.2 ⟨y, List.mem_filter.2 ⟨y1, ?_⟩, by rw [y3]⟩)
      simp [y2, y3, ho]
    split
    · rename_i y hy
      obtain ⟨s, s1, s2, s3, s4⟩ := N.ch_some hy
      have es := (R.suffix hl s1).1
      refine ⟨rfl, mem_some1 ?_⟩
      have k3 := (R.kw y s es).2
      simp only [Net.kpm] at s4
      simp only [Net.src] at s3
      exact mem y (D.wm y s es) (by omega) s3
    · cases hc : (N.optO ws eds fd o).find? (fun c => decide (c.head? = some (.e o q))) with
      | none =>
        have := List.find?_eq_none.1 hc _ (mem x x1 x2 x3)
        simp at this
      | some c =>
        have a := List.find?_some hc
        simp at a
        exact ⟨a, mem_some1 (List.mem_of_find?_eq_some hc)⟩

theorem Run.Edges.cO_mem (D : R.Edges ws eds outs qs fd inp) {l : List (Mv P W)} (hl : R.E l) (g : N.onward ws l) (o : P) : N.cO ws eds fd l o ∈ some1 [] (N.optO ws eds fd o) := by
  cases hc : N.ch l o with
  | none => unfold Net.cO; rw [hc]; exact head_some1 _ _
  | some m =>
    cases m with
    | w x => unfold Net.cO; rw [hc]; exact head_some1 _ _
    | e o' q =>
      obtain ⟨t, _, _, h3, _⟩ := N.ch_some hc
      simp only [Net.src] at h3
      subst h3
      exact (D.cO_head hl g hc).2

omit [DecidableEq W] in
theorem Run.Edges.cQ_mem (D : R.Edges ws eds outs qs fd inp) {l : List (Mv P W)} (hl : R.E l) {q : P} (hq : inp q = true) : N.cQ ws l q ∈ some1 [] (N.optQ ws q) := by
  unfold Net.cQ
  cases hc : N.ch l q with
  | none => exact head_some1 _ _
  | some m =>
    obtain ⟨t, h1, _, h3, h4⟩ := N.ch_some hc
    have et := (R.suffix hl h1).1
    cases m with
    | e o q' =>
      simp only [Net.src] at h3
      subst h3
      have := (D.eo _ _ (D.em _ _ _ et)).2
      rw [this] at hq; simp at hq
    | w x =>
      simp only [Net.src] at h3
      simp only [Net.kpm] at h4
      refine mem_some1 (List.mem_map.2 ⟨x, List.mem_filter.2 ⟨D.wm x t et, ?_⟩, rfl⟩)
      have := (R.kw x t et).2
      simp [show N.kp x = 3 by omega, h3]

/-- the second bound's factors -/
def Net.fY (N : Net P W) (ws : List W) (key : W → P) (keys : List P) (eds : List (P × P)) (fd : P → Option P) (outs qs : List P) : List ((List (Mv P W) → List (Mv P W)) × List (List (Mv P W))) :=
  (N.root, N.rootO ws) :: (keys.flatMap (fun k => [(N.sig key 1 k, N.sigO ws key 1 k), (N.sig key 2 k, N.sigO ws key 2 k)]) ++ (outs.map (fun o => ((fun l => N.cO ws eds fd l o), some1 [] (N.optO ws eds fd o))) ++ qs.map (fun q => ((fun l => N.cQ ws l q), some1 [] (N.optQ ws q)))))

theorem Run.Edges.boundY (K : R.Ways ws keys key) (D : R.Edges ws eds outs qs fd inp) (hq : ∀ q ∈ qs, inp q = true) (n : Nat) (L : List (List (Mv P W))) (nd : L.Nodup) (h : ∀ l ∈ L, R.E l ∧ N.onward ws l ∧ l.length = n) :
    L.length ≤ prodL ((N.fY ws key keys eds fd outs qs).map fun f => f.2.length) := by
  refine count_prod _ L nd (fun l hl f hf => ?_) fun l hl m hm e => ?_
  · obtain ⟨el, gl, _⟩ := h l hl
    rcases List.mem_cons.1 hf with rfl | hf
    · exact K.root_mem el
    · rcases List.mem_append.1 hf with hf | hf
      · obtain ⟨k, _, hf⟩ := List.mem_flatMap.1 hf
        simp only [List.mem_cons, List.not_mem_nil, or_false] at hf
        rcases hf with rfl | rfl
        · exact K.sig_mem (by omega) k el
        · exact K.sig_mem (by omega) k el
      · rcases List.mem_append.1 hf with hf | hf
        · obtain ⟨o, _, rfl⟩ := List.mem_map.1 hf
          exact D.cO_mem el gl o
        · obtain ⟨q, q1, rfl⟩ := List.mem_map.1 hf
          exact D.cQ_mem el (hq q q1)
  · obtain ⟨el, gl, nl⟩ := h l hl
    obtain ⟨em, gm, nm⟩ := h m hm
    have r := root_eq (e _ List.mem_cons_self)
    have s : ∀ j, 1 ≤ j → j < 3 → ∀ x, x ∈ N.S j l ↔ x ∈ N.S j m := by
      intro j j1 j3
      refine K.sig_eq (by omega) el em fun k hk => ?_
      have g : ∀ f, f ∈ [(N.sig key 1 k, N.sigO ws key 1 k), (N.sig key 2 k, N.sigO ws key 2 k)] → f.1 l = f.1 m := fun f hf => e f (List.mem_cons_of_mem _ (List.mem_append_left _ (List.mem_flatMap.2 ⟨k, hk, hf⟩)))
      have : j = 1 ∨ j = 2 := by omega
      rcases this with rfl | rfl
      · exact g (N.sig key 1 k, N.sigO ws key 1 k) (by simp)
      · exact g (N.sig key 2 k, N.sigO ws key 2 k) (by simp)
    have b := R.same_base el em r 3 (by omega) (by omega) s
    have eO : ∀ o, o ∈ outs → N.cO ws eds fd l o = N.cO ws eds fd m o := fun o ho => e ((fun l => N.cO ws eds fd l o), some1 [] (N.optO ws eds fd o)) (List.mem_cons_of_mem _ (List.mem_append_right _ (List.mem_append_left _ (List.mem_map.2 ⟨o, ho, rfl⟩))))
    have eQ : ∀ q, q ∈ qs → N.cQ ws l q = N.cQ ws m q := fun q h => e ((fun l => N.cQ ws l q), some1 [] (N.optQ ws q)) (List.mem_cons_of_mem _ (List.mem_append_right _ (List.mem_append_right _ (List.mem_map.2 ⟨q, h, rfl⟩))))
    refine Classical.byContradiction fun ne => ?_
    obtain ⟨a, c, t, h1, h2, h3, h4⟩ := split_at (z := N.base 3 l) (N.base_suffix 3 l) (b ▸ N.base_suffix 3 m) (nl.trans nm.symm) ne
    have h4' : N.base 3 m <:+ t := b ▸ h4
    have ca := R.ch_at el h1 h4
    have cc := R.ch_at em h2 h4'
    have ea := (R.suffix el h1).1
    have ec := (R.suffix em h2).1
    have sa := (R.tl _ _ ea).2.2
    have sc := (R.tl _ _ ec).2.2
    cases a with
    | e o q =>
      have mo := D.eo _ _ (D.em _ _ _ ea)
      simp only [Net.src] at sa
      subst sa
      cases c with
      | e o' q' =>
        simp only [Net.src] at sc
        subst sc
        have p1 := (D.cO_head el gl ca).1
        have p2 := (D.cO_head em gm cc).1
        rw [eO _ mo.1, p2] at p1
        exact h3 (Option.some.inj p1).symm
      | w x =>
        simp only [Net.src] at sc
        have := (D.wi x (D.wm x t ec)).1
        rw [sc, mo.2] at this; simp at this
    | w x =>
      have mx := D.wi x (D.wm x t ea)
      simp only [Net.src] at sa
      cases c with
      | e o q =>
        simp only [Net.src] at sc
        have := (D.eo _ _ (D.em _ _ _ ec)).2
        rw [sc, ← sa, mx.1] at this; simp at this
      | w y =>
        rw [← sa] at ca cc
        cases hf : fd (N.win x) with
        | none =>
          have p := eQ _ (mx.2 hf)
          unfold Net.cQ at p
          rw [ca, cc] at p
          simp only [List.cons.injEq, and_true] at p
          exact h3 p
        | some o =>
          have sg := D.sg o _ hf
          have et := (R.tl _ _ ea).1
          cases t with
          | nil => exact sg.1 (by rw [sa]; rfl)
          | cons n t1 =>
            have en := sg.2 n t1 et (by rw [← sa])
            subst en
            have z1 : N.base 3 l <:+ t1 := by
              rcases List.suffix_cons_iff.1 h4 with k | k
              · exfalso
                have i := N.base_base 3 3 (Nat.le_refl _) l
                rw [k, N.base_e o _ t1 (by omega)] at i
                have := (N.base_suffix 3 t1).length_le
                rw [i] at this; simp at this; omega
              · exact k
            have z2 : N.base 3 m <:+ t1 := b ▸ z1
            have ca1 := R.ch_at el ((List.suffix_cons _ _).trans h1) z1
            have cc1 := R.ch_at em ((List.suffix_cons _ _).trans h2) z2
            have so := (R.tl _ _ et).2.2
            simp only [Net.src] at so
            rw [← so] at ca1 cc1
            have p := eO o (D.eo _ _ (D.em _ _ _ et)).1
            unfold Net.cO at p
            simp only [ca1, cc1, hf, ca, cc] at p
            simp only [reduceCtorEq, if_false, List.cons.injEq, and_true, true_and] at p
            exact h3 p
end
end Go.Proofs.Yteklohamkmiphaa
namespace Go.Proofs.Yteklohamkmiphaa

/-- two hundred times the logarithm, at least -/
def lg (n : Nat) : Nat := match n with
  | 0 => 0 | 1 => 0 | 2 => 200 | 3 => 317 | 4 => 400 | 5 => 465 | 6 => 517 | 7 => 562 | n + 8 => 600 + 36 * n

theorem pw {a b c n : Nat} (e : n = b + c) (h : a ≤ 2 ^ b * 2 ^ c) : a ≤ 2 ^ n := by rw [e, Nat.pow_add]; exact h
theorem pw3 {a b c d n : Nat} (e : n = b + c + d) (h : a ≤ 2 ^ b * 2 ^ c * 2 ^ d) : a ≤ 2 ^ n := by rw [e, Nat.pow_add, Nat.pow_add]; exact h

theorem pow_step (n : Nat) (h : 8 ≤ n) : (n + 1) ^ 200 ≤ 2 ^ 36 * n ^ 200 := by
  have e : (9 : Nat) ^ 50 ≤ 2 ^ 9 * 8 ^ 50 := by decide
  have a : (8 * (n + 1)) ^ 50 ≤ (9 * n) ^ 50 := Nat.pow_le_pow_left (by omega) _
  rw [Nat.mul_pow, Nat.mul_pow] at a
  have b : 8 ^ 50 * (n + 1) ^ 50 ≤ 8 ^ 50 * (2 ^ 9 * n ^ 50) := by
    refine Nat.le_trans a ?_
    rw [← Nat.mul_assoc, Nat.mul_comm (8 ^ 50)]
    exact Nat.mul_le_mul_right _ e
  have c : (n + 1) ^ 50 ≤ 2 ^ 9 * n ^ 50 := Nat.le_of_mul_le_mul_left b (by decide)
  have d := Nat.pow_le_pow_left c 4
  rw [Nat.mul_pow, ← Nat.pow_mul, ← Nat.pow_mul, ← Nat.pow_mul] at d
  exact d

theorem lg_up : ∀ n k, k = 600 + 36 * n → (n + 8) ^ 200 ≤ 2 ^ k
  | 0, _, h => pw3 (b := 200) (c := 200) (d := 200) (by omega) (by decide)
  | n + 1, k, h => by
    have a := pow_step (n + 8) (by omega)
    have b := Nat.mul_le_mul_left (2 ^ 36) (lg_up n _ rfl)
    rw [← Nat.pow_add] at b
    have : 36 + (600 + 36 * n) = k := by omega
    rw [this] at b
    have e : n + 1 + 8 = n + 8 + 1 := by omega
    rw [e]
    exact Nat.le_trans a b

theorem lg1 : lg 1 = 0 := rfl
theorem lg_8 (n : Nat) (h : 8 ≤ n) : lg n = 600 + 36 * (n - 8) := by
  obtain ⟨m, rfl⟩ : ∃ m, n = m + 8 := ⟨n - 8, by omega⟩
  simp [lg]

/-- few, or a line -/
theorem lg_cases (n : Nat) : (n = 0 ∧ lg n = 0) ∨ (n = 1 ∧ lg n = 0) ∨ (n = 2 ∧ lg n = 200) ∨ (n = 3 ∧ lg n = 317) ∨ (n = 4 ∧ lg n = 400) ∨ (n = 5 ∧ lg n = 465) ∨ (n = 6 ∧ lg n = 517) ∨ (n = 7 ∧ lg n = 562) ∨ (8 ≤ n ∧ lg n = 600 + 36 * (n - 8)) := by
  by_cases h : 8 ≤ n
  · have := lg_8 n h; omega
  · have : n = 0 ∨ n = 1 ∨ n = 2 ∨ n = 3 ∨ n = 4 ∨ n = 5 ∨ n = 6 ∨ n = 7 := by omega
    rcases this with rfl | rfl | rfl | rfl | rfl | rfl | rfl | rfl <;> simp [lg]

theorem lg_ge (n : Nat) (h : 1 ≤ n) : n ^ 200 ≤ 2 ^ lg n := by
  rcases lg_cases n with ⟨e, g⟩ | ⟨e, g⟩ | ⟨e, g⟩ | ⟨e, g⟩ | ⟨e, g⟩ | ⟨e, g⟩ | ⟨e, g⟩ | ⟨e, g⟩ | ⟨e, g⟩
  · omega
  · subst e; rw [Nat.one_pow]; exact Nat.one_le_two_pow
  · rw [e] at g ⊢; rw [g]; exact Nat.le_refl _
  · rw [e] at g ⊢; exact pw (b := 200) (c := 117) g (by decide)
  · rw [e] at g ⊢; exact pw (b := 200) (c := 200) g (by decide)
  · rw [e] at g ⊢; exact pw3 (b := 200) (c := 200) (d := 65) g (by decide)
  · rw [e] at g ⊢; exact pw3 (b := 200) (c := 200) (d := 117) g (by decide)
  · rw [e] at g ⊢; exact pw3 (b := 200) (c := 200) (d := 162) g (by decide)
  · obtain ⟨m, rfl⟩ : ∃ m, n = m + 8 := ⟨n - 8, by omega⟩
    rw [g]; exact lg_up m _ (by omega)

theorem lg_one (b : Nat) : 4 * lg (1 + b) ≤ 515 * b + 285 := by
  have := lg_cases (1 + b); omega

theorem lg_w (w : Nat) : 3 * lg (max 1 w) ≤ 318 * w := by
  have := lg_cases (max 1 w); omega

theorem lg_mix (b w : Nat) : lg (1 + b) + 3 * lg (max 1 (b + w)) ≤ 515 * b + 318 * w + 9 := by
  have h1 := lg_cases (1 + b)
  have h2 := lg_cases (max 1 (b + w))
  omega

theorem lg_mix4 (b w : Nat) : lg (1 + b) + 3 * lg (max 1 (b + w)) + lg (max 1 (b + w)) ≤ 515 * b + 318 * w + 469 := by
  have h1 := lg_cases (1 + b)
  have h2 := lg_cases (max 1 (b + w))
  omega

/-- where single inputs and others are fed without ways on -/
theorem lg_dead (a m : Nat) : 4 * lg (1 + a + m) ≤ 1109 + 579 * (a - 1) + 262 * m := by
  have h1 := lg_cases (1 + a + m)
  omega
end Go.Proofs.Yteklohamkmiphaa
namespace Go.Proofs.Yteklohamkmiphaa

section sums
variable {α β : Type}
def sumOn (f : α → Nat) (l : List α) : Nat := (l.map f).sum
theorem sumOn_nil (f : α → Nat) : sumOn f [] = 0 := rfl
theorem sumOn_cons (f : α → Nat) (a : α) (l : List α) : sumOn f (a :: l) = f a + sumOn f l := by simp [sumOn]
theorem sumOn_append (f : α → Nat) (a b : List α) : sumOn f (a ++ b) = sumOn f a + sumOn f b := by simp [sumOn]
theorem sumOn_add (f g : α → Nat) (l : List α) : sumOn (fun a => f a + g a) l = sumOn f l + sumOn g l := by
  induction l with
  | nil => rfl
  | cons a l ih => simp only [sumOn_cons, ih]; omega
theorem sumOn_mul (c : Nat) (f : α → Nat) (l : List α) : sumOn (fun a => c * f a) l = c * sumOn f l := by
  induction l with
  | nil => rfl
  | cons a l ih => simp only [sumOn_cons, ih, Nat.mul_add]
theorem sumOn_le {f g : α → Nat} {l : List α} (h : ∀ a ∈ l, f a ≤ g a) : sumOn f l ≤ sumOn g l := by
  induction l with
  | nil => exact Nat.le_refl _
  | cons a l ih =>
    simp only [sumOn_cons]
    exact Nat.add_le_add (h a List.mem_cons_self) (ih fun x hx => h x (List.mem_cons_of_mem _ hx))
/-- with one that is given more -/
theorem sumOn_one {f g : α → Nat} {l : List α} (h : ∀ a ∈ l, f a ≤ g a) {o : α} (ho : o ∈ l) {x c : Nat} (hx : f o + x ≤ g o + c) : sumOn f l + x ≤ sumOn g l + c := by
  induction l with
  | nil => simp at ho
  | cons a l ih =>
    simp only [sumOn_cons]
    rcases List.mem_cons.1 ho with rfl | ho
    · have := sumOn_le (fun x hx => h x (List.mem_cons_of_mem _ hx)); omega
    · have := ih (fun x hx => h x (List.mem_cons_of_mem _ hx)) ho
      have := h a List.mem_cons_self
      omega

variable [DecidableEq β]
theorem sumOn_filter (p : α → Bool) (g : α → β) : ∀ (keys : List β) (L : List α), keys.Nodup → sumOn (fun k => (L.filter (fun x => p x && decide (g x = k))).length) keys ≤ (L.filter p).length
  | [], L, _ => by simp [sumOn]
  | k :: keys, L, nd => by
    have nd := List.nodup_cons.1 nd
    have ih := sumOn_filter (fun x => p x && ! decide (g x = k)) g keys L nd.2
    have e : sumOn (fun k' => (L.filter (fun x => (p x && ! decide (g x = k)) && decide (g x = k'))).length) keys = sumOn (fun k' => (L.filter (fun x => p x && decide (g x = k'))).length) keys := by
      unfold sumOn
      congr 1
      refine List.map_congr_left fun k' hk => ?_
      congr 1
      refine List.filter_congr fun x _ => ?_
      by_cases h : g x = k'
      · have : ¬ g x = k := fun e => nd.1 (by rw [← e, h]; exact hk)
        simp [h]; intro _ e; exact this (by rw [h, e])
      · simp [h]
    rw [e] at ih
    rw [sumOn_cons]
    have h1 := List.length_eq_countP_add_countP (l := L.filter p) (fun x => decide (g x = k))
    rw [List.countP_eq_length_filter, List.countP_eq_length_filter, List.filter_filter, List.filter_filter] at h1
    have e1 : (L.filter (fun x => decide (g x = k) && p x)).length = (L.filter (fun x => p x && decide (g x = k))).length := by
      congr 1; exact List.filter_congr fun x _ => Bool.and_comm _ _
    have e2 : (L.filter (fun x => decide (¬ decide (g x = k) = true) && p x)).length = (L.filter (fun x => p x && ! decide (g x = k))).length := by
      congr 1; refine List.filter_congr fun x _ => ?_; by_cases h : g x = k <;> simp [h]
    rw [e1, e2] at h1
    omega

theorem filter_sumOn (p : α → Bool) (g : α → β) (keys : List β) : ∀ L : List α, (∀ x ∈ L, p x = true → g x ∈ keys) → (L.filter p).length ≤ sumOn (fun k => (L.filter (fun x => p x && decide (g x = k))).length) keys
  | [], _ => by simp
  | a :: L, h => by
    have ih := filter_sumOn p g keys L (fun x hx => h x (List.mem_cons_of_mem _ hx))
    by_cases hp : p a = true
    · have hm := h a List.mem_cons_self hp
      have := sumOn_one (f := fun k => (L.filter (fun x => p x && decide (g x = k))).length) (g := fun k => ((a :: L).filter (fun x => p x && decide (g x = k))).length) (l := keys)
        (fun k _ => by rw [List.filter_cons]; split <;> simp) hm (x := 1) (c := 0) (by simp [hp])
      rw [List.filter_cons_of_pos hp, List.length_cons]
      omega
    · have := sumOn_le (f := fun k => (L.filter (fun x => p x && decide (g x = k))).length) (g := fun k => ((a :: L).filter (fun x => p x && decide (g x = k))).length) (l := keys)
        (fun k _ => by rw [List.filter_cons]; split <;> simp)
      rw [List.filter_cons_of_neg hp]
      omega

theorem filter_le_filter {p q : α → Bool} {L : List α} (h : ∀ x ∈ L, p x = true → q x = true) : (L.filter p).length ≤ (L.filter q).length := by
  rw [← List.countP_eq_length_filter, ← List.countP_eq_length_filter]
  exact List.countP_mono_left h
theorem filter_or {p q r : α → Bool} {L : List α} (h : ∀ x ∈ L, ¬ (p x = true ∧ q x = true)) (g : ∀ x ∈ L, p x = true ∨ q x = true → r x = true) : (L.filter p).length + (L.filter q).length ≤ (L.filter r).length := by
  induction L with
  | nil => simp
  | cons a L ih =>
    have := ih (fun x hx => h x (List.mem_cons_of_mem _ hx)) (fun x hx => g x (List.mem_cons_of_mem _ hx))
    have h1 := h a List.mem_cons_self
    have g1 := g a List.mem_cons_self
    simp only [List.filter_cons]
    cases hp : p a <;> cases hq : q a <;> cases hr : r a <;> simp [hp, hq, hr] at h1 g1 ⊢ <;> omega
end sums

theorem prodL_lg : ∀ l : List Nat, (∀ x ∈ l, 1 ≤ x) → prodL l ^ 200 ≤ 2 ^ sumOn lg l
  | [], _ => by simp [prodL, sumOn]
  | a :: l, h => by
    have ih := prodL_lg l (fun x hx => h x (List.mem_cons_of_mem _ hx))
    rw [prodL, Nat.mul_pow, sumOn_cons, Nat.pow_add]
    exact Nat.mul_le_mul (lg_ge a (h a List.mem_cons_self)) ih

section
variable {P W : Type} [DecidableEq P] {N : Net P W}

/-- a graph's lists, and what they come to -/
structure Cost (N : Net P W) (ws : List W) (eds : List (P × P)) (outs qs : List P) (fd : P → Option P) (inp : P → Bool) (nodes : Nat) : Prop where
  no : outs.Nodup
  nq : qs.Nodup
  oi : ∀ o, o ∈ outs → inp o = false
  qi : ∀ q, q ∈ qs → inp q = true
  eo : ∀ e, e ∈ eds → e.1 ∈ outs
  en : ∀ e, e ∈ eds → fd e.2 = none → e.2 ∈ qs
  fs : ∀ q o, fd q = some o → (o, q) ∈ eds ∧ inp o = false
  fm : ∀ q, q ∈ qs → fd q = none ∧ (q = N.start ∨ 2 ≤ (eds.filter (fun e => decide (e.2 = q))).length)
  wi : ∀ x, x ∈ ws → inp (N.win x) = true ∧ (fd (N.win x) = none → N.win x ∈ qs)
  cost : ws.length + eds.length + nodes ≤ 60
  port : (eds.filter (fun e => ! decide (fd e.2 = none))).length + qs.length ≤ 8 * nodes

def keyOf (N : Net P W) (fd : P → Option P) (x : W) : P := (fd (N.win x)).getD (N.win x)
def bOf (N : Net P W) (ws : List W) (fd : P → Option P) (i : Nat) (k : P) : Nat := (ws.filter (fun x => decide (N.kp x = i) && decide (keyOf N fd x = k))).length
def has3 (N : Net P W) (ws : List W) (q : P) : Bool := ws.any (fun x => decide (N.kp x = 3) && decide (N.win x = q))
def d1Of (eds : List (P × P)) (fd : P → Option P) (o : P) : Nat := (eds.filter (fun e => ! decide (fd e.2 = none) && decide (e.1 = o))).length
def wOf (N : Net P W) (ws : List W) (eds : List (P × P)) (fd : P → Option P) (o : P) : Nat := (eds.filter (fun e => (decide (fd e.2 = none) && has3 N ws e.2) && decide (e.1 = o))).length
def mOf (N : Net P W) (ws : List W) (eds : List (P × P)) (fd : P → Option P) (o : P) : Nat := (eds.filter (fun e => (decide (fd e.2 = none) && ! has3 N ws e.2) && decide (e.1 = o))).length
def eOf (eds : List (P × P)) (q : P) : Nat := (eds.filter (fun e => decide (e.2 = q))).length

variable {ws : List W} {eds : List (P × P)} {outs qs : List P} {fd : P → Option P} {inp : P → Bool} {nodes : Nat}

theorem Cost.key_o (C : Cost N ws eds outs qs fd inp nodes) {o : P} (ho : o ∈ outs) {x : W} (hx : x ∈ ws) : keyOf N fd x = o ↔ fd (N.win x) = some o := by
  unfold keyOf
  cases hf : fd (N.win x) with
  | none =>
    simp only [Option.getD_none, reduceCtorEq, iff_false]
    intro e
    have a := (C.wi x hx).1
    rw [e, C.oi o ho] at a; simp at a
  | some o1 => simp
theorem Cost.key_q (C : Cost N ws eds outs qs fd inp nodes) {q : P} (hq : q ∈ qs) {x : W} (_hx : x ∈ ws) : keyOf N fd x = q ↔ N.win x = q := by
  unfold keyOf
  cases hf : fd (N.win x) with
  | none => simp
  | some o =>
    simp only [Option.getD_some]
    constructor
    · intro e
      have a := (C.fs _ _ hf).2
      rw [e, C.qi q hq] at a; simp at a
    · intro e
      rw [e, (C.fm q hq).1] at hf; simp at hf

theorem Cost.optO_len (C : Cost N ws eds outs qs fd inp nodes) {o : P} (ho : o ∈ outs) : (N.optO ws eds fd o).length = bOf N ws fd 3 o + wOf N ws eds fd o := by
  unfold Net.optO bOf wOf
  rw [List.length_append, List.length_map, List.length_map]
  congr 1
  · congr 1
    refine List.filter_congr fun x hx => ?_
    have := C.key_o ho hx
    by_cases h : fd (N.win x) = some o
    · simp [h, this.2 h]
    · have h2 : ¬ keyOf N fd x = o := fun e => h (this.1 e)
      simp [h, h2]
  · congr 1
    refine List.filter_congr fun e _ => ?_
    unfold has3
    exact (show ∀ a b c : Bool, (a && b && c) = ((b && c) && a) by decide) _ _ _

theorem Cost.optQ_len (C : Cost N ws eds outs qs fd inp nodes) {q : P} (hq : q ∈ qs) : (N.optQ ws q).length = bOf N ws fd 3 q := by
  unfold Net.optQ bOf
  rw [List.length_map]
  congr 1
  refine List.filter_congr fun x hx => ?_
  have := C.key_q hq hx
  by_cases h : N.win x = q
  · simp [h, this.2 h]
  · have h2 : ¬ keyOf N fd x = q := fun e => h (this.1 e)
    simp [h, h2]

theorem Cost.has_b (C : Cost N ws eds outs qs fd inp nodes) {q : P} (hq : q ∈ qs) (h : has3 N ws q = true) : 1 ≤ bOf N ws fd 3 q := by
  unfold has3 at h
  obtain ⟨x, x1, x2⟩ := List.any_eq_true.1 h
  simp at x2
  unfold bOf
  refine List.length_pos_iff.2 (List.ne_nil_of_mem (a := x) (List.mem_filter.2 ⟨x1, ?_⟩))
  simp [x2.1, (C.key_q hq x1).2 x2.2]

theorem Cost.b_zero (C : Cost N ws eds outs qs fd inp nodes) {o : P} (ho : o ∈ outs) (h : d1Of eds fd o = 0) (i : Nat) : bOf N ws fd i o = 0 := by
  unfold bOf
  rw [List.length_eq_zero_iff, List.filter_eq_nil_iff]
  intro x hx e
  simp at e
  have hf := (C.key_o ho hx).1 e.2
  have he := (C.fs _ _ hf).1
  unfold d1Of at h
  rw [List.length_eq_zero_iff, List.filter_eq_nil_iff] at h
  exact h _ he (by simp [hf])

def gO (N : Net P W) (ws : List W) (eds : List (P × P)) (fd : P → Option P) (o : P) : Nat :=
  4 * lg (1 + bOf N ws fd 1 o) + 4 * lg (1 + bOf N ws fd 2 o) + (lg (1 + bOf N ws fd 3 o) + 3 * lg (max 1 (bOf N ws fd 3 o + wOf N ws eds fd o)))
def gQ (N : Net P W) (ws : List W) (fd : P → Option P) (q : P) : Nat :=
  4 * lg (1 + bOf N ws fd 1 q) + 4 * lg (1 + bOf N ws fd 2 q) + (lg (1 + bOf N ws fd 3 q) + 3 * lg (max 1 (bOf N ws fd 3 q)))
def hO (N : Net P W) (ws : List W) (eds : List (P × P)) (fd : P → Option P) (o : P) : Nat :=
  515 * bOf N ws fd 1 o + 515 * bOf N ws fd 2 o + 515 * bOf N ws fd 3 o + 318 * wOf N ws eds fd o + 262 * mOf N ws eds fd o + 579 * d1Of eds fd o

theorem Cost.out_le (C : Cost N ws eds outs qs fd inp nodes) {o : P} (ho : o ∈ outs) : gO N ws eds fd o ≤ hO N ws eds fd o := by
  unfold gO hO
  have a1 := lg_one (bOf N ws fd 1 o)
  have a2 := lg_one (bOf N ws fd 2 o)
  have a3 := lg_mix (bOf N ws fd 3 o) (wOf N ws eds fd o)
  by_cases h : d1Of eds fd o = 0
  · have b1 := C.b_zero ho h 1
    have b2 := C.b_zero ho h 2
    have b3 := C.b_zero ho h 3
    have a4 := lg_w (wOf N ws eds fd o)
    rw [b1, b2, b3]
    simp only [Nat.add_zero, Nat.zero_add, lg1]
    omega
  · omega
/-- an output with as many targets from which nothing leads on -/
theorem Cost.out_dead (C : Cost N ws eds outs qs fd inp nodes) {o : P} (ho : o ∈ outs) : gO N ws eds fd o + 4 * lg (1 + d1Of eds fd o + mOf N ws eds fd o) ≤ hO N ws eds fd o + 1109 := by
  unfold gO hO
  have a1 := lg_one (bOf N ws fd 1 o)
  have a2 := lg_one (bOf N ws fd 2 o)
  have a3 := lg_mix (bOf N ws fd 3 o) (wOf N ws eds fd o)
  have a5 := lg_dead (d1Of eds fd o) (mOf N ws eds fd o)
  by_cases h : d1Of eds fd o = 0
  · have b1 := C.b_zero ho h 1
    have b2 := C.b_zero ho h 2
    have b3 := C.b_zero ho h 3
    have a4 := lg_w (wOf N ws eds fd o)
    rw [b1, b2, b3]
    simp only [Nat.add_zero, Nat.zero_add, lg1]
    omega
  · omega
/-- an output with as many steps on -/
theorem Cost.out_many (C : Cost N ws eds outs qs fd inp nodes) {o : P} (ho : o ∈ outs) : gO N ws eds fd o + lg (max 1 (bOf N ws fd 3 o + wOf N ws eds fd o)) ≤ hO N ws eds fd o + 469 := by
  unfold gO hO
  have a1 := lg_one (bOf N ws fd 1 o)
  have a2 := lg_one (bOf N ws fd 2 o)
  have a3 := lg_mix4 (bOf N ws fd 3 o) (wOf N ws eds fd o)
  by_cases h : d1Of eds fd o = 0
  · have b1 := C.b_zero ho h 1
    have b2 := C.b_zero ho h 2
    have b3 := C.b_zero ho h 3
    rw [b1, b2, b3]
    rw [b3] at a3
    simp only [Nat.add_zero, Nat.zero_add, lg1] at a3 ⊢
    omega
  · omega

def hQ (N : Net P W) (ws : List W) (eds : List (P × P)) (fd : P → Option P) (q : P) : Nat :=
  515 * bOf N ws fd 1 q + 515 * bOf N ws fd 2 q + 515 * bOf N ws fd 3 q + 515 * eOf eds q + 64
def tQ (N : Net P W) (ws : List W) (eds : List (P × P)) (q : P) : Nat := if has3 N ws q = true then 318 * eOf eds q else 262 * eOf eds q

theorem Cost.in_le (C : Cost N ws eds outs qs fd inp nodes) {q : P} (hq : q ∈ qs) : gQ N ws fd q + tQ N ws eds q ≤ hQ N ws eds fd q + (if q = N.start then 506 else 0) := by
  unfold gQ tQ hQ
  have a1 := lg_one (bOf N ws fd 1 q)
  have a2 := lg_one (bOf N ws fd 2 q)
  have c1 := lg_cases (1 + bOf N ws fd 3 q)
  have c2 := lg_cases (max 1 (bOf N ws fd 3 q))
  have e2 := (C.fm q hq).2
  have e3 : eOf eds q = (eds.filter (fun e => decide (e.2 = q))).length := rfl
  by_cases h3 : has3 N ws q = true
  · have b3 := C.has_b hq h3
    rw [if_pos h3]
    by_cases hs : q = N.start
    · rw [if_pos hs]; omega
    · rw [if_neg hs]
      have := e2.resolve_left hs
      omega
  · rw [if_neg h3]
    by_cases hs : q = N.start
    · rw [if_pos hs]; omega
    · rw [if_neg hs]
      have := e2.resolve_left hs
      omega
end
end Go.Proofs.Yteklohamkmiphaa
namespace Go.Proofs.Yteklohamkmiphaa
section
variable {P W : Type} [DecidableEq P] {N : Net P W} {ws : List W} {eds : List (P × P)} {outs qs : List P} {fd : P → Option P} {inp : P → Bool} {nodes : Nat}

def k0Of (N : Net P W) (ws : List W) : Nat := (ws.filter (fun x => decide (N.kp x = 0))).length

omit [DecidableEq P] in
theorem four_le (N : Net P W) : ∀ ws : List W, (ws.filter (fun x => decide (N.kp x = 0))).length + (ws.filter (fun x => decide (N.kp x = 1))).length + (ws.filter (fun x => decide (N.kp x = 2))).length + (ws.filter (fun x => decide (N.kp x = 3))).length ≤ ws.length
  | [] => by simp
  | a :: ws => by
    have ih := four_le N ws
    simp only [List.filter_cons, List.length_cons]
    by_cases h0 : N.kp a = 0
    · simp [h0]; omega
    by_cases h1 : N.kp a = 1
    · simp [h1]; omega
    by_cases h2 : N.kp a = 2
    · simp [h2]; omega
    by_cases h3 : N.kp a = 3
    · simp [h3]; omega
    simp [h0, h1, h2, h3]; omega

theorem Cost.sum_b (C : Cost N ws eds outs qs fd inp nodes) (i : Nat) : sumOn (bOf N ws fd i) outs + sumOn (bOf N ws fd i) qs ≤ (ws.filter (fun x => decide (N.kp x = i))).length := by
  rw [← sumOn_append]
  refine sumOn_filter (fun x => decide (N.kp x = i)) (keyOf N fd) (outs ++ qs) ws ?_
  rw [List.nodup_append]
  refine ⟨C.no, C.nq, fun a ha b hb e => ?_⟩
  have h1 := C.oi a ha; have h2 := C.qi b hb
  rw [e, h2] at h1; simp at h1

theorem Cost.sum_start (C : Cost N ws eds outs qs fd inp nodes) : ∀ l : List P, l.Nodup → sumOn (fun q => if q = N.start then 506 else 0) l ≤ 506
  | [], _ => by simp [sumOn]
  | a :: l, h => by
    have h := List.nodup_cons.1 h
    rw [sumOn_cons]
    by_cases e : a = N.start
    · have : sumOn (fun q => if q = N.start then 506 else 0) l ≤ sumOn (fun _ => 0) l := sumOn_le fun b hb => by
        rw [if_neg (fun e2 => h.1 (by rw [e, ← e2]; exact hb))]; exact Nat.le_refl _
      have z : ∀ l : List P, sumOn (fun _ => 0) l = 0 := fun l => by
        induction l with
        | nil => rfl
        | cons a l ih => rw [sumOn_cons, ih]
      rw [z] at this
      rw [if_pos e]; omega
    · have := Cost.sum_start C l h.2
      rw [if_neg e]; omega

def totalG (N : Net P W) (ws : List W) (eds : List (P × P)) (outs qs : List P) (fd : P → Option P) : Nat := 4 * lg (1 + k0Of N ws) + (sumOn (gO N ws eds fd) outs + sumOn (gQ N ws fd) qs)

theorem Cost.total_with (C : Cost N ws eds outs qs fd inp nodes) {o : P} {x c : Nat} (h : o ∈ outs ∧ gO N ws eds fd o + x ≤ hO N ws eds fd o + c ∨ x ≤ c) : totalG N ws eds outs qs fd + x ≤ 31691 + c := by
  have s1 : sumOn (gO N ws eds fd) outs + x ≤ sumOn (hO N ws eds fd) outs + c := by
    rcases h with ⟨ho, h⟩ | h
    · exact sumOn_one (fun a ha => C.out_le ha) ho h
    · have := sumOn_le (fun a ha => C.out_le (o := a) ha); omega
  have s2 := sumOn_le (l := qs) (fun a ha => C.in_le (q := a) ha)
  rw [sumOn_add, sumOn_add] at s2
  have s3 := C.sum_start qs C.nq
  have b1 := C.sum_b 1
  have b2 := C.sum_b 2
  have b3 := C.sum_b 3
  have f4 := four_le N ws
  have k0 := lg_one (k0Of N ws)
  unfold k0Of at k0
  have eO : sumOn (hO N ws eds fd) outs = 515 * sumOn (bOf N ws fd 1) outs + 515 * sumOn (bOf N ws fd 2) outs + 515 * sumOn (bOf N ws fd 3) outs + 318 * sumOn (wOf N ws eds fd) outs + 262 * sumOn (mOf N ws eds fd) outs + 579 * sumOn (d1Of eds fd) outs := by
    unfold hO
    simp only [sumOn_add, sumOn_mul]
  have eQ : sumOn (hQ N ws eds fd) qs = 515 * sumOn (bOf N ws fd 1) qs + 515 * sumOn (bOf N ws fd 2) qs + 515 * sumOn (bOf N ws fd 3) qs + 515 * sumOn (eOf eds) qs + 64 * qs.length := by
    have : ∀ l : List P, sumOn (fun _ => 64) l = 64 * l.length := fun l => by
      induction l with
      | nil => rfl
      | cons a l ih => rw [sumOn_cons, ih, List.length_cons]; omega
    unfold hQ
    simp only [sumOn_add, sumOn_mul, this]
  -- edges by where they come from
  have d1 := sumOn_filter (fun e : P × P => ! decide (fd e.2 = none)) (fun e => e.1) outs eds C.no
  have d2 := sumOn_filter (fun e : P × P => decide (fd e.2 = none) && has3 N ws e.2) (fun e => e.1) outs eds C.no
  have d3 := sumOn_filter (fun e : P × P => decide (fd e.2 = none) && ! has3 N ws e.2) (fun e => e.1) outs eds C.no
  -- and by where they lead
  have t1 := filter_sumOn (fun e : P × P => decide (fd e.2 = none) && has3 N ws e.2) (fun e => e.2) qs eds (fun e he hp => C.en e he (by simp at hp; exact hp.1))
  have t2 := filter_sumOn (fun e : P × P => decide (fd e.2 = none) && ! has3 N ws e.2) (fun e => e.2) qs eds (fun e he hp => C.en e he (by simp at hp; exact hp.1))
  have t3 := sumOn_filter (fun e : P × P => decide (fd e.2 = none)) (fun e => e.2) qs eds C.nq
  have t4 : sumOn (eOf eds) qs ≤ sumOn (fun k => (eds.filter (fun e => decide (fd e.2 = none) && decide (e.2 = k))).length) qs := sumOn_le fun q hq => by
    unfold eOf
    refine filter_le_filter fun e _ he => ?_
    simp at he
    simp [he, (C.fm q hq).1]
  have t5 : 318 * sumOn (fun k => (eds.filter (fun e => (decide (fd e.2 = none) && has3 N ws e.2) && decide (e.2 = k))).length) qs + 262 * sumOn (fun k => (eds.filter (fun e => (decide (fd e.2 = none) && ! has3 N ws e.2) && decide (e.2 = k))).length) qs ≤ sumOn (tQ N ws eds) qs := by
    rw [← sumOn_mul, ← sumOn_mul, ← sumOn_add]
    refine sumOn_le fun q _ => ?_
    unfold tQ
    have m1 : (eds.filter (fun e => (decide (fd e.2 = none) && has3 N ws e.2) && decide (e.2 = q))).length ≤ eOf eds q := filter_le_filter fun e _ he => by simp at he; simp [he.2]
    have m2 : (eds.filter (fun e => (decide (fd e.2 = none) && ! has3 N ws e.2) && decide (e.2 = q))).length ≤ eOf eds q := filter_le_filter fun e _ he => by simp at he; simp [he.2]
    by_cases hh : has3 N ws q = true
    · rw [if_pos hh]
      have : (eds.filter (fun e => (decide (fd e.2 = none) && ! has3 N ws e.2) && decide (e.2 = q))).length = 0 := by
        rw [List.length_eq_zero_iff, List.filter_eq_nil_iff]; intro e _ he; simp at he; rw [he.2, hh] at he; simp at he
      omega
    · rw [if_neg hh]
      have : (eds.filter (fun e => (decide (fd e.2 = none) && has3 N ws e.2) && decide (e.2 = q))).length = 0 := by
        rw [List.length_eq_zero_iff, List.filter_eq_nil_iff]; intro e _ he; simp at he; rw [he.2] at he; exact hh he.1.2
      omega
  have p1 := filter_or (L := eds) (p := fun e : P × P => decide (fd e.2 = none)) (q := fun e => ! decide (fd e.2 = none)) (r := fun _ => true) (fun e _ he => by simp at he) (fun _ _ _ => rfl)
  have p0 : (eds.filter (fun _ => true)).length ≤ eds.length := List.length_filter_le _ _
  have cc := C.cost
  have cp := C.port
  have w1 : sumOn (wOf N ws eds fd) outs = sumOn (fun k => (eds.filter (fun e => (decide (fd e.2 = none) && has3 N ws e.2) && decide (e.1 = k))).length) outs := rfl
  have w2 : sumOn (mOf N ws eds fd) outs = sumOn (fun k => (eds.filter (fun e => (decide (fd e.2 = none) && ! has3 N ws e.2) && decide (e.1 = k))).length) outs := rfl
  have w3 : sumOn (d1Of eds fd) outs = sumOn (fun k => (eds.filter (fun e => (! decide (fd e.2 = none)) && decide (e.1 = k))).length) outs := rfl
  unfold totalG k0Of
  omega
end
end Go.Proofs.Yteklohamkmiphaa
namespace Go.Proofs.Yteklohamkmiphaa

theorem prod_lg_le (fs : List Nat) {n s : Nat} (h1 : ∀ x ∈ fs, 1 ≤ x) (h : n ≤ prodL fs) (hs : sumOn lg fs ≤ s) : n ^ 200 ≤ 2 ^ s :=
  Nat.le_trans (Nat.pow_le_pow_left h 200) (Nat.le_trans (prodL_lg fs h1) (Nat.pow_le_pow_right (by omega) hs))

section
variable {P W : Type} [DecidableEq P] {N : Net P W}

theorem sumOn_flat {α : Type} (f : α → List Nat) : ∀ l : List α, sumOn lg (l.flatMap f) = sumOn (fun a => sumOn lg (f a)) l
  | [] => rfl
  | a :: l => by rw [List.flatMap_cons, sumOn_append, sumOn_cons, sumOn_flat f l]
theorem sumOn_map {α β : Type} (f : α → β) (g : β → Nat) : ∀ l : List α, sumOn g (l.map f) = sumOn (fun a => g (f a)) l
  | [] => rfl
  | a :: l => by rw [List.map_cons, sumOn_cons, sumOn_cons, sumOn_map f g l]
theorem sumOn_congr {α : Type} {f g : α → Nat} {l : List α} (h : ∀ a ∈ l, f a = g a) : sumOn f l = sumOn g l := by
  unfold sumOn; rw [List.map_congr_left h]

variable {ws : List W} {eds : List (P × P)} {outs qs : List P} {fd : P → Option P} {inp : P → Bool} {nodes : Nat}

def lgX (N : Net P W) (ws : List W) (fd : P → Option P) (keys : List P) : Nat := lg (1 + k0Of N ws) + sumOn (fun k => lg (1 + bOf N ws fd 1 k) + lg (1 + bOf N ws fd 2 k) + lg (1 + bOf N ws fd 3 k)) keys
def lgY (N : Net P W) (ws : List W) (eds : List (P × P)) (fd : P → Option P) (outs qs : List P) : Nat :=
  lg (1 + k0Of N ws) + (sumOn (fun k => lg (1 + bOf N ws fd 1 k) + lg (1 + bOf N ws fd 2 k)) (outs ++ qs) + (sumOn (fun o => lg (max 1 (bOf N ws fd 3 o + wOf N ws eds fd o))) outs + sumOn (fun q => lg (max 1 (bOf N ws fd 3 q))) qs))

theorem sigO_len (i : Nat) (k : P) : (N.sigO ws (keyOf N fd) i k).length = 1 + bOf N ws fd i k := by
  unfold Net.sigO bOf; rw [List.length_cons, List.length_map]; omega
omit [DecidableEq P] in
theorem rootO_len : (N.rootO ws).length = 1 + k0Of N ws := by
  unfold Net.rootO k0Of; rw [List.length_cons, List.length_map]; omega

theorem fX_lens (keys : List P) : (N.fX ws (keyOf N fd) keys).map (fun f => f.2.length) = (1 + k0Of N ws) :: keys.flatMap (fun k => [1 + bOf N ws fd 1 k, 1 + bOf N ws fd 2 k, 1 + bOf N ws fd 3 k]) := by
  unfold Net.fX
  rw [List.map_cons, rootO_len, List.map_flatMap]
  simp only [List.map_cons, List.map_nil, sigO_len]
theorem Cost.fY_lens [DecidableEq W] (C : Cost N ws eds outs qs fd inp nodes) (keys : List P) : (N.fY ws (keyOf N fd) keys eds fd outs qs).map (fun f => f.2.length) =
    (1 + k0Of N ws) :: (keys.flatMap (fun k => [1 + bOf N ws fd 1 k, 1 + bOf N ws fd 2 k]) ++ (outs.map (fun o => max 1 (bOf N ws fd 3 o + wOf N ws eds fd o)) ++ qs.map (fun q => max 1 (bOf N ws fd 3 q)))) := by
  unfold Net.fY
  rw [List.map_cons, rootO_len, List.map_append, List.map_flatMap, List.map_append, List.map_map, List.map_map]
  simp only [List.map_cons, List.map_nil, sigO_len]
  congr 2
  congr 1
  · refine List.map_congr_left fun o ho => ?_
    show (some1 [] (N.optO ws eds fd o)).length = _
    rw [length_some1, C.optO_len ho]
  · refine List.map_congr_left fun q hq => ?_
    show (some1 [] (N.optQ ws q)).length = _
    rw [length_some1, C.optQ_len hq]

theorem fX_lg (keys : List P) : sumOn lg ((N.fX ws (keyOf N fd) keys).map (fun f => f.2.length)) = lgX N ws fd keys := by
  have e : sumOn (fun k => sumOn lg [1 + bOf N ws fd 1 k, 1 + bOf N ws fd 2 k, 1 + bOf N ws fd 3 k]) keys = sumOn (fun k => lg (1 + bOf N ws fd 1 k) + lg (1 + bOf N ws fd 2 k) + lg (1 + bOf N ws fd 3 k)) keys :=
    sumOn_congr fun k _ => by simp only [sumOn_cons, sumOn_nil]; omega
  rw [fX_lens, sumOn_cons, sumOn_flat, e]
  rfl
theorem Cost.fY_lg [DecidableEq W] (C : Cost N ws eds outs qs fd inp nodes) : sumOn lg ((N.fY ws (keyOf N fd) (outs ++ qs) eds fd outs qs).map (fun f => f.2.length)) = lgY N ws eds fd outs qs := by
  have e : sumOn (fun k => sumOn lg [1 + bOf N ws fd 1 k, 1 + bOf N ws fd 2 k]) (outs ++ qs) = sumOn (fun k => lg (1 + bOf N ws fd 1 k) + lg (1 + bOf N ws fd 2 k)) (outs ++ qs) :=
    sumOn_congr fun k _ => by simp only [sumOn_cons, sumOn_nil]; omega
  rw [C.fY_lens, sumOn_cons, sumOn_append lg (List.flatMap _ _), sumOn_append lg (List.map _ _), sumOn_flat, sumOn_map, sumOn_map, e]
  rfl

theorem lgXY : lgX N ws fd (outs ++ qs) + 3 * lgY N ws eds fd outs qs = totalG N ws eds outs qs fd := by
  unfold lgX lgY totalG gO gQ
  simp only [sumOn_append, sumOn_add, sumOn_mul]
  omega

theorem pow_total {n a s t : Nat} (h1 : n ^ 200 ≤ 2 ^ a) (h2 : n ^ 200 ≤ 2 ^ s) (e : a + 3 * s = t) : (n ^ 200) ^ 4 ≤ 2 ^ t := by
  have h3 := Nat.pow_le_pow_left h2 3
  have h4 := Nat.mul_le_mul h1 h3
  rw [← Nat.pow_mul (2 : Nat), ← Nat.pow_add] at h4
  rw [← e, Nat.mul_comm 3 s]
  refine Nat.le_trans (Nat.le_of_eq ?_) h4
  rw [Nat.pow_succ' (n := 3)]

/-- what a run's lists are to one another -/
structure Run.Lists (R : Run N) (ws : List W) (eds : List (P × P)) (outs qs : List P) (fd : P → Option P) (inp : P → Bool) (nodes : Nat) : Prop where
  K : R.Ways ws (outs ++ qs) (keyOf N fd)
  D : R.Edges ws eds outs qs fd inp
  C : Cost N ws eds outs qs fd inp nodes
  ei : ∀ e, e ∈ eds → inp e.2 = true
  wo : ∀ x, x ∈ ws → inp (N.wout x) = false

variable {R : Run N}

theorem Run.Lists.base4 (A : R.Lists ws eds outs qs fd inp nodes) {l : List (Mv P W)} (h : R.E l) (ho : inp (N.endp l) = false) : N.base 4 l = l := by
  cases l with
  | nil => rfl
  | cons m t =>
    cases m with
    | e o q => have := A.ei _ (A.D.em _ _ _ h); simp only [Net.endp] at ho; rw [ho] at this; simp at this
    | w x => have := (R.kw x t h).2; exact N.base_n x t (by omega)

theorem suffix_next {α : Type} {t l : List α} (h : t <:+ l) (ne : t ≠ l) : ∃ m, (m :: t) <:+ l := by
  obtain ⟨a, rfl⟩ := h
  rcases List.eq_nil_or_concat a with rfl | ⟨b, m, rfl⟩
  · exact absurd rfl ne
  · exact ⟨m, b, by simp⟩

theorem Run.Lists.onward (A : R.Lists ws eds outs qs fd inp nodes) {l : List (Mv P W)} (h : R.E l) (hl : inp (N.endp l) = false ∨ ∃ x, x ∈ ws ∧ N.kp x = 3 ∧ N.win x = N.endp l) : N.onward ws l := by
  intro o q t h1 h2
  have he := (R.suffix h h1).1
  by_cases e : (.e o q :: t : List (Mv P W)) = l
  · subst e
    rcases hl with hl | hl
    · have := A.ei _ (A.D.em _ _ _ he); simp only [Net.endp] at hl; rw [hl] at this; simp at this
    · exact hl
  · obtain ⟨m, hm⟩ := suffix_next h1 e
    have em := (R.suffix h hm).1
    have sm := (R.tl _ _ em).2.2
    have inq := A.ei _ (A.D.em _ _ _ he)
    cases m with
    | e o' q' =>
      simp only [Net.src, Net.endp] at sm
      have := (A.D.eo _ _ (A.D.em _ _ _ em)).2
      rw [sm, inq] at this; simp at this
    | w x =>
      simp only [Net.src, Net.endp] at sm
      refine ⟨x, A.D.wm x _ em, ?_, sm⟩
      have k3 := (R.kw x _ em).2
      have c := R.ch_at h hm (h2.trans (List.suffix_cons _ _))
      obtain ⟨_, _, _, _, c4⟩ := N.ch_some c
      simp only [Net.kpm] at c4
      omega

theorem Run.Lists.pos_X (_A : R.Lists ws eds outs qs fd inp nodes) : ∀ x ∈ (N.fX ws (keyOf N fd) (outs ++ qs)).map (fun f => f.2.length), 1 ≤ x := by
  rw [fX_lens]
  intro x hx
  rcases List.mem_cons.1 hx with rfl | hx
  · omega
  · obtain ⟨k, _, hx⟩ := List.mem_flatMap.1 hx
    simp at hx; omega
variable [DecidableEq W]
theorem Run.Lists.listX (A : R.Lists ws eds outs qs fd inp nodes) {L : List (List (Mv P W))} (nd : L.Nodup) (h : ∀ l ∈ L, R.E l ∧ inp (N.endp l) = false) : L.length ≤ prodL ((N.fX ws (keyOf N fd) (outs ++ qs)).map fun f => f.2.length) :=
  A.K.boundX L nd fun l hl => ⟨(h l hl).1, A.base4 (h l hl).1 (h l hl).2⟩
theorem Run.Lists.listY (A : R.Lists ws eds outs qs fd inp nodes) {L : List (List (Mv P W))} {n : Nat} (nd : L.Nodup) (h : ∀ l ∈ L, R.E l ∧ l.length = n ∧ (inp (N.endp l) = false ∨ ∃ x, x ∈ ws ∧ N.kp x = 3 ∧ N.win x = N.endp l)) :
    L.length ≤ prodL ((N.fY ws (keyOf N fd) (outs ++ qs) eds fd outs qs).map fun f => f.2.length) :=
  A.D.boundY A.K A.C.qi n L nd fun l hl => ⟨(h l hl).1, A.onward (h l hl).1 (h l hl).2.2, (h l hl).2.1⟩

theorem Run.Lists.pos_Y (A : R.Lists ws eds outs qs fd inp nodes) : ∀ x ∈ (N.fY ws (keyOf N fd) (outs ++ qs) eds fd outs qs).map (fun f => f.2.length), 1 ≤ x := by
  rw [A.C.fY_lens]
  intro x hx
  rcases List.mem_cons.1 hx with rfl | hx
  · omega
  · rcases List.mem_append.1 hx with hx | hx
    · obtain ⟨k, _, hx⟩ := List.mem_flatMap.1 hx
      simp at hx; omega
    · rcases List.mem_append.1 hx with hx | hx
      · obtain ⟨o, _, rfl⟩ := List.mem_map.1 hx; omega
      · obtain ⟨o, _, rfl⟩ := List.mem_map.1 hx; omega

/-- of one layer, at outputs -/
theorem Run.Lists.outs_le (A : R.Lists ws eds outs qs fd inp nodes) {L : List (List (Mv P W))} {n : Nat} (nd : L.Nodup) (h : ∀ l ∈ L, R.E l ∧ l.length = n ∧ inp (N.endp l) = false) : (L.length ^ 200) ^ 4 ≤ 2 ^ totalG N ws eds outs qs fd :=
  pow_total (prod_lg_le _ A.pos_X (A.listX nd fun l hl => ⟨(h l hl).1, (h l hl).2.2⟩) (Nat.le_of_eq (fX_lg _)))
    (prod_lg_le _ A.pos_Y (A.listY nd fun l hl => ⟨(h l hl).1, (h l hl).2.1, .inl (h l hl).2.2⟩) (Nat.le_of_eq A.C.fY_lg)) lgXY

theorem exists_max {α : Type} (f : α → Nat) : ∀ l : List α, l ≠ [] → ∃ a, a ∈ l ∧ ∀ b ∈ l, f b ≤ f a
  | [], h => absurd rfl h
  | [a], _ => ⟨a, by simp, by simp⟩
  | a :: b :: l, _ => by
    obtain ⟨c, h1, h2⟩ := exists_max f (b :: l) (by simp)
    by_cases hc : f a ≤ f c
    · refine ⟨c, List.mem_cons_of_mem _ h1, fun x hx => ?_⟩
      rcases List.mem_cons.1 hx with rfl | hx
      · exact hc
      · exact h2 x hx
    · refine ⟨a, List.mem_cons_self, fun x hx => ?_⟩
      rcases List.mem_cons.1 hx with rfl | hx
      · exact Nat.le_refl _
      · exact Nat.le_trans (h2 x hx) (by omega)

theorem nodup_le {α : Type} [DecidableEq α] {L O : List α} (nd : L.Nodup) (h : ∀ x ∈ L, x ∈ O) : L.length ≤ O.length := by
  have := count_by (fun x => x) 1 O L h fun b _ => by
    have : ∀ l : List α, l.Nodup → (l.filter (fun x => decide (x = b))).length ≤ 1 := by
      intro l nl
      have h2 := nl.filter (fun x => decide (x = b))
      match hh : l.filter (fun x => decide (x = b)) with
      | [] => simp
      | [a] => simp
      | a :: c :: r =>
        rw [hh] at h2
        have m1 : a ∈ l.filter (fun x => decide (x = b)) := by rw [hh]; simp
        have m2 : c ∈ l.filter (fun x => decide (x = b)) := by rw [hh]; simp
        have e1 := of_decide_eq_true (List.mem_filter.1 m1).2
        have e2 := of_decide_eq_true (List.mem_filter.1 m2).2
        simp [e1, e2] at h2
    exact this L nd
  omega
theorem inj_le {α β : Type} [DecidableEq β] {f : α → β} {L : List α} {O : List β} (nd : L.Nodup) (h : ∀ x ∈ L, f x ∈ O) (inj : ∀ x ∈ L, ∀ y ∈ L, f x = f y → x = y) : L.length ≤ O.length := by
  have n2 : (L.map f).Nodup := by
    refine List.nodup_iff_pairwise_ne.2 (List.pairwise_map.2 ?_)
    have hp := List.nodup_iff_pairwise_ne.1 nd
    refine hp.imp_of_mem ?_
    intro a b ha hb hab e
    exact hab (inj a ha b hb e)
  have := nodup_le n2 (O := O) fun y hy => by obtain ⟨x, hx, rfl⟩ := List.mem_map.1 hy; exact h x hx
  rwa [List.length_map] at this
end
end Go.Proofs.Yteklohamkmiphaa
namespace Go.Proofs.Yteklohamkmiphaa
section
variable {P W : Type} [DecidableEq P] [DecidableEq W] {N : Net P W} {ws : List W} {eds : List (P × P)} {outs qs : List P} {fd : P → Option P} {inp : P → Bool} {nodes : Nat} {R : Run N}

theorem pow_le {a k n t s : Nat} (hk : k ^ 200 ≤ 2 ^ a) (hn : (n ^ 200) ^ 4 ≤ 2 ^ t) (h : t + 4 * a ≤ s) : ((k * n) ^ 200) ^ 4 ≤ 2 ^ s := by
  have h1 := Nat.mul_le_mul (Nat.pow_le_pow_left hk 4) hn
  rw [← Nat.pow_mul 2, ← Nat.pow_add] at h1
  rw [Nat.mul_pow, Nat.mul_pow]
  exact Nat.le_trans h1 (Nat.pow_le_pow_right (by omega) (by omega))

theorem root_le {n s a b c : Nat} (h : (n ^ a) ^ b ≤ 2 ^ s) (e : s = c * a * b) (ha : a ≠ 0) (hb : b ≠ 0) : n ≤ 2 ^ c := by
  rw [e, Nat.pow_mul, Nat.pow_mul] at h
  exact (Nat.pow_le_pow_iff_left ha).1 ((Nat.pow_le_pow_iff_left hb).1 h)
theorem le_41 {n s : Nat} (h : (n ^ 200) ^ 4 ≤ 2 ^ s) (e : s = 32800) : n ≤ 2 ^ 41 := root_le (c := 41) h (by omega) (by omega) (by omega)
theorem le_402 {n s : Nat} (h : (n ^ 200) ^ 4 ≤ 2 ^ s) (es : s = 32160) : n ≤ 1263007198127 := by
  have e : n ^ 200 = (n ^ 5) ^ 40 := by rw [← Nat.pow_mul]
  rw [e] at h
  have h1 : n ^ 5 ≤ 2 ^ 201 := root_le (c := 201) h (by omega) (by omega) (by omega)
  refine Classical.byContradiction fun c => ?_
  have h2 : 1263007198128 ^ 5 ≤ n ^ 5 := Nat.pow_le_pow_left (by omega) 5
  have h3 := Nat.le_trans h2 h1
  revert h3
  decide

def dead (N : Net P W) (ws : List W) (eds : List (P × P)) (o : P) : List (P × P) := eds.filter (fun e => decide (e.1 = o) && ! has3 N ws e.2)
omit [DecidableEq W] in
theorem dead_le (fd : P → Option P) (o : P) : (dead N ws eds o).length ≤ d1Of eds fd o + mOf N ws eds fd o := by
  unfold dead d1Of mOf
  induction eds with
  | nil => simp
  | cons e l ih =>
    simp only [List.filter_cons]
    by_cases h1 : e.1 = o <;> by_cases h2 : fd e.2 = none <;> cases h3 : has3 N ws e.2 <;> simp [h1, h2] <;> omega

omit [DecidableEq W] in
/-- what is at an input came by an edge -/
theorem Run.Lists.in_form (A : R.Lists ws eds outs qs fd inp nodes) {l : List (Mv P W)} (h : R.E l) (hi : inp (N.endp l) = true) : l = [] ∨ ∃ o q t, l = .e o q :: t := by
  cases l with
  | nil => exact .inl rfl
  | cons m t =>
    cases m with
    | e o q => exact .inr ⟨o, q, t, rfl⟩
    | w x => have := A.wo x (A.D.wm x t h); simp only [Net.endp] at hi; rw [this] at hi; simp at hi

omit [DecidableEq W] in
theorem Run.Lists.tail_out (A : R.Lists ws eds outs qs fd inp nodes) {o q : P} {t : List (Mv P W)} (h : R.E (.e o q :: t)) : R.E t ∧ N.endp t = o ∧ o ∈ outs ∧ inp (N.endp t) = false ∧ (o, q) ∈ eds := by
  have he := A.D.em _ _ _ h
  obtain ⟨h1, _, h3⟩ := R.tl _ _ h
  simp only [Net.src] at h3
  have := A.D.eo _ _ he
  exact ⟨h1, h3.symm, this.1, h3 ▸ this.2, he⟩

def tailL {α : Type} : List α → List α
  | [] => []
  | _ :: t => t

/-- at inputs, of one layer, by how much each output's entries grow -/
theorem Run.Lists.ins_by (A : R.Lists ws eds outs qs fd inp nodes) {L : List (List (Mv P W))} {d : Nat} (nd : L.Nodup) (h : ∀ l ∈ L, R.E l ∧ ∃ o q t, l = .e o q :: t)
    (hd : ∀ (t : List (Mv P W)) (M : List (List (Mv P W))), M.Nodup → (∀ l ∈ M, l ∈ L ∧ tailL l = t) → M.length ≤ d) :
    ∃ T : List (List (Mv P W)), T.Nodup ∧ (∀ t ∈ T, R.E t ∧ inp (N.endp t) = false ∧ ∃ m, m :: t ∈ L) ∧ L.length ≤ T.length * d := by
  have hT : ∀ T : List (List (Mv P W)), ∃ U : List (List (Mv P W)), U.Nodup ∧ ∀ x, x ∈ U ↔ x ∈ T := by
    intro T
    induction T with
    | nil => exact ⟨[], List.nodup_nil, fun _ => Iff.rfl⟩
    | cons a T ih =>
      obtain ⟨U, u1, u2⟩ := ih
      by_cases ha : a ∈ U
      · exact ⟨U, u1, fun x => by rw [u2 x, List.mem_cons]; constructor; exact .inr; rintro (rfl | h); exact (u2 _).1 ha; exact h⟩
      · exact ⟨a :: U, List.nodup_cons.2 ⟨ha, u1⟩, fun x => by rw [List.mem_cons, List.mem_cons, u2 x]⟩
  obtain ⟨T, t1, t2⟩ := hT (L.map tailL)
  refine ⟨T, t1, fun t ht => ?_, ?_⟩
  · obtain ⟨l, hl, e⟩ := List.mem_map.1 ((t2 t).1 ht)
    obtain ⟨h1, o, q, s, rfl⟩ := h l hl
    simp only [tailL] at e
    subst e
    have := A.tail_out h1
    exact ⟨this.1, this.2.2.2.1, _, hl⟩
  · refine count_by tailL d T L (fun l hl => (t2 _).2 (List.mem_map.2 ⟨l, hl, rfl⟩)) fun t _ => ?_
    exact hd t _ (nd.filter _) fun l hl => ⟨(List.mem_filter.1 hl).1, of_decide_eq_true (List.mem_filter.1 hl).2⟩

theorem max_out {P : Type} (f : P → Nat) (outs : List P) : ∃ d, (∀ o ∈ outs, f o ≤ d) ∧ (d = 0 ∨ ∃ o, o ∈ outs ∧ d = f o) := by
  by_cases h : outs = []
  · exact ⟨0, by simp [h], .inl rfl⟩
  · obtain ⟨o, h1, h2⟩ := exists_max f outs h
    exact ⟨f o, h2, .inr ⟨o, h1, rfl⟩⟩

/-- what leads on: entries at inputs with a way that keeps all -/
theorem Run.Lists.ins_on (A : R.Lists ws eds outs qs fd inp nodes) {L : List (List (Mv P W))} {n : Nat} (nd : L.Nodup) (h : ∀ l ∈ L, R.E l ∧ l.length = n ∧ (∃ o q t, l = .e o q :: t) ∧ has3 N ws (N.endp l) = true) : L.length ≤ 1263007198127 := by
  obtain ⟨d, d1, d2⟩ := max_out (fun o => max 1 (bOf N ws fd 3 o + wOf N ws eds fd o)) outs
  obtain ⟨T, t1, t2, t3⟩ := A.ins_by nd (d := d) (fun l hl => ⟨(h l hl).1, (h l hl).2.2.1⟩) (by
    intro t M nM hM
    cases M with
    | nil => simp
    | cons l0 M0 =>
    obtain ⟨a1, a2⟩ := hM l0 List.mem_cons_self
    obtain ⟨b1, _, ⟨o, q, s, rfl⟩, _⟩ := h l0 a1
    simp only [tailL] at a2
    subst a2
    have ho := A.tail_out b1
    refine Nat.le_trans ?_ (d1 o ho.2.2.1)
    have hl := A.C.optO_len ho.2.2.1
    refine Nat.le_trans ?_ (Nat.le_max_right _ _)
    rw [← hl]
    -- of each the first choice that begins with its edge
    refine inj_le (f := fun l => ((N.optO ws eds fd o).find? (fun c => decide (c.head? = l.head?))).getD []) nM ?_ ?_
    all_goals
      have key : ∀ l ∈ (.e o q :: s) :: M0, ∃ c, (N.optO ws eds fd o).find? (fun c => decide (c.head? = l.head?)) = some c ∧ c ∈ N.optO ws eds fd o ∧ c.head? = l.head? ∧ tailL l = s ∧ l ≠ [] := by
        intro l hl
        obtain ⟨c1, c2⟩ := hM l hl
        obtain ⟨e1, _, ⟨o', q', s', rfl⟩, e3⟩ := h l c1
        simp only [tailL] at c2
        subst c2
        have ho' := A.tail_out e1
        have eo : o' = o := by rw [← ho'.2.1, ho.2.1]
        subst eo
        simp only [Net.endp] at e3
        have ex : ∃ c, c ∈ N.optO ws eds fd o' ∧ c.head? = some (.e o' q') := by
          cases hf : fd q' with
          | none =>
            refine ⟨[.e o' q'], List.mem_append_right _ (List.mem_map.2 ⟨(o', q'), List.mem_filter.2 ⟨ho'.2.2.2.2, ?_⟩, rfl⟩), rfl⟩
            unfold has3 at e3
            simp only [hf, decide_true, Bool.true_and]
            exact e3
          | some o2 =>
            have := A.D.feed e1 hf
            subst this
            unfold has3 at e3
            obtain ⟨x, x1, x2⟩ := List.any_eq_true.1 e3
            simp at x2
            refine ⟨[.e o2 (N.win x), .w x], List.mem_append_left _ (List.mem_map.2 ⟨x, List.mem_filter.2 ⟨x1, ?_⟩, rfl⟩), by rw [x2.2]; rfl⟩
            simp [x2.1, x2.2, hf]
        obtain ⟨c, c1, c2⟩ := ex
        cases hc : (N.optO ws eds fd o').find? (fun c => decide (c.head? = (.e o' q' :: s' : List (Mv P W)).head?)) with
        | none => have := List.find?_eq_none.1 hc c c1; simp [c2] at this
        | some c' =>
          refine ⟨c', rfl, List.mem_of_find?_eq_some hc, ?_, rfl, by simp⟩
          have := List.find?_some hc
          exact of_decide_eq_true this
    · intro l hl
      obtain ⟨c, c1, c2, _⟩ := key l hl
      rw [c1]; exact c2
    · intro l hl m hm e
      obtain ⟨c, c1, c2, c3, c4, c5⟩ := key l hl
      obtain ⟨c', c1', c2', c3', c4', c5'⟩ := key m hm
      rw [c1, c1'] at e
      simp only [Option.getD_some] at e
      rw [← e, c3] at c3'
      cases l with
      | nil => exact absurd rfl c5
      | cons a l =>
        cases m with
        | nil => exact absurd rfl c5'
        | cons b m =>
          simp only [tailL] at c4 c4'
          simp only [List.head?_cons, Option.some.injEq] at c3'
          rw [c3', c4, c4'])
  obtain ⟨s, hs⟩ : ∃ s, s = 32160 := ⟨_, rfl⟩
  refine le_402 (n := L.length) (s := s) ?_ hs
  have hX := A.listX t1 fun t ht => ⟨(t2 t ht).1, (t2 t ht).2.1⟩
  have pT := prod_lg_le _ A.pos_X hX (Nat.le_of_eq (fX_lg _))
  have hY := A.listY nd (n := n) fun l hl => ⟨(h l hl).1, (h l hl).2.1, .inr (by
    have h3 := (h l hl).2.2.2
    unfold has3 at h3
    obtain ⟨x, x1, x2⟩ := List.any_eq_true.1 h3
    simp at x2
    exact ⟨x, x1, x2.1, x2.2⟩)⟩
  have pY := prod_lg_le _ A.pos_Y hY (Nat.le_of_eq A.C.fY_lg)
  rcases d2 with rfl | ⟨o, ho, rfl⟩
  · rw [Nat.mul_zero] at t3
    have : L.length = 0 := by omega
    rw [this]; exact Nat.zero_le _
  · have hm := lg_ge (max 1 (bOf N ws fd 3 o + wOf N ws eds fd o)) (Nat.le_max_left _ _)
    have hL := Nat.pow_le_pow_left t3 200
    rw [Nat.mul_pow] at hL
    have hL2 := Nat.le_trans hL (Nat.mul_le_mul pT hm)
    rw [← Nat.pow_add] at hL2
    have tw := A.C.total_with (x := lg (max 1 (bOf N ws fd 3 o + wOf N ws eds fd o))) (c := 469) (o := o) (.inl ⟨ho, A.C.out_many ho⟩)
    have lxy := lgXY (N := N) (ws := ws) (eds := eds) (outs := outs) (qs := qs) (fd := fd)
    have fin := pow_total hL2 pY (rfl)
    exact Nat.le_trans fin (Nat.pow_le_pow_right (by omega) (by omega))

/-- what leads nowhere: entries at the other inputs, and those of a layer at outputs -/
theorem Run.Lists.ins_off (A : R.Lists ws eds outs qs fd inp nodes) {L M : List (List (Mv P W))} {n m : Nat} (nd : L.Nodup) (h : ∀ l ∈ L, R.E l ∧ l.length = n ∧ (∃ o q t, l = .e o q :: t) ∧ has3 N ws (N.endp l) = false)
    (nM : M.Nodup) (hM : ∀ l ∈ M, R.E l ∧ l.length = m ∧ inp (N.endp l) = false) : L.length + M.length ≤ 2 ^ 41 := by
  obtain ⟨d, d1, d2⟩ := max_out (fun o => (dead N ws eds o).length) outs
  obtain ⟨T, t1, t2, t3⟩ := A.ins_by nd (d := d) (fun l hl => ⟨(h l hl).1, (h l hl).2.2.1⟩) (by
    intro t M nM hM
    cases M with
    | nil => simp
    | cons l0 M0 =>
    obtain ⟨a1, a2⟩ := hM l0 List.mem_cons_self
    obtain ⟨b1, _, ⟨o, q, s, rfl⟩, _⟩ := h l0 a1
    simp only [tailL] at a2
    subst a2
    have ho := A.tail_out b1
    refine Nat.le_trans ?_ (d1 o ho.2.2.1)
    refine inj_le (f := fun l => (o, N.endp l)) nM ?_ ?_
    · intro l hl
      obtain ⟨c1, c2⟩ := hM l hl
      obtain ⟨e1, _, ⟨o', q', s', rfl⟩, e3⟩ := h l c1
      simp only [tailL] at c2
      subst c2
      have ho' := A.tail_out e1
      have eo : o' = o := by rw [← ho'.2.1, ho.2.1]
      subst eo
      simp only [Net.endp] at e3 ⊢
      unfold dead
      exact List.mem_filter.2 ⟨ho'.2.2.2.2, by simp [e3]⟩
    · intro l hl m hm e
      obtain ⟨c1, c2⟩ := hM l hl
      obtain ⟨e1, _, ⟨o', q', s', rfl⟩, e3⟩ := h l c1
      obtain ⟨f1, f2⟩ := hM m hm
      obtain ⟨g1, _, ⟨o2, q2, s2, rfl⟩, g3⟩ := h m f1
      simp only [tailL] at c2 f2
      subst c2; subst f2
      have ho' := A.tail_out e1
      have ho2 := A.tail_out g1
      simp only [Net.endp, Prod.mk.injEq, true_and] at e
      subst e
      rw [← ho'.2.1, ← ho2.2.1])
  have bound : ∀ x : Nat, (x ^ 200) ^ 4 ≤ 2 ^ totalG N ws eds outs qs fd → (1 + d) * x ≤ 2 ^ 41 := by
    intro x hx
    obtain ⟨s, hs⟩ : ∃ s, s = 32800 := ⟨_, rfl⟩
    refine le_41 (s := s) ?_ hs
    rcases d2 with rfl | ⟨o, ho, rfl⟩
    · have tw := A.C.total_with (x := 0) (c := 0) (o := N.start) (.inr (Nat.le_refl _))
      exact pow_le (k := 1 + 0) (a := 0) (by simp) hx (by omega)
    · have dl := dead_le (N := N) (ws := ws) (eds := eds) fd o
      have hm := lg_ge (1 + d1Of eds fd o + mOf N ws eds fd o) (by omega)
      have tw := A.C.total_with (x := 4 * lg (1 + d1Of eds fd o + mOf N ws eds fd o)) (c := 1109) (o := o) (.inl ⟨ho, A.C.out_dead ho⟩)
      exact pow_le (Nat.le_trans (Nat.pow_le_pow_left (by omega) 200) hm) hx (by omega)
  have bT := bound T.length (A.outs_le t1 (n := n - 1) fun t ht => ⟨(t2 t ht).1, by
    obtain ⟨m, hm⟩ := (t2 t ht).2.2
    have := (h _ hm).2.1
    simp at this; omega, (t2 t ht).2.1⟩)
  have bM := bound M.length (A.outs_le nM (n := m) hM)
  rw [Nat.add_mul, Nat.one_mul] at bT bM
  have e := Nat.mul_comm T.length d
  rcases Nat.le_total T.length M.length with hc | hc
  · have := Nat.mul_le_mul_left d hc; omega
  · omega

/-- two layers, at most -/
theorem Run.Lists.waits (A : R.Lists ws eds outs qs fd inp nodes) {L M : List (List (Mv P W))} {n m : Nat} (nd : L.Nodup) (h : ∀ l ∈ L, R.E l ∧ l.length = n ∧ inp (N.endp l) = true)
    (nM : M.Nodup) (hM : ∀ l ∈ M, R.E l ∧ l.length = m ∧ inp (N.endp l) = false) : L.length + M.length ≤ 3462030453680 := by
  by_cases hn : ([] : List (Mv P W)) ∈ L
  · have n0 := (h _ hn).2.1
    simp at n0
    have hL : L.length ≤ [([] : List (Mv P W))].length := nodup_le nd fun l hl => by
      have := (h l hl).2.1
      rw [← n0] at this
      have := List.length_eq_zero_iff.1 this
      subst this; simp
    have := A.ins_off (L := []) (n := 0) List.nodup_nil (by simp) nM hM
    simp at this hL
    omega
  · have f : ∀ l ∈ L, ∃ o q t, l = .e o q :: t := fun l hl => (A.in_form (h l hl).1 (h l hl).2.2).resolve_left fun e => hn (e ▸ hl)
    have c1 := A.ins_on (L := L.filter (fun l => has3 N ws (N.endp l))) (n := n) (nd.filter _) fun l hl => by
      have hl := List.mem_filter.1 hl
      exact ⟨(h l hl.1).1, (h l hl.1).2.1, f l hl.1, hl.2⟩
    have c2 := A.ins_off (L := L.filter (fun l => ! has3 N ws (N.endp l))) (n := n) (nd.filter _) (fun l hl => by
      have hl := List.mem_filter.1 hl
      exact ⟨(h l hl.1).1, (h l hl.1).2.1, f l hl.1, by simpa using hl.2⟩) nM hM
    have sp := List.length_eq_countP_add_countP (l := L) (fun l => has3 N ws (N.endp l))
    rw [List.countP_eq_length_filter, List.countP_eq_length_filter] at sp
    have e : (L.filter (fun a => decide (¬ has3 N ws (N.endp a) = true))).length = (L.filter (fun l => ! has3 N ws (N.endp l))).length := by
      congr 1; refine List.filter_congr fun l _ => ?_; cases has3 N ws (N.endp l) <;> simp
    omega

def endX (N : Net P W) (ws : List W) (outs qs : List P) (fd : P → Option P) : Nat := prodL ((N.fX ws (keyOf N fd) (outs ++ qs)).map fun f => f.2.length)
/-- there is an end -/
theorem Run.Lists.finite (A : R.Lists ws eds outs qs fd inp nodes) (L : List (List (Mv P W))) (nd : L.Nodup) (h : ∀ l ∈ L, R.E l) : L.length ≤ endX N ws outs qs fd + (1 + endX N ws outs qs fd * eds.length) := by
  obtain ⟨X, hX⟩ : ∃ X, X = endX N ws outs qs fd := ⟨_, rfl⟩
  rw [← hX]
  unfold endX at hX
  have sp := List.length_eq_countP_add_countP (l := L) (fun l => inp (N.endp l))
  rw [List.countP_eq_length_filter, List.countP_eq_length_filter] at sp
  have c1 := A.listX (L := L.filter (fun a => decide (¬ inp (N.endp a) = true))) (nd.filter _) fun l hl => by
    have hl := List.mem_filter.1 hl
    exact ⟨h l hl.1, by simpa using hl.2⟩
  rw [← hX] at c1
  have nf : (L.filter (fun l => inp (N.endp l))).Nodup := nd.filter _
  have hf : ∀ l ∈ L.filter (fun l => inp (N.endp l)), R.E l ∧ inp (N.endp l) = true := fun l hl => ⟨h l (List.mem_filter.1 hl).1, (List.mem_filter.1 hl).2⟩
  revert sp nf hf
  generalize L.filter (fun l => inp (N.endp l)) = I
  intro sp nf hf
  have sq := List.length_eq_countP_add_countP (l := I) (fun l => decide (l = []))
  rw [List.countP_eq_length_filter, List.countP_eq_length_filter] at sq
  have c2 : (I.filter (fun l => decide (l = []))).length ≤ [([] : List (Mv P W))].length := nodup_le (nf.filter _) fun l hl => by
    have := of_decide_eq_true (List.mem_filter.1 hl).2
    simp [this]
  obtain ⟨T, t1, t2, t3⟩ := A.ins_by (L := I.filter (fun a => decide (¬ decide (a = []) = true))) (d := eds.length) (nf.filter _) (fun l hl => by
    have hl := List.mem_filter.1 hl
    refine ⟨(hf l hl.1).1, (A.in_form (hf l hl.1).1 (hf l hl.1).2).resolve_left fun e => ?_⟩
    have h2 := hl.2; simp at h2; exact h2 e) (by
    intro t M nM hM
    refine inj_le (f := fun l => (N.endp t, N.endp l)) nM ?_ ?_
    · intro l hl
      obtain ⟨c1, c2⟩ := hM l hl
      have c3 := List.mem_filter.1 c1
      obtain ⟨o, q, s, rfl⟩ := (A.in_form (hf l c3.1).1 (hf l c3.1).2).resolve_left fun e => by have h2 := c3.2; simp at h2; exact h2 e
      simp only [tailL] at c2
      subst c2
      have := A.tail_out (hf _ c3.1).1
      rw [this.2.1]; exact this.2.2.2.2
    · intro l hl m hm e
      obtain ⟨c1, c2⟩ := hM l hl
      have c3 := List.mem_filter.1 c1
      obtain ⟨o, q, s, rfl⟩ := (A.in_form (hf l c3.1).1 (hf l c3.1).2).resolve_left fun e => by have h2 := c3.2; simp at h2; exact h2 e
      obtain ⟨d1, d2⟩ := hM m hm
      have d3 := List.mem_filter.1 d1
      obtain ⟨o2, q2, s2, rfl⟩ := (A.in_form (hf m d3.1).1 (hf m d3.1).2).resolve_left fun e => by have h2 := d3.2; simp at h2; exact h2 e
      simp only [tailL] at c2 d2
      subst c2; subst d2
      have a1 := A.tail_out (hf _ c3.1).1
      have a2 := A.tail_out (hf _ d3.1).1
      simp only [Net.endp, Prod.mk.injEq, true_and] at e
      subst e
      rw [← a1.2.1, ← a2.2.1])
  have c3 := A.listX t1 fun t ht => ⟨(t2 t ht).1, (t2 t ht).2.1⟩
  rw [← hX] at c3
  have := Nat.mul_le_mul_right eds.length c3
  simp only [List.length_cons, List.length_nil] at c2
  omega
end
end Go.Proofs.Yteklohamkmiphaa
namespace Go.Proofs.Yteklohamkmiphaa
open Go.RowKit

/-- the worlds that have grown out of w -/
structure Xt (w : World) where
  W : World
  x : Ext w W

instance Xt.any (w : World) : Nonempty (Xt w) := ⟨⟨w, Ext.refl w⟩⟩

/-- a region that draws its order and only reads; callees may make new memory: walked in the order of the text, in whatever world has grown out of the first -/
theorem wp_region_ext {P : Program} {id : Nat} {Q : Exit → Act → World → Prop} {a : Act} {w : World} {l : List Oper} (hm : P.follows .mixedOrders = true) (hB : Region.lexB .any l.toArray = true)
    (h : wpQuiet P l.toArray (fun w' => ∃ y : Xt w, w' = y.W) (fun a' => ∀ w', (∃ y : Xt w, w' = y.W) → Q .normal a' w') l a) : (Code.region id l.toArray true).wp P Q a w :=
  wp_region_quiet (C := fun w' => ∃ y : Xt w, w' = y.W) hm hB ⟨⟨_, (Ext.refl w).drew⟩, rfl⟩ (by simpa using h)

/-- a callee's contract in such a region -/
theorem call_ext {P : Program} {f : FuncId} {args : Array Value} {w : World} {y : Xt w} {v : Value} (h : Calls P f args y.W fun e w' => e = .returned v ∧ Ext y.W w') :
    Calls P f args y.W fun e w'' => e = .returned v ∧ ∃ z : Xt w, w'' = z.W :=
  h.mono fun _ w' ⟨he, hx⟩ => ⟨he, ⟨w', y.x.trans hx⟩, rfl⟩
/-! ### a fixed order -/
/-- operations that yield a value and do nothing else -/
def isFlo : Op → Bool
  | .move _ | .assign _ | .pick .. | .build .. | .load .. | .nilCheck _ | .binOp .. | .unOp .. | .convert .. | .slice .. | .fieldAddr .. | .field .. | .indexAddr .. | .index .. | .lookup .. | .extract .. | .makeInterface .. | .makeFunc .. => true
  | .call { callee := .builtin .len, .. } | .call { callee := .builtin .cap, .. } | .call { callee := .builtin .min, .. } | .call { callee := .builtin .max, .. } => true
  | _ => false

theorem value_of_bind {P : Program} {s : Sem Value} {w w' : World} {r : Next} (h : (do let x ← s; pure (Next.value x) : Sem Next).run P w = .ok r w') : ∃ v, r = .value v := by
  simp only [Sem.run_bind] at h
  cases hs : s.run P w with
  | ok v w1 => rw [hs] at h; simp only [Result.andThen_ok, Sem.run_pure, Result.ok.injEq] at h; exact ⟨v, h.1.symm⟩
  | halt x w1 => rw [hs] at h; simp [Result.andThen] at h

theorem flo_value {P : Program} {o : Oper} (ho : isFlo o.op = true) {ρ : Operand → Value} {w w' : World} {r : Next} (h : (execOp ρ o).run P w = .ok r w') : ∃ v, r = .value v := by
  obtain ⟨dst, op, type, pos, after, guard⟩ := o
  cases op with
  | move x => simp only [execOp, Sem.run_pure, Result.ok.injEq] at h; exact ⟨_, h.1.symm⟩
  | assign x => simp only [execOp, Sem.run_pure, Result.ok.injEq] at h; exact ⟨_, h.1.symm⟩
  | pick c x y =>
    simp only [execOp, Sem.run_bind] at h
    cases hs : (asBool (ρ c)).run P w with
    | ok v w1 => rw [hs] at h; simp only [Result.andThen_ok, Sem.run_pure, Result.ok.injEq] at h; exact ⟨_, h.1.symm⟩
    | halt x w1 => rw [hs] at h; simp [Result.andThen] at h
  | nilCheck x =>
    simp only [execOp] at h
    have key : ∀ v : Value, (pure (Next.value v) : Sem Next).run P w = .ok r w' → ∃ v, r = .value v := fun v hh => by
      simp only [Sem.run_pure, Result.ok.injEq] at hh; exact ⟨_, hh.1.symm⟩
    have bad : (runtimePanic RuntimeError.nilDeref : Sem Next).run P w = .ok r w' → ∃ v, r = .value v := fun hh => by
      simp [runtimePanic] at hh
    split at h
    · exact bad h
    · exact bad h
    · exact bad h
    · split at h
      · exact bad h
      · simp only [Sem.run_bind] at h
        cases h1 : (Sem.run P program w) with
        | halt x w1 => rw [h1] at h; simp [Result.andThen] at h
        | ok p w1 =>
          rw [h1] at h
          simp only [Result.andThen_ok] at h
          cases hh : (nilAhead (p.types.size + Made.depth) _ _ _).run P w1 with
          | halt x w2 => rw [hh] at h; simp [Result.andThen] at h
          | ok b w2 =>
            rw [hh] at h
            simp only [Result.andThen_ok] at h
            split at h
            · simp [unsupported, Result.andThen] at h
            · simp only [Sem.run_pure, Result.ok.injEq] at h; exact ⟨_, h.1.symm⟩
      · exact key _ h
    · exact key _ h
  | build t parts => exact value_of_bind h
  | load t x => exact value_of_bind h
  | binOp op t x y u => exact value_of_bind h
  | unOp op t x => exact value_of_bind h
  | convert s d x => exact value_of_bind h
  | slice t x lo hi mx => exact value_of_bind h
  | fieldAddr s x f => exact value_of_bind h
  | field t x f => exact value_of_bind h
  | indexAddr t x i => exact value_of_bind h
  | index t x i => exact value_of_bind h
  | lookup t x i ok => exact value_of_bind h
  | extract t i => exact value_of_bind h
  | makeInterface t x => exact value_of_bind h
  | makeFunc f a b => exact value_of_bind h
  | call c =>
    obtain ⟨callee, args, ats⟩ := c
    cases callee with
    | builtin b =>
      have e : execOp ρ { dst, op := .call { callee := .builtin b, args, argTypes := ats }, type, pos, after, guard } = builtin b ats type (args.map fun | .const _ => true | _ => false) (args.map ρ) := rfl
      rw [e] at h
      cases b <;> first | exact value_of_bind h | (simp [isFlo] at ho)
    | value f => simp [isFlo] at ho
    | invoke r m => simp [isFlo] at ho
  | _ => simp [isFlo] at ho

section
variable {P : Program} {ops : Array Oper} {Q : Exit → Act → World → Prop} {bs : Array Nat}

/-- operation i comes ahead of operation j in every order -/
def ancB (ops : Array Oper) (bs : Array Nat) (i j : Nat) : Bool := decide (i < ops.size) && (bs.getD j 0).testBit i
def ancOkB (ops : Array Oper) (bs : Array Nat) : Bool :=
  (List.range ops.size).all fun j => (List.range ops.size).all fun i => !ancB ops bs i j ||
    match ops[j]? with
    | some o => o.after.toList.any fun e => Region.binds .any e && (e.on == i || ancB ops bs i e.on)
    | none => false
theorem ancOk_spec (h : ancOkB ops bs = true) {i j : Nat} (hij : ancB ops bs i j = true) {o : Oper} (ho : ops[j]? = some o) :
    ∃ e ∈ o.after, Region.binds .any e = true ∧ (e.on = i ∨ ancB ops bs i e.on = true) := by
  have hj : j < ops.size := (Array.getElem?_eq_some_iff.1 ho).1
  have hi : i < ops.size := by
    unfold ancB at hij
    simp only [Bool.and_eq_true, decide_eq_true_eq] at hij
    exact hij.1
  unfold ancOkB at h
  have h1 := List.all_eq_true.1 (List.all_eq_true.1 h j (List.mem_range.2 hj)) i (List.mem_range.2 hi)
  rw [hij, ho] at h1
  simp only [Bool.not_true, Bool.false_or, List.any_eq_true, Bool.and_eq_true, Bool.or_eq_true, beq_iff_eq] at h1
  obtain ⟨e, he, hb, hh⟩ := h1
  exact ⟨e, Array.mem_toList_iff.1 he, hb, hh⟩

def Closed (ops : Array Oper) (bs : Array Nat) (listed : Array Bool) : Prop := ∀ j, listed.getD j false = true → ∀ i, ancB ops bs i j = true → listed.getD i false = true

theorem ready_anc (hok : ancOkB ops bs = true) {listed : Array Bool} (hc : Closed ops bs listed) {j i : Nat} (hj : j ∈ Region.ready .any ops listed) (hij : ancB ops bs i j = true) : listed.getD i false = true := by
  obtain ⟨_, o, ho, hall⟩ := mem_ready.1 hj
  obtain ⟨e, he, hb, hh⟩ := ancOk_spec hok hij ho
  have h1 := hall e he hb
  rcases hh with rfl | hh
  · exact h1
  · exact hc _ h1 _ hh

theorem Closed.add (hok : ancOkB ops bs = true) {listed : Array Bool} (hc : Closed ops bs listed) {j : Nat} (hj : j ∈ Region.ready .any ops listed) : Closed ops bs (listed.setIfInBounds j true) := by
  intro k hk i hik
  by_cases hjk : j = k
  · subst hjk
    exact getD_set_true (ready_anc hok hc hj hik)
  · rw [getD_set_ne false hjk] at hk
    exact getD_set_true (hc k hk i hik)

/-- whatever order is picked from here on, and operations of the set X at most make new memory -/
def wpX (P : Program) (ops : Array Oper) (Q : Exit → Act → World → Prop) (X : Nat → Bool) : Nat → Array Bool → Act → World → Prop
  | 0, listed, a, w => Region.ready .any ops listed = [] ∧ Q .normal a w
  | fuel + 1, listed, a, w =>
    (Region.ready .any ops listed = [] → Q .normal a w) ∧
    ∀ i ∈ Region.ready .any ops listed, wpOp P ops Q i (fun a' w' => (X i = true → Ext w w') ∧ wpX P ops Q X fuel (listed.setIfInBounds i true) a' w') a w

theorem wpAny_of_X {X : Nat → Bool} : ∀ (fuel : Nat) (listed : Array Bool) (a : Act) (w : World), wpX P ops Q X fuel listed a w → wpAny P .any ops Q fuel listed a w
  | 0, _, _, _, h => h
  | fuel + 1, _, _, _, h => ⟨h.1, fun i hi => wpOp_mono (fun a' w' h' => wpAny_of_X fuel _ a' w' h'.2) (h.2 i hi)⟩

theorem wpX_done {X : Nat → Bool} {listed : Array Bool} {a : Act} {w : World} (hr : Region.ready .any ops listed = []) (h : Q .normal a w) : ∀ fuel, wpX P ops Q X fuel listed a w
  | 0 => ⟨hr, h⟩
  | _ + 1 => ⟨fun _ => h, by rw [hr]; simp⟩

theorem yields_later {o : Oper} {v : Value} {a : Act} {w w' : World} (h : YieldsIf P ops (Ext w) o v a) (x : Ext w w') : YieldsIf P ops (Ext w') o v a :=
  h.imp (fun ⟨h1, h2⟩ => ⟨h1, fun u hu => h2 u (x.trans hu)⟩) id

theorem wpX_first {X : Nat → Bool} (hok : ancOkB ops bs = true) {i : Nat} {oi : Oper} {v : Value} (hi : ops[i]? = some oi) (hsel : ∀ (j : Nat) (o : Oper) cs b, ops[j]? = some o → o.op ≠ .select cs b)
    (hQ : ∀ c a d v w, Q (.panic c) (a.put d v) w → Q (.panic c) a w) :
    ∀ (fuel : Nat) (listed : Array Bool) (a : Act) (w : World), Closed ops bs listed →
      (∀ j oj, ops[j]? = some oj → j ≠ i → listed.getD j true = false → ancB ops bs i j = false → oi.apart ops oj = true ∧ X j = true) →
      i ∈ Region.ready .any ops listed → YieldsIf P ops (Ext w) oi v a →
      wpX P ops Q X fuel (listed.setIfInBounds i true) (a.put oi.dst v) w → wpX P ops Q X (fuel + 1) listed a w := by
  intro fuel
  induction fuel with
  | zero =>
    intro listed a w hcl _ hr hy H
    refine ⟨fun h => (by rw [h] at hr; cases hr), fun j hj => ?_⟩
    by_cases hji : j = i
    · subst hji; exact hy.wpOp hi (Ext.refl w) ⟨fun _ => Ext.refl w, H⟩
    · have := ready_mono hj hji
      rw [H.1] at this
      cases this
  | succ fuel ih =>
    intro listed a w hcl hfree hr hy H
    refine ⟨fun h => (by rw [h] at hr; cases hr), fun j hj => ?_⟩
    by_cases hji : j = i
    · subst hji; exact hy.wpOp hi (Ext.refl w) ⟨fun _ => Ext.refl w, H⟩
    · have h1 := H.2 j (ready_mono hj hji)
      obtain ⟨hjun, oj, hoj, hall⟩ := mem_ready.1 hj
      have hiun := (mem_ready.1 hr).1
      have hnot : ancB ops bs i j = false := by
        cases hb : ancB ops bs i j with
        | false => rfl
        | true =>
          have h2 := ready_anc hok hcl hj hb
          rcases Nat.lt_or_ge i listed.size with h' | h'
          · simp [h'] at h2 hiun; rw [hiun] at h2; cases h2
          · simp [Array.getElem?_eq_none h'] at h2
      obtain ⟨hap, hX⟩ := hfree j oj hoj hji hjun hnot
      have h2 := wpOp_putIf hoj hap (fun cs b => hsel i oi cs b hi) (fun cs b => hsel j oj cs b hoj) (fun c a w => hQ c a _ _ w) hy h1
      have hfree' : ∀ k ok, ops[k]? = some ok → k ≠ i → (listed.setIfInBounds j true).getD k true = false → ancB ops bs i k = false → oi.apart ops ok = true ∧ X k = true := fun k ok hk hki hun hno => by
        refine hfree k ok hk hki ?_ hno
        by_cases hjk : j = k
        · subst hjk; exact hjun
        · rw [getD_set_ne true hjk] at hun; exact hun
      refine wpOp_mono (fun a' w' h3 => ⟨h3.2.1, ih (listed.setIfInBounds j true) a' w' (hcl.add hok hj) hfree' (ready_mono hr (Ne.symm hji)) (yields_later h3.1 (h3.2.1 hX)) ?_⟩) h2
      rw [Array.setIfInBounds_comm _ _ hji]
      exact h3.2.2

theorem wpX_first_pure {X : Nat → Bool} (hok : ancOkB ops bs = true) {i : Nat} {oi : Oper} {v : Value} (hi : ops[i]? = some oi) (hsel : ∀ (j : Nat) (o : Oper) cs b, ops[j]? = some o → o.op ≠ .select cs b)
    (hQ : ∀ c a d v w, Q (.panic c) (a.put d v) w → Q (.panic c) a w) :
    ∀ (fuel : Nat) (listed : Array Bool) (a : Act) (w : World), Closed ops bs listed →
      (∀ j oj, ops[j]? = some oj → j ≠ i → listed.getD j true = false → ancB ops bs i j = false → oi.apart ops oj = true) →
      i ∈ Region.ready .any ops listed → YieldsIf P ops (fun _ => True) oi v a →
      wpX P ops Q X fuel (listed.setIfInBounds i true) (a.put oi.dst v) w → wpX P ops Q X (fuel + 1) listed a w := by
  intro fuel
  induction fuel with
  | zero =>
    intro listed a w hcl _ hr hy H
    refine ⟨fun h => (by rw [h] at hr; cases hr), fun j hj => ?_⟩
    by_cases hji : j = i
    · subst hji; exact hy.wpOp hi trivial ⟨fun _ => Ext.refl w, H⟩
    · have := ready_mono hj hji
      rw [H.1] at this
      cases this
  | succ fuel ih =>
    intro listed a w hcl hfree hr hy H
    refine ⟨fun h => (by rw [h] at hr; cases hr), fun j hj => ?_⟩
    by_cases hji : j = i
    · subst hji; exact hy.wpOp hi trivial ⟨fun _ => Ext.refl w, H⟩
    · have h1 := H.2 j (ready_mono hj hji)
      obtain ⟨hjun, oj, hoj, hall⟩ := mem_ready.1 hj
      have hiun := (mem_ready.1 hr).1
      have hnot : ancB ops bs i j = false := by
        cases hb : ancB ops bs i j with
        | false => rfl
        | true =>
          have h2 := ready_anc hok hcl hj hb
          rcases Nat.lt_or_ge i listed.size with h' | h'
          · simp [h'] at h2 hiun; rw [hiun] at h2; cases h2
          · simp [Array.getElem?_eq_none h'] at h2
      have hap := hfree j oj hoj hji hjun hnot
      have h2 := wpOp_putIf hoj hap (fun cs b => hsel i oi cs b hi) (fun cs b => hsel j oj cs b hoj) (fun c a w => hQ c a _ _ w) hy h1
      have hfree' : ∀ k ok, ops[k]? = some ok → k ≠ i → (listed.setIfInBounds j true).getD k true = false → ancB ops bs i k = false → oi.apart ops ok = true := fun k ok hk hki hun hno => by
        refine hfree k ok hk hki ?_ hno
        by_cases hjk : j = k
        · subst hjk; exact hjun
        · rw [getD_set_ne true hjk] at hun; exact hun
      refine wpOp_mono (fun a' w' h3 => ⟨h3.2.1, ih (listed.setIfInBounds j true) a' w' (hcl.add hok hj) hfree' (ready_mono hr (Ne.symm hji)) h3.1 ?_⟩) h2
      rw [Array.setIfInBounds_comm _ _ hji]
      exact h3.2.2

/-! #### the walk in the fixed order: 'flo': operations that only read; 'ext': one that may make new memory; 'one': one that is alone; 'both': either of two comes up -/
def pickOps (ops : Array Oper) (l : List Nat) : List Oper := l.filterMap (ops[·]?)
inductive Plan where
  | fin
  | flo (l : List Nat) (r : Plan)
  | pur (l : List Nat) (r : Plan)
  | ext (i : Nat) (r : Plan)
  | one (i : Nat) (r : Plan)
  | both (i j : Nat) (r q : Plan)
/-- b: the world of which the facts at hand speak; what is at hand has grown out of it -/
def ordWalk (P : Program) (ops : Array Oper) (Q : Exit → Act → World → Prop) : Plan → World → Act → World → Prop
  | .fin, _, a, w => Q .normal a w
  | .flo l r, b, a, w => wpQuiet P ops (fun w' => ∃ y : Xt b, w' = y.W) (fun a' => ordWalk P ops Q r b a' w) (pickOps ops l) a
  | .pur l r, b, a, w => wpQuiet P ops (fun _ => True) (fun a' => ordWalk P ops Q r b a' w) (pickOps ops l) a
  | .ext i r, b, a, w => wpList P ops (Exit.then (fun a' w' => Ext w w' ∧ ordWalk P ops Q r b a' w') Q) (pickOps ops [i]) a w
  | .one i r, _, a, w => wpList P ops (Exit.then (fun a' w' => ordWalk P ops Q r w' a' w') Q) (pickOps ops [i]) a w
  | .both i j r q, b, a, w => wpList P ops (Exit.then (fun a' w' => Ext w w' ∧ ordWalk P ops Q r b a' w') Q) (pickOps ops [i]) a w ∧ wpList P ops (Exit.then (fun a' w' => Ext w w' ∧ ordWalk P ops Q q b a' w') Q) (pickOps ops [j]) a w

def extIdx : Plan → List Nat
  | .fin => []
  | .flo _ r => extIdx r
  | .pur _ r => extIdx r
  | .ext i r => i :: extIdx r
  | .one _ r => extIdx r
  | .both i j r q => i :: j :: (extIdx r ++ extIdx q)
def inX (ops : Array Oper) (es : List Nat) (j : Nat) : Bool := es.contains j || ((ops[j]?).map (isFlo ·.op)).getD false
def floB (ops : Array Oper) (bs : Array Nat) (es : List Nat) (i : Nat) (listed : Array Bool) : Bool :=
  match ops[i]? with
  | some oi => isFlo oi.op && (Region.ready .any ops listed).contains i &&
      (List.range ops.size).all fun j => j == i || listed.getD j true || ancB ops bs i j || (match ops[j]? with | some oj => oi.apart ops oj && inX ops es j | none => true)
  | none => false
def purB (ops : Array Oper) (bs : Array Nat) (i : Nat) (listed : Array Bool) : Bool :=
  match ops[i]? with
  | some oi => isFlo oi.op && (Region.ready .any ops listed).contains i &&
      (List.range ops.size).all fun j => j == i || listed.getD j true || ancB ops bs i j || (match ops[j]? with | some oj => oi.apart ops oj | none => true)
  | none => false
def pursB (ops : Array Oper) (bs : Array Nat) : List Nat → Array Bool → Bool
  | [], _ => true
  | i :: l, listed => purB ops bs i listed && pursB ops bs l (listed.setIfInBounds i true)
def flosB (ops : Array Oper) (bs : Array Nat) (es : List Nat) : List Nat → Array Bool → Bool
  | [], _ => true
  | i :: l, listed => floB ops bs es i listed && flosB ops bs es l (listed.setIfInBounds i true)
def listAll : List Nat → Array Bool → Array Bool
  | [], listed => listed
  | i :: l, listed => listAll l (listed.setIfInBounds i true)
def ordB (ops : Array Oper) (bs : Array Nat) (es : List Nat) : Plan → Array Bool → Bool
  | .fin, listed => (Region.ready .any ops listed).isEmpty
  | .flo l r, listed => flosB ops bs es l listed && ordB ops bs es r (listAll l listed)
  | .pur l r, listed => pursB ops bs l listed && ordB ops bs es r (listAll l listed)
  | .ext i r, listed => ((Region.ready .any ops listed) == [i]) && ordB ops bs es r (listed.setIfInBounds i true)
  | .one i r, listed => ((Region.ready .any ops listed) == [i]) && !inX ops es i && ordB ops bs es r (listed.setIfInBounds i true)
  | .both i j r q, listed => ((Region.ready .any ops listed) == [i, j]) && ordB ops bs es r (listed.setIfInBounds i true) && ordB ops bs es q (listed.setIfInBounds j true)
def total : Plan → Nat
  | .fin => 0
  | .flo l r => l.length + total r
  | .pur l r => l.length + total r
  | .ext _ r => 1 + total r
  | .one _ r => 1 + total r
  | .both _ _ r q => 1 + max (total r) (total q)

theorem quiet_yields {o : Oper} {a : Act} {w : World} {K : Act → Prop} (ho : isFlo o.op = true) (h : o.quiet P a (fun w' => ∃ y : Xt w, w' = y.W) K) :
    ∃ v, (∀ u, Ext w u → (execOp a.eval o).run P u = .ok (.value v) u) ∧ K (a.put o.dst v) := by
  obtain ⟨v, h1, h2⟩ := h
  refine ⟨v, fun u hu => ?_, h2⟩
  have h3 := h1 u ⟨⟨u, hu⟩, rfl⟩
  unfold Oper.quietAt at h3
  cases hr : (execOp a.eval o).run P u with
  | ok n u' =>
    rw [hr] at h3
    obtain ⟨x, rfl⟩ := flo_value ho hr
    obtain ⟨e1, e2⟩ := h3
    rw [e1, e2]
  | halt x u' => rw [hr] at h3; exact h3.elim

theorem quiet_yields_pure {o : Oper} {a : Act} {K : Act → Prop} (ho : isFlo o.op = true) (h : o.quiet P a (fun _ => True) K) :
    ∃ v, (∀ u, (execOp a.eval o).run P u = .ok (.value v) u) ∧ K (a.put o.dst v) := by
  obtain ⟨v, h1, h2⟩ := h
  refine ⟨v, fun u => ?_, h2⟩
  have h3 := h1 u trivial
  unfold Oper.quietAt at h3
  cases hr : (execOp a.eval o).run P u with
  | ok n u' =>
    rw [hr] at h3
    obtain ⟨x, rfl⟩ := flo_value ho hr
    obtain ⟨e1, e2⟩ := h3
    rw [e1, e2]
  | halt x u' => rw [hr] at h3; exact h3.elim

theorem one_step {K : Act → World → Prop} {i : Nat} {o : Oper} {a : Act} {w : World} (hi : ops[i]? = some o) (h : wpList P ops (Exit.then K Q) (pickOps ops [i]) a w) : wpOp P ops Q i K a w := by
  have e : pickOps ops [i] = [o] := by simp [pickOps, hi]
  rw [e] at h
  unfold wpList at h
  unfold wpOp
  simp only [hi]
  split at h
  · rename_i hw
    rw [if_pos hw]
    refine h.imp (fun hh => ?_) (fun ⟨h1, a0, w0, h2⟩ => ⟨h1, a0, w0, h2⟩)
    unfold Oper.wp at hh ⊢
    generalize (execOp a.eval o).run P w = r at *
    cases r with
    | ok n w' =>
      cases n <;> simp only [Oper.upon] at hh ⊢ <;>
        first
          | exact hh
          | exact Calls.mono hh (fun e w'' he => by cases e <;> exact he)
    | halt x w' => cases x <;> simp only [Oper.upon] at hh ⊢ <;> exact hh
  · rename_i hw
    rw [if_neg hw]
    exact h

theorem X_of_ord (hok : ancOkB ops bs = true) (hsel : Region.noSelect ops = true) (hQ : ∀ c a d v w, Q (.panic c) (a.put d v) w → Q (.panic c) a w) (es : List Nat) :
    ∀ (p : Plan) (b : World) (listed : Array Bool) (a : Act) (w : World) (fuel : Nat), Ext b w → total p ≤ fuel → Closed ops bs listed → ordB ops bs es p listed = true → ordWalk P ops Q p b a w →
      wpX P ops Q (inX ops es) fuel listed a w := by
  intro p
  induction p with
  | fin =>
    intro b listed a w fuel _ _ _ hB h
    exact wpX_done (by simpa [ordB] using hB) h fuel
  | flo l r ih =>
    induction l with
    | nil =>
      intro b listed a w fuel hx hf hc hB h
      refine ih b listed a w fuel hx (by simpa [total] using hf) hc (by simpa [ordB, flosB, listAll] using hB) ?_
      simpa [ordWalk, pickOps, wpQuiet] using h
    | cons i l ihl =>
      intro b listed a w fuel hx hf hc hB h
      simp only [ordB, flosB, listAll, Bool.and_eq_true] at hB
      obtain ⟨⟨hi, hl⟩, hr⟩ := hB
      cases ho : ops[i]? with
      | none => simp [floB, ho] at hi
      | some oi =>
        simp only [floB, ho, Bool.and_eq_true] at hi
        obtain ⟨⟨hflo, hrd⟩, hfr⟩ := hi
        have hrd' : i ∈ Region.ready .any ops listed := by simpa using hrd
        obtain ⟨fuel, rfl⟩ : ∃ f, fuel = f + 1 := ⟨fuel - 1, by simp [total] at hf; omega⟩
        have hfree : ∀ j oj, ops[j]? = some oj → j ≠ i → listed.getD j true = false → ancB ops bs i j = false → oi.apart ops oj = true ∧ inX ops es j = true := by
          intro j oj hj hne hun hno
          have := List.all_eq_true.1 hfr j (List.mem_range.2 (Array.getElem?_eq_some_iff.1 hj).1)
          simpa [hne, hun, hno, hj] using this
        have hp : pickOps ops (i :: l) = oi :: pickOps ops l := by simp [pickOps, ho]
        simp only [ordWalk, hp] at h
        unfold wpQuiet at h
        have go : ∀ v, YieldsIf P ops (Ext w) oi v a → wpQuiet P ops (fun w' => ∃ y : Xt b, w' = y.W) (fun a' => ordWalk P ops Q r b a' w) (pickOps ops l) (a.put oi.dst v) → wpX P ops Q (inX ops es) (fuel + 1) listed a w := by
          intro v hy hk
          refine wpX_first hok ho (Region.noSelect_spec hsel) hQ fuel listed a w hc hfree hrd' hy ?_
          refine ihl b (listed.setIfInBounds i true) (a.put oi.dst v) w fuel hx (by simp [total] at hf ⊢; omega) (hc.add hok hrd') ?_ ?_
          · simp only [ordB, Bool.and_eq_true]; exact ⟨hl, hr⟩
          · simpa only [ordWalk] using hk
        split at h
        · rename_i hw
          obtain ⟨v, hv, hk⟩ := quiet_yields hflo h
          exact go v (.inl ⟨hw, fun u hu => hv u (hx.trans hu)⟩) hk
        · rename_i hw
          exact go undef (.inr ⟨by simpa using hw, rfl⟩) h
  | pur l r ih =>
    induction l with
    | nil =>
      intro b listed a w fuel hx hf hc hB h
      refine ih b listed a w fuel hx (by simpa [total] using hf) hc (by simpa [ordB, pursB, listAll] using hB) ?_
      simpa [ordWalk, pickOps, wpQuiet] using h
    | cons i l ihl =>
      intro b listed a w fuel hx hf hc hB h
      simp only [ordB, pursB, listAll, Bool.and_eq_true] at hB
      obtain ⟨⟨hi, hl⟩, hr⟩ := hB
      cases ho : ops[i]? with
      | none => simp [purB, ho] at hi
      | some oi =>
        simp only [purB, ho, Bool.and_eq_true] at hi
        obtain ⟨⟨hflo, hrd⟩, hfr⟩ := hi
        have hrd' : i ∈ Region.ready .any ops listed := by simpa using hrd
        obtain ⟨fuel, rfl⟩ : ∃ f, fuel = f + 1 := ⟨fuel - 1, by simp [total] at hf; omega⟩
        have hfree : ∀ j oj, ops[j]? = some oj → j ≠ i → listed.getD j true = false → ancB ops bs i j = false → oi.apart ops oj = true := by
          intro j oj hj hne hun hno
          have := List.all_eq_true.1 hfr j (List.mem_range.2 (Array.getElem?_eq_some_iff.1 hj).1)
          simpa [hne, hun, hno, hj] using this
        have hp : pickOps ops (i :: l) = oi :: pickOps ops l := by simp [pickOps, ho]
        simp only [ordWalk, hp] at h
        unfold wpQuiet at h
        have go : ∀ v, YieldsIf P ops (fun _ => True) oi v a → wpQuiet P ops (fun _ => True) (fun a' => ordWalk P ops Q r b a' w) (pickOps ops l) (a.put oi.dst v) → wpX P ops Q (inX ops es) (fuel + 1) listed a w := by
          intro v hy hk
          refine wpX_first_pure hok ho (Region.noSelect_spec hsel) hQ fuel listed a w hc hfree hrd' hy ?_
          refine ihl b (listed.setIfInBounds i true) (a.put oi.dst v) w fuel hx (by simp [total] at hf ⊢; omega) (hc.add hok hrd') ?_ ?_
          · simp only [ordB, Bool.and_eq_true]; exact ⟨hl, hr⟩
          · simpa only [ordWalk] using hk
        split at h
        · rename_i hw
          obtain ⟨v, hv, hk⟩ := quiet_yields_pure hflo h
          exact go v (.inl ⟨hw, fun u _ => hv u⟩) hk
        · rename_i hw
          exact go undef (.inr ⟨by simpa using hw, rfl⟩) h
  | ext i r ih =>
    intro b listed a w fuel hx hf hc hB h
    simp only [ordB, Bool.and_eq_true] at hB
    obtain ⟨hr, hr2⟩ := hB
    have hr' : Region.ready .any ops listed = [i] := by simpa using hr
    have hmem : i ∈ Region.ready .any ops listed := by rw [hr']; simp
    obtain ⟨_, o, ho, _⟩ := mem_ready.1 hmem
    obtain ⟨fuel, rfl⟩ : ∃ f, fuel = f + 1 := ⟨fuel - 1, by simp [total] at hf; omega⟩
    refine ⟨fun h0 => (by rw [hr'] at h0; cases h0), fun j hj => ?_⟩
    rw [hr'] at hj
    obtain rfl : j = i := by simpa using hj
    exact wpOp_mono (fun a' w' hh => ⟨fun _ => hh.1, ih b _ a' w' fuel (hx.trans hh.1) (by simp [total] at hf ⊢; omega) (hc.add hok hmem) hr2 hh.2⟩) (one_step ho h)
  | one i r ih =>
    intro b listed a w fuel hx hf hc hB h
    simp only [ordB, Bool.and_eq_true] at hB
    obtain ⟨⟨hr, hk⟩, hr2⟩ := hB
    have hr' : Region.ready .any ops listed = [i] := by simpa using hr
    have hmem : i ∈ Region.ready .any ops listed := by rw [hr']; simp
    obtain ⟨_, o, ho, _⟩ := mem_ready.1 hmem
    obtain ⟨fuel, rfl⟩ : ∃ f, fuel = f + 1 := ⟨fuel - 1, by simp [total] at hf; omega⟩
    refine ⟨fun h0 => (by rw [hr'] at h0; cases h0), fun j hj => ?_⟩
    rw [hr'] at hj
    obtain rfl : j = i := by simpa using hj
    have hnx : inX ops es j = false := by simpa using hk
    exact wpOp_mono (fun a' w' hh => ⟨fun hX => (by rw [hnx] at hX; cases hX), ih w' _ a' w' fuel (Ext.refl w') (by simp [total] at hf ⊢; omega) (hc.add hok hmem) hr2 hh⟩) (one_step ho h)
  | both i j r q ihr ihq =>
    intro b listed a w fuel hx hf hc hB h
    simp only [ordB, Bool.and_eq_true] at hB
    obtain ⟨⟨hr, hr2⟩, hq2⟩ := hB
    have hr' : Region.ready .any ops listed = [i, j] := by simpa using hr
    obtain ⟨fuel, rfl⟩ : ∃ f, fuel = f + 1 := ⟨fuel - 1, by simp [total] at hf; omega⟩
    have mi : i ∈ Region.ready .any ops listed := by rw [hr']; simp
    have mj : j ∈ Region.ready .any ops listed := by rw [hr']; simp
    refine ⟨fun h0 => (by rw [hr'] at h0; cases h0), fun k hk => ?_⟩
    rw [hr'] at hk
    rcases List.mem_cons.1 hk with rfl | hk
    · obtain ⟨_, o, ho, _⟩ := mem_ready.1 mi
      exact wpOp_mono (fun a' w' hh => ⟨fun _ => hh.1, ihr b _ a' w' fuel (hx.trans hh.1) (by simp [total] at hf ⊢; omega) (hc.add hok mi) hr2 hh.2⟩) (one_step ho h.1)
    · obtain rfl : k = j := by simpa using hk
      obtain ⟨_, o, ho, _⟩ := mem_ready.1 mj
      exact wpOp_mono (fun a' w' hh => ⟨fun _ => hh.1, ihq b _ a' w' fuel (hx.trans hh.1) (by simp [total] at hf ⊢; omega) (hc.add hok mj) hq2 hh.2⟩) (one_step ho h.2)

/-- A REGION THAT DRAWS ITS ORDER, WALKED IN ONE ORDER. 'bs': of each operation those that come ahead of it in every order, as bits. -/
theorem wp_region_ord {id : Nat} {a : Act} {w : World} {l : List Oper} (bs : List Nat) (p : Plan) (hm : P.follows .mixedOrders = true)
    (hB : (ancOkB l.toArray bs.toArray && Region.noSelect l.toArray && ordB l.toArray bs.toArray (extIdx p) p (Array.replicate l.toArray.size false) && decide (total p ≤ l.toArray.size)) = true)
    (hQ : ∀ c a d v w, Q (.panic c) (a.put d v) w → Q (.panic c) a w)
    (h : ordWalk P l.toArray Q p w.drew a w.drew) : (Code.region id l.toArray true).wp P Q a w := by
  simp only [Bool.and_eq_true, decide_eq_true_eq] at hB
  obtain ⟨⟨⟨h1, h2⟩, h3⟩, h4⟩ := hB
  refine wp_region_any hm (wpAny_of_X _ _ _ _ (X_of_ord h1 h2 hQ _ p w.drew _ a w.drew _ (Ext.refl _) h4 ?_ h3 h))
  intro j hj
  exfalso
  rcases Nat.lt_or_ge j l.toArray.size with h' | h'
  · simp [Array.getD] at hj
  · simp [Array.getD] at hj

theorem pick_nil : pickOps ops [] = [] := rfl
/-- the operation of number i, found by going down the list -/
def nth : List Oper → Nat → Option Oper
  | [], _ => none
  | o :: _, 0 => some o
  | _ :: l, i + 1 => nth l i
theorem nth_eq : ∀ (l : List Oper) (i : Nat), nth l i = l[i]?
  | [], _ => by simp [nth]
  | _ :: _, 0 => rfl
  | _ :: l, i + 1 => by simp [nth, nth_eq l i]
theorem pick_cons {i : Nat} {o : Oper} {ol : List Oper} {l : List Nat} {r : List Oper} (h : nth ol i = some o) (k : pickOps ol.toArray l = r) : pickOps ol.toArray (i :: l) = o :: r := by
  subst k; rw [nth_eq] at h; simp [pickOps, h]
/-- the steps of such a walk -/
def ordNext (P : Program) (ops : Array Oper) (Q : Exit → Act → World → Prop) (r : Plan) (b w : World) (a' : Act) (w' : World) : Prop := Ext w w' ∧ ordWalk P ops Q r b a' w'
theorem ordNext.mk {r : Plan} {b w w' : World} {a : Act} (x : Ext w w') (h : ordWalk P ops Q r b a w') : ordNext P ops Q r b w a w' := ⟨x, h⟩
theorem ord_flo {l : List Nat} {r : Plan} {a : Act} {b w : World} {ol : List Oper} (hp : pickOps ops l = ol)
    (h : wpQuiet P ops (fun w' => ∃ y : Xt b, w' = y.W) (fun a' => ordWalk P ops Q r b a' w) ol a) : ordWalk P ops Q (.flo l r) b a w := by
  subst hp; exact h
theorem ord_pur {l : List Nat} {r : Plan} {a : Act} {b w : World} {ol : List Oper} (hp : pickOps ops l = ol)
    (h : wpQuiet P ops (fun _ => True) (fun a' => ordWalk P ops Q r b a' w) ol a) : ordWalk P ops Q (.pur l r) b a w := by
  subst hp; exact h
theorem ord_ext {i : Nat} {r : Plan} {a : Act} {b w : World} {o : Oper} (hp : pickOps ops [i] = [o])
    (h : ∀ K : Act → World → Prop, (∀ a' w', ordNext P ops Q r b w a' w' → K a' w') → wpList P ops (Exit.then K Q) [o] a w) : ordWalk P ops Q (.ext i r) b a w := by
  show wpList P ops _ (pickOps ops [i]) a w
  rw [hp]; exact h _ fun _ _ h => h
theorem ord_one {i : Nat} {r : Plan} {a : Act} {b w : World} {o : Oper} (hp : pickOps ops [i] = [o])
    (h : ∀ K : Act → World → Prop, (∀ a' w', ordWalk P ops Q r w' a' w' → K a' w') → wpList P ops (Exit.then K Q) [o] a w) : ordWalk P ops Q (.one i r) b a w := by
  show wpList P ops _ (pickOps ops [i]) a w
  rw [hp]; exact h _ fun _ _ h => h
theorem ord_fin {a : Act} {b w : World} (h : Q .normal a w) : ordWalk P ops Q .fin b a w := h
end

end Go.Proofs.Yteklohamkmiphaa
namespace Go.Proofs.Yteklohamkmiphaa
open Go.RowKit

theorem elemWords : Elem Try.prog 30 45 1 4 (.int .u32 0) := ⟨by kernel_rfl, by kernel_rfl, rfl, by omega⟩
end Go.Proofs.Yteklohamkmiphaa
namespace Go.Proofs.Yteklohamkmiphaa
open Go.RowKit

set_option maxRecDepth 100000 in
set_option maxHeartbeats 400000 in
theorem clone_words (A : Option Addr) (n c : Nat) (xs : List Value) (w : World) (h : Sl w 1 A n c xs) (h1 : ∀ u ∈ xs, u.oneCell' = true) (hn : n * 4 ≤ 140737488355328) :
    Calls Try.prog 58 #[.slice A n c] w fun e w' => ∃ A' c', e = .returned (.slice A' n c') ∧ Own w' w.heap.size 45 1 A' n c' xs ∧ Ext w w' := by
  have hnil := fun (W : World) => Lib.run_eql_slice_nil (P := Try.prog) W 30 45 A n c 0 0 Try.underlying30
  rcases A with _ | a
  · obtain rfl : c = 0 := h.2.2.2.1 rfl
    have hn0 : n = 0 := by have := h.2.1; omega
    subst hn0
    have hx : xs = [] := List.eq_nil_of_length_eq_zero (by simpa using h.1)
    subst hx
    go_enter Try.func58, Try.ntmps58
    go_wp2
    go_ret
    exact ⟨none, 0, rfl, Own.nil _ _ _ _, Ext.refl _⟩
  · go_enter Try.func58, Try.ntmps58
    go_wp2_with (at_builtin; refine wpList_append_gen _ elemWords w.heap.size _ _ (by rfl) (by rfl) _ 0 0 [] (by rfl) (Own.empty _ _ _ _ _) (some a) n c xs (by rfl) (h.ext ((Ext.refl w).alloc _)) h1 (by omega) (by omega) (by simp) ?_; intro A' c' w1 ho1 hg1 hk1)
    go_ret
    refine ⟨A', c', by simp, by simpa using ho1, ?_⟩
    exact ((Ext.refl w).alloc _).grown hg1 (by simp [blk])

set_option maxRecDepth 100000 in
set_option maxHeartbeats 400000 in
theorem sameWords_diff (A1 A2 : Option Addr) (n1 n2 c1 c2 : Nat) (w : World) (hne : ((n1 : Int) != (n2 : Int)) = true) :
    Calls Try.prog 59 #[.slice A1 n1 c1, .slice A2 n2 c2] w fun e w' => e = .returned (.bool false) ∧ Ext w w' := by
  go_enter Try.func59, Try.ntmps59
  go_wp2
  go_ret
  exact ⟨rfl, Ext.refl _⟩

theorem getD_ext {l1 l2 : List Int} (hl : l1.length = l2.length) : (∀ k, k < l1.length → l1.getD k 0 = l2.getD k 0) ↔ l1 = l2 := by
  constructor
  · intro h
    refine List.ext_getElem hl fun k h1 h2 => ?_
    have := h k h1
    simpa [List.getD_eq_getElem?_getD, List.getElem?_eq_getElem h1, List.getElem?_eq_getElem h2] using this
  · rintro rfl k _; rfl

set_option maxRecDepth 100000 in
set_option maxHeartbeats 400000 in
theorem sameWords_same (A1 A2 : Option Addr) (n c1 c2 : Nat) (l1 l2 : List Int) (w : World) (h1 : Sl w 1 A1 n c1 (wds l1)) (h2 : Sl w 1 A2 n c2 (wds l2)) :
    Calls Try.prog 59 #[.slice A1 n c1, .slice A2 n c2] w fun e w' => e = .returned (.bool (decide (l1 = l2))) ∧ Ext w w' := by
  have hm := h1.le
  have hl1 := Lib.hid h1.wlen
  have hl2 := Lib.hid h2.wlen
  have he : ((n : Int) != (n : Int)) = false := by simp
  go_enter Try.func59, Try.ntmps59
  go_wp2
  go_loopw [5] (fun v wr => ∃ k : Nat, k ≤ n ∧ v = .int .i64 k ∧ (∀ j, j < k → l1.getD j 0 = l2.getD j 0) ∧ ∃ m, wr = w.drewN m) (fun v _ => n - (intOf v).toNat)
  case atStart => exact ⟨0, Nat.zero_le _, rfl, fun j hj => absurd hj (by omega), 0, rfl⟩
  case round =>
    obtain ⟨k, hk, rfl, hall, m, rfl⟩ := hrel
    have H := Lib.hid hall
    clear hall
    by_cases hlt : k < n
    · obtain ⟨a1, ha1, hc1, _⟩ := h1.word hlt
      obtain ⟨a2, ha2, hc2, _⟩ := h2.word hlt
      have T : Hid (k < l1.length) := by show k < l1.length; rw [hl1.out]; exact hlt
      by_cases hq : (l1[k]?.getD 0 != l2[k]?.getD 0) = true
      · go_wp2
        go_quiet (fail)
        go_wp2
        go_ret
        refine ⟨ret_bool (Eq.symm (decide_eq_false fun e => ?_)), ((Ext.refl w).drewN _).drewN _⟩
        rw [e] at hq
        simp at hq
      · have hq' : (l1[k]?.getD 0 != l2[k]?.getD 0) = false := by simpa using hq
        have Q := Lib.hid hq
        clear hq
        go_wp2
        go_quiet (fail)
        go_wp2
        go_roundw
        case rel =>
          refine ⟨k + 1, by omega, by go_num, fun j hj => ?_, _, rfl⟩
          by_cases hjk : j < k
          · exact H.out j hjk
          · obtain rfl : j = k := by omega
            simpa [List.getD_eq_getElem?_getD] using hq'
        case measure => simp [intOf]; omega
    · go_wp2
      go_ret
      refine ⟨ret_bool (Eq.symm (decide_eq_true ?_)), (Ext.refl w).drewN _⟩
      exact (getD_ext (by rw [hl1.out, hl2.out])).1 fun j hj => H.out j (by rw [hl1.out] at hj; omega)

theorem sameWords_any (A1 A2 : Option Addr) (n1 n2 c1 c2 : Nat) (l1 l2 : List Int) (w : World) (h1 : Sl w 1 A1 n1 c1 (wds l1)) (h2 : Sl w 1 A2 n2 c2 (wds l2)) :
    Calls Try.prog 59 #[.slice A1 n1 c1, .slice A2 n2 c2] w fun e w' => e = .returned (.bool (decide (l1 = l2))) ∧ Ext w w' := by
  by_cases hn : n1 = n2
  · subst hn; exact sameWords_same A1 A2 n1 c1 c2 l1 l2 w h1 h2
  · have hf : decide (l1 = l2) = false := decide_eq_false fun e => hn (by rw [← h1.wlen, ← h2.wlen, e])
    rw [hf]
    exact sameWords_diff A1 A2 n1 n2 c1 c2 w (by simp; omega)

def leqT (e1 : Int) (l1 : List Int) (e2 : Int) (l2 : List Int) : Bool := decide (l1.length = l2.length ∧ e1 ≤ e2 ∧ ∀ k, k < l1.length → l1.getD k 0 ≤ l2.getD k 0)
end Go.Proofs.Yteklohamkmiphaa
namespace Go.Proofs.Yteklohamkmiphaa
open Go.RowKit

set_option maxRecDepth 100000 in
set_option maxHeartbeats 400000 in
theorem sum_over (x y : Int) (w : World) (hx : 0 ≤ x ∧ x ≤ 4294967295) (hy : 0 ≤ y ∧ y ≤ 4294967295) (h : 4294967295 - y < x) :
    Calls Try.prog 67 #[.int .u32 x, .int .u32 y] w fun e w' => e = .returned (.tuple #[.int .u32 0, .int .u16 41]) ∧ w = w' := by
  obtain ⟨hx0, hx1⟩ := hx
  obtain ⟨hy0, hy1⟩ := hy
  go_enter Try.func67, Try.ntmps67
  go_wp2
  go_ret2
  exact ⟨rfl, rfl⟩
set_option maxRecDepth 100000 in
set_option maxHeartbeats 400000 in
theorem sum_ok (x y : Int) (w : World) (hx : 0 ≤ x ∧ x ≤ 4294967295) (hy : 0 ≤ y ∧ y ≤ 4294967295) (h : x ≤ 4294967295 - y) :
    Calls Try.prog 67 #[.int .u32 x, .int .u32 y] w fun e w' => e = .returned (.tuple #[.int .u32 (x + y), .int .u16 0]) ∧ w = w' := by
  obtain ⟨hx0, hx1⟩ := hx
  obtain ⟨hy0, hy1⟩ := hy
  go_enter Try.func67, Try.ntmps67
  go_wp2
  go_ret2
  exact ⟨rfl, rfl⟩

end Go.Proofs.Yteklohamkmiphaa
