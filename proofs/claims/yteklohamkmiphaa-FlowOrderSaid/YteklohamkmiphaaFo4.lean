/- What a search comes to: the least ways, whoever searched. cmp.Compare, cmp.Or, slices.Compare at counters, stamp.Cmp: what they answer. The plain law of StampOrder: times of one depth are ordered in part, with least and greatest bounds. The plain law of a stable sort. Times as values; antichains: which lists they are. Plain. The order of ways; a list with one more; what a graph's check and its ways are. Graphs in memory: ways, inner ways, nodes, edges. The type of a block. Conditions: each theorem states its own. -/
import Derived.Test.YteklohamkmiphaaFo3
import Derived.Test.YteklohamkmiphaaFo2
import Derived.Test.YteklohamkmiphaaFo1
namespace Go.Proofs.Yteklohamkmiphaa
open Go.RowKit

theorem wayLab_is {d p : Int} {w : Way} (h : GoodW d p w) : IsLab d p w (wayLab d w) := ⟨h, fun _ _ => ⟨rfl, Iff.rfl⟩⟩
theorem pl_refl {d p : Int} {w : Way} (h : GoodW d p w) : pl w w d = true := (leq_lab h h).2 (Lab.le_refl _ _)
theorem pl_trans {d p : Int} {u v w : Way} (hu : GoodW d p u) (hv : GoodW d p v) (hw : GoodW d p w) (a : pl u v d = true) (b : pl v w d = true) : pl u w d = true :=
  (leq_lab hu hw).2 (Lab.le_trans ((leq_lab hu hv).1 a) ((leq_lab hv hw).1 b))
theorem pl_anti {d p : Int} {v w : Way} (hv : GoodW d p v) (hw : GoodW d p w) (a : pl v w d = true) (b : pl w v d = true) : v = w := by
  have h1 := (leq_lab hv hw).1 a
  have h2 := (leq_lab hw hv).1 b
  have v0 := hv.l0; have v1 := hv.l1; have w0 := hw.l0; have w1 := hw.l1; have vp := hv.pe; have wp := hw.pe
  have eq : ∀ j : Nat, (j : Int) ≤ p → (placeT v.leave v.add v.enter d j).2 = (placeT w.leave w.add w.enter d j).2 := by
    intro j hj
    have c1 := (h1 j (by omega)).1
    have c2 := (h2 j (by omega)).1
    have d1 := hv.at d j
    have d2 := hw.at d j
    simp only [wayLab] at c1 c2
    omega
  have ek : v.leave = w.leave := by
    have c1 := (h1 (d - v.leave).toNat (by omega)).2
    have c2 := (h2 (d - w.leave).toNat (by omega)).2
    simp only [wayLab] at c1 c2
    omega
  have ea : v.add = w.add := by
    have := eq (d - v.leave).toNat (by omega)
    rw [placeT_eq (by omega), placeT_eq (by omega)] at this
    exact this
  have ee : v.enter = w.enter := by
    have hl : v.enter.length = w.enter.length := by omega
    refine List.ext_getElem hl fun k k1 k2 => ?_
    have := eq ((d - v.leave).toNat + 1 + k) (by omega)
    rw [placeT_gt (by omega), placeT_gt (by omega)] at this
    simp only at this
    rw [show ((((d - v.leave).toNat + 1 + k : Nat) : Int) - (d - v.leave) - 1).toNat = k by omega, show ((((d - v.leave).toNat + 1 + k : Nat) : Int) - (d - w.leave) - 1).toNat = k by omega] at this
    rw [List.getD_eq_getElem?_getD, List.getD_eq_getElem?_getD, List.getElem?_eq_getElem k1, List.getElem?_eq_getElem k2] at this
    exact this
  cases v; cases w; simp only at ek ea ee; rw [ek, ea, ee]

/-- what a move asks of a way: it is one, and leads to times of that depth -/
structure GoodB (p q : Int) (b : Way) : Prop where
  b0 : 0 ≤ b.leave
  b1 : b.leave ≤ p
  c0 : 0 ≤ b.add
  c1 : b.add ≤ 4294967295
  u : U32 b.enter
  q3 : q ≤ 3
  qe : q = p - b.leave + b.enter.length

theorem GoodB.goes {d p q : Int} {v b r : Way} (B : GoodB p q b) (hv : GoodW d p v) (h : thn v b = (r, 0)) : GoodW d q r := by
  have := then_at hv B.b0 B.b1 B.c0 B.c1 B.u (by rw [← B.qe]; exact B.q3) h
  rw [B.qe]; exact this.1
theorem GoodB.mono {d p q : Int} {v w b r : Way} (B : GoodB p q b) (hv : GoodW d p v) (hw : GoodW d p w) (l : pl v w d = true) (h : thn w b = (r, 0)) : ∃ s, thn v b = (s, 0) ∧ GoodW d q s ∧ pl s r d = true := by
  have b0 := B.b0; have b1 := B.b1; have qe := B.qe; have q3 := B.q3
  have ll := (leq_lab hv hw).1 l
  have ok1 := (then_ok hw B.b0 B.b1 B.c1).1 (by unfold thn at h; rw [h])
  obtain ⟨c, hc⟩ : ∃ c : Nat, (c : Int) = p - b.leave := ⟨(p - b.leave).toNat, by omega⟩
  have l1 := (ll c (by omega)).1
  have p1 := (hv.at _ c).1
  have p2 := (hw.at _ c).1
  simp only [wayLab] at l1
  rw [hc] at l1 p1 p2
  have ok2 := (then_ok hv B.b0 B.b1 B.c1).2 (by omega)
  have hs : thn v b = ((thn v b).1, 0) := by
    have : (thn v b).2 = 0 := ok2
    rw [← this]
  have s1 := (wayLab_is hv).step B.b0 B.b1 B.c0 B.c1 B.u (by omega) hs hc
  have s2 := (wayLab_is hw).step B.b0 B.b1 B.c0 B.c1 B.u (by omega) h hc
  rw [← qe] at s1 s2
  refine ⟨_, hs, s1.1, (s1.leq s2).2 ?_⟩
  intro j hj
  dsimp only
  refine ⟨?_, fun x => ?_⟩
  · by_cases c1 : j < c
    · rw [if_pos c1, if_pos c1]; exact (ll j (by omega)).1
    · rw [if_neg c1, if_neg c1]
      by_cases c2 : j = c
      · rw [if_pos c2, if_pos c2]; have := (ll j (by omega)).1; omega
      · rw [if_neg c2, if_neg c2]; exact Nat.le_refl _
  · have := (ll j (by omega)).2 (by omega)
    omega

theorem GOK.goodB {g : Gr} (G : GOK g) {p : Pt} {m : Mv Pt Wid} (h : m ∈ g.mvs p) (hp : (g.dep p).isSome) : GoodB (g.dp p) (g.dp (g.tgt m)) (g.mw m) ∧ (g.dep (g.tgt m)).isSome := by
  have mv := G.move p h hp
  refine ⟨?_, mv.2.1⟩
  have d := G.dp3 p
  have t := G.dp3 (g.tgt m)
  rcases mv.2.2.2 with ⟨q, rfl, q1, q2, q3⟩ | ⟨u, rfl, u1, u2, u3, u4, u5, u6, u7, u8, u9, u10, u11, u12⟩
  · exact ⟨Int.le_refl 0, d.1, Int.le_refl 0, (by decide : (0 : Int) ≤ 4294967295), fun x hx => by simp [Gr.mw, idW] at hx, t.2, by simp only [Gr.tgt, Gr.mw, idW]; rw [q2]; simp⟩
  · exact ⟨u6, u7, u10, u11, u12, t.2, u9⟩

/-- what a route comes to -/
inductive Route (g : Gr) (fr : Pt) : Pt → Way → Prop
  | nil : Route g fr fr idW
  | step {p : Pt} {w v : Way} {m : Mv Pt Wid} : Route g fr p w → m ∈ g.mvs p → thn w (g.mw m) = (v, 0) → Route g fr (g.tgt m) v
/-- of routes that are asked: with, or without, the one that does not move -/
def Found (g : Gr) (fr : Pt) (st : Prop) (q : Pt) (v : Way) : Prop := (st ∧ q = fr ∧ v = idW) ∨ ∃ p w m, Route g fr p w ∧ m ∈ g.mvs p ∧ thn w (g.mw m) = (v, 0) ∧ q = g.tgt m

theorem GOK.route {g : Gr} (G : GOK g) {fr : Pt} (hf : (g.dep fr).isSome) {q : Pt} {w : Way} (h : Route g fr q w) : (g.dep q).isSome ∧ GoodW (g.dp fr) (g.dp q) w := by
  induction h with
  | nil =>
    have d := G.dp3 fr
    exact ⟨hf, ⟨Int.le_refl 0, d.1, d.2, Int.le_refl 0, (by decide : (0 : Int) ≤ 4294967295), fun x hx => by simp [idW] at hx, by simp [idW], d.2⟩⟩
  | step r hm hv ih =>
    obtain ⟨b, t⟩ := G.goodB hm ih.1
    exact ⟨t, b.goes ih.2 hv⟩
theorem Found.route {g : Gr} {fr : Pt} {st : Prop} {q : Pt} {v : Way} (h : Found g fr st q v) : Route g fr q v := by
  rcases h with ⟨_, rfl, rfl⟩ | ⟨p, w, m, h1, h2, h3, rfl⟩
  · exact .nil
  · exact .step h1 h2 h3

/-- the least of all that is found, nothing else, of each place -/
structure Tab (g : Gr) (fr : Pt) (st : Prop) (K : Pt → List Way) : Prop where
  rt : ∀ q w, w ∈ K q → Found g fr st q w
  cl : ∀ q w, Found g fr st q w → ∃ x, x ∈ K q ∧ pl x w (g.dp fr) = true
  an : ∀ q, (K q).Pairwise (fun v w => pl v w (g.dp fr) = false ∧ pl w v (g.dp fr) = false)

theorem Tab.mem_iff {g : Gr} (G : GOK g) {fr : Pt} (hf : (g.dep fr).isSome) {st : Prop} {K L : Pt → List Way} (h1 : Tab g fr st K) (h2 : Tab g fr st L) (q : Pt) (w : Way) : w ∈ K q → w ∈ L q := by
  intro hw
  obtain ⟨x, x1, x2⟩ := h2.cl q w (h1.rt q w hw)
  obtain ⟨y, y1, y2⟩ := h1.cl q x (h2.rt q x x1)
  have gw := (G.route hf (h1.rt q w hw).route).2
  have gx := (G.route hf (h2.rt q x x1).route).2
  have gy := (G.route hf (h1.rt q y y1).route).2
  have yw := pl_trans gy gx gw y2 x2
  have eq : y = w := by
    refine Classical.byContradiction fun ne => ?_
    obtain ⟨a, ha⟩ := List.getElem?_of_mem y1
    obtain ⟨b, hb⟩ := List.getElem?_of_mem hw
    obtain ⟨a1, a2⟩ := List.getElem?_eq_some_iff.1 ha
    obtain ⟨b1, b2⟩ := List.getElem?_eq_some_iff.1 hb
    have pp := List.pairwise_iff_getElem.1 (h1.an q)
    rcases Nat.lt_trichotomy a b with c | c | c
    · have := (pp a b a1 b1 c).1; rw [a2, b2, yw] at this; simp at this
    · subst c; exact ne (by rw [← a2, ← b2])
    · have := (pp b a b1 a1 c).2; rw [a2, b2, yw] at this; simp at this
  have e2 : x = w := pl_anti gx gw x2 (eq ▸ y2)
  rw [← e2]; exact x1

/-- one table is as the other one, where both are put in the same strict order -/
theorem Tab.same {g : Gr} (G : GOK g) {fr : Pt} (hf : (g.dep fr).isSome) {st : Prop} {K L : Pt → List Way} (h1 : Tab g fr st K) (h2 : Tab g fr st L) (lt : Way → Way → Prop) (ir : ∀ a, ¬ lt a a) (tr : ∀ a b c, lt a b → lt b c → lt a c) {q : Pt} (s1 : (K q).Pairwise lt) (s2 : (L q).Pairwise lt) : K q = L q := by
  have mem : ∀ w, w ∈ K q ↔ w ∈ L q := fun w => ⟨h1.mem_iff G hf h2 q w, h2.mem_iff G hf h1 q w⟩
  have sorted : ∀ (a b : List Way), a.Pairwise lt → b.Pairwise lt → (∀ w, w ∈ a ↔ w ∈ b) → a = b := by
    intro a
    induction a with
    | nil => intro b _ _ h; exact (List.eq_nil_iff_forall_not_mem.2 fun x hx => by have := (h x).2 hx; simp at this).symm
    | cons x a ih =>
      intro b p1 p2 h
      cases b with
      | nil => have := (h x).1 (by simp); simp at this
      | cons y b =>
        have p1 := List.pairwise_cons.1 p1
        have p2 := List.pairwise_cons.1 p2
        have xy : x = y := by
          rcases List.mem_cons.1 ((h x).1 (by simp)) with e | e
          · exact e
          · rcases List.mem_cons.1 ((h y).2 (by simp)) with f | f
            · exact f.symm
            · exact absurd (tr _ _ _ (p1.1 y f) (p2.1 x e)) (ir _)
        subst xy
        congr 1
        refine ih b p1.2 p2.2 fun w => ⟨fun hw => ?_, fun hw => ?_⟩
        · rcases List.mem_cons.1 ((h w).1 (List.mem_cons_of_mem _ hw)) with e | e
          · subst e; exact absurd (p1.1 _ hw) (ir _)
          · exact e
        · rcases List.mem_cons.1 ((h w).2 (List.mem_cons_of_mem _ hw)) with e | e
          · subst e; exact absurd (p2.1 _ hw) (ir _)
          · exact e
  exact sorted _ _ s1 s2 mem

/-- what a search keeps: of each place the least of what came -/
structure Kn (g : Gr) (fr : Pt) (st : Prop) (Q : List Ent) (K : Pt → List Way) : Prop where
  of : ∀ q w, w ∈ K q → ∃ (a : Nat) (e : Ent), Q[a]? = some e ∧ (st ∨ a ≠ 0) ∧ e.at' = q ∧ e.w = w
  cl : ∀ (a : Nat) (e : Ent), Q[a]? = some e → (st ∨ a ≠ 0) → ∃ x, x ∈ K e.at' ∧ pl x e.w (g.dp fr) = true
  an : ∀ q, (K q).Pairwise (fun v w => pl v w (g.dp fr) = false ∧ pl w v (g.dp fr) = false)

section
variable {g : Gr} {fr : Pt} {st : Prop} {Q : List Ent} {i j : Nat} {K : Pt → List Way}

theorem BInv.good (B : BInv g fr st Q i j) (G : GOK g) (hf : (g.dep fr).isSome) {k : Nat} {e : Ent} (h : Q[k]? = some e) : (g.dep e.at').isSome ∧ GoodW (g.dp fr) (g.dp e.at') e.w := by
  obtain ⟨a, _, b, _⟩ := B.form G hf k e h
  exact ⟨a, b.1⟩

theorem BInv.route (B : BInv g fr st Q i j) : ∀ (k : Nat) (e : Ent), Q[k]? = some e → Route g fr e.at' e.w
  | 0, e, h => by rw [B.root] at h; injection h with h; subst h; exact .nil
  | k + 1, e, h => by
    obtain ⟨f, m, h1, h2, h3, h4, h5, h6, _⟩ := B.or k e h
    rw [h5]
    exact .step (BInv.route B e.p f h1) (List.mem_of_getElem? h3) h6
termination_by k => k
decreasing_by omega

/-- done: the table -/
theorem BInv.tab (B : BInv g fr st Q Q.length 0) (G : GOK g) (hf : (g.dep fr).isSome) (T : Kn g fr st Q K) : Tab g fr st K := by
  refine ⟨fun q w hw => ?_, fun q w hw => ?_, T.an⟩
  · obtain ⟨a, e, h1, h2, rfl, rfl⟩ := T.of q w hw
    cases a with
    | zero =>
      rw [B.root] at h1; injection h1 with h1; subst h1
      exact .inl ⟨h2.resolve_right (by simp), rfl, rfl⟩
    | succ a =>
      obtain ⟨f, m, a1, a2, a3, a4, a5, a6, _⟩ := B.or a e h1
      exact .inr ⟨f.at', f.w, m, B.route _ f a1, List.mem_of_getElem? a3, a6, a5⟩
  · -- of each route something at least as early came
    have step : ∀ (k : Nat) (e : Ent) (p : Pt) (w v : Way) (m : Mv Pt Wid), Q[k]? = some e → e.at' = p → GoodW (g.dp fr) (g.dp p) w → pl e.w w (g.dp fr) = true → m ∈ g.mvs p → thn w (g.mw m) = (v, 0) →
        ∃ (a : Nat) (f : Ent), Q[a]? = some f ∧ (st ∨ a ≠ 0) ∧ f.at' = g.tgt m ∧ pl f.w v (g.dp fr) = true := by
      intro k e p w v m h1 h2 h3 h4 h5 h6
      subst h2
      obtain ⟨e1, e2⟩ := B.good G hf h1
      obtain ⟨gb, gt⟩ := G.goodB h5 e1
      obtain ⟨s, s1, s2, s3⟩ := gb.mono e2 h3 h4 h6
      obtain ⟨n, hn⟩ := List.getElem?_of_mem h5
      obtain ⟨a, f, b1, b2, b3, b4, _⟩ := B.dn k n e m s h1 hn (by unfold lex; have := (List.getElem?_eq_some_iff.1 h1).1; omega) s1
      have fg := (B.good G hf b1).2
      rw [b3] at fg
      exact ⟨a, f, b1, b2, b3, pl_trans fg s2 (gb.goes h3 h6) b4 s3⟩
    have all : ∀ q w, Route g fr q w → ∃ (k : Nat) (e : Ent), Q[k]? = some e ∧ e.at' = q ∧ pl e.w w (g.dp fr) = true := by
      intro q w h
      induction h with
      | nil => exact ⟨0, _, B.root, rfl, pl_refl (G.route hf .nil).2⟩
      | step r hm hv ih =>
        obtain ⟨k, e, k1, k2, k3⟩ := ih
        obtain ⟨a, f, b1, b2, b3, b4⟩ := step k e _ _ _ _ k1 k2 (G.route hf r).2 k3 hm hv
        exact ⟨a, f, b1, b3, b4⟩
    have fin : ∃ (a : Nat) (f : Ent), Q[a]? = some f ∧ (st ∨ a ≠ 0) ∧ f.at' = q ∧ pl f.w w (g.dp fr) = true := by
      rcases hw with ⟨hs, rfl, rfl⟩ | ⟨p, u, m, h1, h2, h3, rfl⟩
      · exact ⟨0, _, B.root, .inl hs, rfl, pl_refl (G.route hf .nil).2⟩
      · obtain ⟨k, e, k1, k2, k3⟩ := all p u h1
        exact step k e p u w m k1 k2 (G.route hf h1).2 k3 h2 h3
    obtain ⟨a, f, b1, b2, rfl, b4⟩ := fin
    obtain ⟨x, x1, x2⟩ := T.cl a f b1 b2
    refine ⟨x, x1, ?_⟩
    obtain ⟨c, h, c1, _, c3, c4⟩ := T.of _ x x1
    have gh := (B.good G hf c1).2
    rw [c3, c4] at gh
    exact pl_trans gh (B.good G hf b1).2 (G.route hf hw.route).2 x2 b4

theorem Kn.start (g : Gr) (fr : Pt) (st : Prop) {K : Pt → List Way} (h1 : ∀ q, q ≠ fr → K q = []) (h2 : st → K fr = [idW]) (h3 : ¬ st → K fr = []) (hg : pl idW idW (g.dp fr) = true) : Kn g fr st [⟨[], fr, idW, 0, 0⟩] K := by
  refine ⟨fun q w hw => ?_, fun a e he hs => ?_, fun q => ?_⟩
  · by_cases hq : q = fr
    · subst hq
      by_cases hs : st
      · rw [h2 hs] at hw
        simp at hw
        exact ⟨0, _, rfl, .inl hs, rfl, hw.symm⟩
      · rw [h3 hs] at hw; simp at hw
    · rw [h1 q hq] at hw; simp at hw
  · have hl := (List.getElem?_eq_some_iff.1 he).1
    simp at hl
    subst hl
    simp at he
    subst he
    have hs := hs.resolve_right (by simp)
    exact ⟨idW, by simp [h2 hs], hg⟩
  · by_cases hq : q = fr
    · subst hq
      by_cases hs : st
      · rw [h2 hs]; exact List.pairwise_singleton _ _
      · rw [h3 hs]; exact List.Pairwise.nil
    · rw [h1 q hq]; exact List.Pairwise.nil

/-- one more: what it is never behind goes; in whatever order the rest stands -/
theorem Kn.push (T : Kn g fr st Q K) (B : BInv g fr st Q i j) (G : GOK g) (hf : (g.dep fr).isSome) {e : Ent} (ge : GoodW (g.dp fr) (g.dp e.at') e.w) {K' : Pt → List Way}
    (h1 : ∀ q, q ≠ e.at' → K' q = K q) (h2 : (K' e.at').Perm ((K e.at').filter (fun x => ! pl e.w x (g.dp fr)) ++ [e.w])) (h3 : ∀ x, x ∈ K e.at' → pl x e.w (g.dp fr) = false) (hQ : Q ≠ []) : Kn g fr st (Q ++ [e]) K' := by
  have hm : ∀ x, x ∈ K' e.at' ↔ (x ∈ K e.at' ∧ pl e.w x (g.dp fr) = false) ∨ x = e.w := fun x => by
    rw [h2.mem_iff, List.mem_append, List.mem_filter, List.mem_singleton]
    simp
  have len : Q.length ≠ 0 := fun h => hQ (List.length_eq_zero_iff.1 h)
  have old : ∀ {k : Nat} {f : Ent}, Q[k]? = some f → (Q ++ [e])[k]? = some f := fun {k f} hk => by
    rw [List.getElem?_append_left (List.getElem?_eq_some_iff.1 hk).1]; exact hk
  have new : (Q ++ [e])[Q.length]? = some e := by simp
  refine ⟨fun q w hw => ?_, fun a f he hs => ?_, fun q => ?_⟩
  · by_cases hq : q = e.at'
    · subst hq
      rcases (hm w).1 hw with ⟨h, _⟩ | rfl
      · obtain ⟨a, f, b1, b2, b3, b4⟩ := T.of _ w h
        exact ⟨a, f, old b1, b2, b3, b4⟩
      · exact ⟨Q.length, e, new, .inr len, rfl, rfl⟩
    · rw [h1 q hq] at hw
      obtain ⟨a, f, b1, b2, b3, b4⟩ := T.of _ w hw
      exact ⟨a, f, old b1, b2, b3, b4⟩
  · by_cases c : a < Q.length
    · rw [List.getElem?_append_left c] at he
      obtain ⟨x, x1, x2⟩ := T.cl a f he hs
      by_cases hq : f.at' = e.at'
      · by_cases hx : pl e.w x (g.dp fr) = true
        · refine ⟨e.w, by rw [hq]; exact (hm _).2 (.inr rfl), ?_⟩
          obtain ⟨b, h, b1, _, b3, b4⟩ := T.of _ x x1
          have gh := (B.good G hf b1).2
          have gf := (B.good G hf he).2
          rw [b3, b4] at gh
          rw [hq] at gh gf
          exact pl_trans ge gh gf hx x2
        · refine ⟨x, by rw [hq]; exact (hm _).2 (.inl ⟨hq ▸ x1, by simpa using hx⟩), x2⟩
      · exact ⟨x, by rw [h1 _ hq]; exact x1, x2⟩
    · have hl := (List.getElem?_eq_some_iff.1 he).1
      simp at hl
      have : a = Q.length := by omega
      subst this
      rw [new] at he; injection he with he; subst he
      exact ⟨e.w, (hm _).2 (.inr rfl), pl_refl ge⟩
  · by_cases hq : q = e.at'
    · subst hq
      refine (h2.pairwise_iff (fun {a b} h => ⟨h.2, h.1⟩)).2 ?_
      rw [List.pairwise_append]
      refine ⟨(T.an _).filter _, List.pairwise_singleton _ _, fun a ha b hb => ?_⟩
      have ha := List.mem_filter.1 ha
      simp at hb ha
      subst hb
      exact ⟨h3 a ha.1, ha.2⟩
    · rw [h1 q hq]; exact T.an q

/-- what is to be left out: something kept is never behind -/
theorem Kn.covered (T : Kn g fr st Q K) {q : Pt} {v : Way} (h : ∃ x, x ∈ K q ∧ pl x v (g.dp fr) = true) : ∃ (a : Nat) (e : Ent), Q[a]? = some e ∧ (st ∨ a ≠ 0) ∧ e.at' = q ∧ pl e.w v (g.dp fr) = true := by
  obtain ⟨x, x1, x2⟩ := h
  obtain ⟨a, e, b1, b2, b3, b4⟩ := T.of q x x1
  exact ⟨a, e, b1, b2, b3, by rw [b4]; exact x2⟩
theorem Kn.uncovered (T : Kn g fr st Q K) (B : BInv g fr st Q i j) (G : GOK g) (hf : (g.dep fr).isSome) {q : Pt} {v : Way} (gv : GoodW (g.dp fr) (g.dp q) v) (h : ∀ x, x ∈ K q → pl x v (g.dp fr) = false) :
    ∀ (a : Nat) (e : Ent), Q[a]? = some e → (st ∨ a ≠ 0) → e.at' = q → pl e.w v (g.dp fr) = false := by
  intro a e h1 h2 h3
  refine Bool.eq_false_iff.2 fun hp => ?_
  obtain ⟨x, x1, x2⟩ := T.cl a e h1 h2
  obtain ⟨b, f, b1, b2, b3, b4⟩ := T.of _ x x1
  have gf := (B.good G hf b1).2
  have ge := (B.good G hf h1).2
  rw [b3, b4] at gf
  rw [h3] at x1 gf ge
  have := h x x1
  rw [pl_trans gf ge gv x2 hp] at this
  simp at this
end
end Go.Proofs.Yteklohamkmiphaa
namespace Go.Proofs.Yteklohamkmiphaa
open Go.RowKit

def cmpT (x y : Int) : Int := if x < y then -1 else if y < x then 1 else 0
theorem cmpT_lt {x y : Int} (h : x < y) : cmpT x y = -1 := by unfold cmpT; rw [if_pos h]
theorem cmpT_gt {x y : Int} (h : y < x) : cmpT x y = 1 := by unfold cmpT; rw [if_neg (by omega), if_pos h]
theorem cmpT_self (x : Int) : cmpT x x = 0 := by unfold cmpT; rw [if_neg (by omega), if_neg (by omega)]

set_option maxRecDepth 100000 in
set_option maxHeartbeats 400000 in
theorem nan_int (x : Int) (w : World) : Calls Try.prog 87 #[.int .i64 x] w fun e w' => e = .returned (.bool false) ∧ w = w' := by
  have h : (x != x) = false := by simp
  go_enter Try.func87, Try.ntmps87
  go_wp2
  go_ret
  exact ⟨rfl, rfl⟩
set_option maxRecDepth 100000 in
set_option maxHeartbeats 400000 in
theorem nan_u64 (x : Int) (w : World) : Calls Try.prog 97 #[.int .u64 x] w fun e w' => e = .returned (.bool false) ∧ w = w' := by
  have h : (x != x) = false := by simp
  go_enter Try.func97, Try.ntmps97
  go_wp2
  go_ret
  exact ⟨rfl, rfl⟩
set_option maxRecDepth 100000 in
set_option maxHeartbeats 400000 in
theorem nan_u32 (x : Int) (w : World) : Calls Try.prog 88 #[.int .u32 x] w fun e w' => e = .returned (.bool false) ∧ w = w' := by
  have h : (x != x) = false := by simp
  go_enter Try.func88, Try.ntmps88
  go_wp2
  go_ret
  exact ⟨rfl, rfl⟩
set_option maxRecDepth 100000 in
set_option maxHeartbeats 400000 in
theorem compare_int (x y : Int) (w : World) : Calls Try.prog 71 #[.int .i64 x, .int .i64 y] w fun e w' => e = .returned (.int .i64 (cmpT x y)) ∧ w = w' := by
  rcases Int.lt_trichotomy x y with h | h | h
  · rw [cmpT_lt h]
    go_enter Try.func71, Try.ntmps71
    go_wp2_with (refine (nan_int _ _).mono ?_; rintro e w1 ⟨rfl, rfl⟩)
    go_ret
    exact ⟨rfl, rfl⟩
  · subst h
    rw [cmpT_self]
    go_enter Try.func71, Try.ntmps71
    go_wp2_with (refine (nan_int _ _).mono ?_; rintro e w1 ⟨rfl, rfl⟩)
    go_ret
    exact ⟨rfl, rfl⟩
  · rw [cmpT_gt h]
    go_enter Try.func71, Try.ntmps71
    go_wp2_with (refine (nan_int _ _).mono ?_; rintro e w1 ⟨rfl, rfl⟩)
    go_ret
    exact ⟨rfl, rfl⟩
set_option maxRecDepth 100000 in
set_option maxHeartbeats 400000 in
theorem compare_u64 (x y : Int) (w : World) : Calls Try.prog 89 #[.int .u64 x, .int .u64 y] w fun e w' => e = .returned (.int .i64 (cmpT x y)) ∧ w = w' := by
  rcases Int.lt_trichotomy x y with h | h | h
  · rw [cmpT_lt h]
    go_enter Try.func89, Try.ntmps89
    go_wp2_with (refine (nan_u64 _ _).mono ?_; rintro e w1 ⟨rfl, rfl⟩)
    go_ret
    exact ⟨rfl, rfl⟩
  · subst h
    rw [cmpT_self]
    go_enter Try.func89, Try.ntmps89
    go_wp2_with (refine (nan_u64 _ _).mono ?_; rintro e w1 ⟨rfl, rfl⟩)
    go_ret
    exact ⟨rfl, rfl⟩
  · rw [cmpT_gt h]
    go_enter Try.func89, Try.ntmps89
    go_wp2_with (refine (nan_u64 _ _).mono ?_; rintro e w1 ⟨rfl, rfl⟩)
    go_ret
    exact ⟨rfl, rfl⟩
set_option maxRecDepth 100000 in
set_option maxHeartbeats 400000 in
theorem compare_u32 (x y : Int) (w : World) : Calls Try.prog 72 #[.int .u32 x, .int .u32 y] w fun e w' => e = .returned (.int .i64 (cmpT x y)) ∧ w = w' := by
  rcases Int.lt_trichotomy x y with h | h | h
  · rw [cmpT_lt h]
    go_enter Try.func72, Try.ntmps72
    go_wp2_with (refine (nan_u32 _ _).mono ?_; rintro e w1 ⟨rfl, rfl⟩)
    go_ret
    exact ⟨rfl, rfl⟩
  · subst h
    rw [cmpT_self]
    go_enter Try.func72, Try.ntmps72
    go_wp2_with (refine (nan_u32 _ _).mono ?_; rintro e w1 ⟨rfl, rfl⟩)
    go_ret
    exact ⟨rfl, rfl⟩
  · rw [cmpT_gt h]
    go_enter Try.func72, Try.ntmps72
    go_wp2_with (refine (nan_u32 _ _).mono ?_; rintro e w1 ⟨rfl, rfl⟩)
    go_ret
    exact ⟨rfl, rfl⟩

/-- lists of counters, the first that differs tells -/
def lexT : List Int → List Int → Int
  | [], [] => 0
  | [], _ :: _ => -1
  | _ :: _, [] => 1
  | x :: l, y :: m => if cmpT x y = 0 then lexT l m else cmpT x y
theorem cmpT_zero {x y : Int} : cmpT x y = 0 ↔ x = y := by
  unfold cmpT
  by_cases h1 : x < y
  · rw [if_pos h1]; omega
  · rw [if_neg h1]
    by_cases h2 : y < x
    · rw [if_pos h2]; omega
    · rw [if_neg h2]; omega

theorem lexT_step : ∀ (k : Nat) (l m : List Int), k < l.length → k < m.length → lexT (l.drop k) (m.drop k) = if cmpT (l.getD k 0) (m.getD k 0) = 0 then lexT (l.drop (k + 1)) (m.drop (k + 1)) else cmpT (l.getD k 0) (m.getD k 0) := by
  intro k l m h1 h2
  rw [List.drop_eq_getElem_cons h1, List.drop_eq_getElem_cons h2]
  simp [lexT, List.getD_eq_getElem?_getD, List.getElem?_eq_getElem h1, List.getElem?_eq_getElem h2]

set_option maxRecDepth 100000 in
set_option maxHeartbeats 400000 in
theorem lex_any (A1 A2 : Option Addr) (n1 n2 c1 c2 : Nat) (l1 l2 : List Int) (w : World) (h1 : Sl w 1 A1 n1 c1 (wds l1)) (h2 : Sl w 1 A2 n2 c2 (wds l2)) :
    Calls Try.prog 90 #[.slice A1 n1 c1, .slice A2 n2 c2] w fun e w' => e = .returned (.int .i64 (lexT l1 l2)) ∧ w = w' := by
  have hm1 := h1.le
  have hm2 := h2.le
  have hl1 := Lib.hid h1.wlen
  have hl2 := Lib.hid h2.wlen
  obtain ⟨r, hr⟩ : ∃ r, r = lexT l1 l2 := ⟨_, rfl⟩
  rw [← hr]
  have HR := Lib.hid hr
  clear hr
  go_enter Try.func90, Try.ntmps90
  go_wp2
  go_loop [11] (fun v => ∃ k : Nat, k ≤ n1 ∧ k ≤ n2 ∧ v = .int .i64 k ∧ r = lexT (l1.drop k) (l2.drop k)) (fun v => n1 - (intOf v).toNat)
  case atStart => exact ⟨0, Nat.zero_le _, Nat.zero_le _, rfl, by simpa using HR.out⟩
  case round =>
    obtain ⟨k, hk1, hk2, rfl, hrk⟩ := hrel
    have RK := Lib.hid hrk
    clear hrk
    by_cases q1 : k < n1
    · obtain ⟨a1, rfl, hc1, _⟩ := h1.word q1
      by_cases q2 : k < n2
      · obtain ⟨a2, rfl, hc2, _⟩ := h2.word q2
        have T := lexT_step k l1 l2 (by rw [hl1.out]; exact q1) (by rw [hl2.out]; exact q2)
        by_cases q3 : cmpT (l1.getD k 0) (l2.getD k 0) = 0
        · rw [if_pos q3] at T
          have HT := Lib.hid T
          have q4 : (cmpT (l1[k]?.getD 0) (l2[k]?.getD 0) != 0) = false := by rw [← List.getD_eq_getElem?_getD, ← List.getD_eq_getElem?_getD, q3]; rfl
          clear T q3
          go_wp2_with (refine (compare_u32 _ _ _).mono ?_; rintro e w1 ⟨rfl, rfl⟩)
          go_round
          case rel => exact ⟨k + 1, by omega, by omega, by go_num, by rw [RK.out, HT.out]⟩
          case measure => simp [intOf]; omega
        · rw [if_neg q3] at T
          have HT := Lib.hid T
          have q4 : (cmpT (l1[k]?.getD 0) (l2[k]?.getD 0) != 0) = true := by simpa [List.getD_eq_getElem?_getD] using q3
          clear T q3
          go_wp2_with (refine (compare_u32 _ _ _).mono ?_; rintro e w1 ⟨rfl, rfl⟩)
          go_ret
          exact ⟨ret_int (by rw [RK.out, HT.out]; simp [List.getD_eq_getElem?_getD]), rfl⟩
      · have e2 : k = n2 := by omega
        have T : lexT (l1.drop k) (l2.drop k) = 1 := by
          rw [List.drop_eq_getElem_cons (show k < l1.length by rw [hl1.out]; exact q1), List.drop_eq_nil_of_le (show l2.length ≤ k by rw [hl2.out]; omega)]; rfl
        have HT := Lib.hid T
        have E2 := Lib.hid e2
        clear T e2
        go_wp2
        go_ret
        exact ⟨ret_int (by rw [RK.out, HT.out]), rfl⟩
    · have e1 : k = n1 := by omega
      have E1 := Lib.hid e1
      clear e1
      by_cases q2 : n1 < n2
      · have T : lexT (l1.drop k) (l2.drop k) = -1 := by
          rw [List.drop_eq_nil_of_le (show l1.length ≤ k by rw [hl1.out]; omega), List.drop_eq_getElem_cons (show k < l2.length by rw [hl2.out, E1.out]; exact q2)]; rfl
        have HT := Lib.hid T
        clear T
        go_wp2
        go_ret
        exact ⟨ret_int (by rw [RK.out, HT.out]), rfl⟩
      · have T : lexT (l1.drop k) (l2.drop k) = 0 := by
          rw [List.drop_eq_nil_of_le (show l1.length ≤ k by rw [hl1.out]; omega), List.drop_eq_nil_of_le (show l2.length ≤ k by rw [hl2.out]; omega)]; rfl
        have HT := Lib.hid T
        clear T
        go_wp2
        go_ret
        exact ⟨ret_int (by rw [RK.out, HT.out]), rfl⟩

/-- the first of three that is not 0 -/
def orT (x y z : Int) : Int := if x = 0 then (if y = 0 then z else y) else x
/-! ### stamp.Cmp -/
def cmpTT (e1 : Int) (l1 : List Int) (e2 : Int) (l2 : List Int) : Int := orT (cmpT l1.length l2.length) (cmpT e1 e2) (lexT l1 l2)
end Go.Proofs.Yteklohamkmiphaa
namespace Go.Proofs.Yteklohamkmiphaa

theorem leq_iff (e1 : Int) (l1 : List Int) (e2 : Int) (l2 : List Int) : leqT e1 l1 e2 l2 = true ↔ l1.length = l2.length ∧ e1 ≤ e2 ∧ ∀ k, k < l1.length → l1.getD k 0 ≤ l2.getD k 0 := by
  unfold leqT
  exact decide_eq_true_iff
theorem leq_refl (e : Int) (l : List Int) : leqT e l e l = true := (leq_iff _ _ _ _).2 ⟨rfl, Int.le_refl _, fun _ _ => Int.le_refl _⟩
theorem leq_trans {e1 e2 e3 : Int} {l1 l2 l3 : List Int} (h : leqT e1 l1 e2 l2 = true) (k : leqT e2 l2 e3 l3 = true) : leqT e1 l1 e3 l3 = true := by
  rw [leq_iff] at *
  obtain ⟨a1, a2, a3⟩ := h
  obtain ⟨b1, b2, b3⟩ := k
  exact ⟨by omega, by omega, fun i hi => Int.le_trans (a3 i hi) (b3 i (by omega))⟩
theorem lex_le : ∀ (l m : List Int), l.length = m.length → (∀ k, k < l.length → l.getD k 0 ≤ m.getD k 0) → lexT l m ≤ 0
  | [], [], _, _ => Int.le_refl _
  | [], _ :: _, h, _ => by simp at h
  | _ :: _, [], h, _ => by simp at h
  | x :: l, y :: m, h, hh => by
    have h0 : x ≤ y := by simpa using hh 0 (by simp)
    have hr := lex_le l m (by simpa using h) (fun k hk => by simpa using hh (k + 1) (by simpa using hk))
    unfold lexT
    split
    · exact hr
    · unfold cmpT
      split
      · omega
      · split <;> omega
theorem lex_zero : ∀ (l m : List Int), lexT l m = 0 → l = m
  | [], [], _ => rfl
  | [], _ :: _, h => by simp [lexT] at h
  | _ :: _, [], h => by simp [lexT] at h
  | x :: l, y :: m, h => by
    unfold lexT at h
    by_cases hc : cmpT x y = 0
    · rw [if_pos hc] at h
      rw [cmpT_zero.1 hc, lex_zero l m h]
    · rw [if_neg hc] at h
      exact absurd h hc
theorem lex_self : ∀ l : List Int, lexT l l = 0
  | [] => rfl
  | x :: l => by
    unfold lexT
    rw [if_pos (cmpT_self x)]
    exact lex_self l

theorem cmp_zero {e1 e2 : Int} {l1 l2 : List Int} : cmpTT e1 l1 e2 l2 = 0 ↔ e1 = e2 ∧ l1 = l2 := by
  constructor
  · intro h
    unfold cmpTT orT at h
    by_cases h1 : cmpT (l1.length : Int) l2.length = 0
    · rw [if_pos h1] at h
      by_cases h2 : cmpT e1 e2 = 0
      · rw [if_pos h2] at h
        exact ⟨cmpT_zero.1 h2, lex_zero _ _ h⟩
      · rw [if_neg h2] at h
        exact absurd h h2
    · rw [if_neg h1] at h
      exact absurd h h1
  · rintro ⟨rfl, rfl⟩
    simp [cmpTT, orT, cmpT_self, lex_self]
theorem cmp_le {e1 e2 : Int} {l1 l2 : List Int} (h : leqT e1 l1 e2 l2 = true) : cmpTT e1 l1 e2 l2 ≤ 0 := by
  obtain ⟨a1, a2, a3⟩ := (leq_iff _ _ _ _).1 h
  unfold cmpTT orT
  rw [a1, cmpT_self, if_pos rfl]
  split
  · exact lex_le _ _ a1 a3
  · unfold cmpT
    split
    · omega
    · split <;> omega
theorem getD_ext' {l1 l2 : List Int} (hl : l1.length = l2.length) (h : ∀ k, k < l1.length → l1.getD k 0 = l2.getD k 0) : l1 = l2 := (getD_ext hl).1 h
theorem cmp_both {e1 e2 : Int} {l1 l2 : List Int} : (leqT e1 l1 e2 l2 = true ∧ leqT e2 l2 e1 l1 = true) ↔ cmpTT e1 l1 e2 l2 = 0 := by
  rw [cmp_zero]
  constructor
  · rintro ⟨h, k⟩
    rw [leq_iff] at h k
    obtain ⟨a1, a2, a3⟩ := h
    obtain ⟨b1, b2, b3⟩ := k
    exact ⟨by omega, getD_ext' a1 fun i hi => Int.le_antisymm (a3 i hi) (b3 i (by omega))⟩
  · rintro ⟨rfl, rfl⟩
    exact ⟨leq_refl _ _, leq_refl _ _⟩

end Go.Proofs.Yteklohamkmiphaa
namespace Go.Proofs.Yteklohamkmiphaa
open Go.RowKit

structure TotPre {α : Type} (cmp : α → α → Int) : Prop where
  neg : ∀ x y, cmp x y = -cmp y x
  trans : ∀ x y z, cmp x y ≤ 0 → cmp y z ≤ 0 → cmp x z ≤ 0
section
variable {α : Type} {cmp : α → α → Int}
theorem TotPre.refl (h : TotPre cmp) (x : α) : cmp x x = 0 := by have := h.neg x x; omega
/-- those alike x -/
def alike (cmp : α → α → Int) (x : α) (l : List α) : List α := l.filter fun y => cmp x y == 0
/-- m is l, sorted, those that are alike in their order -/
structure Stable (cmp : α → α → Int) (l m : List α) : Prop where
  sorted : m.Pairwise fun x y => cmp x y ≤ 0
  same : ∀ x, alike cmp x m = alike cmp x l
theorem Stable.nil : Stable cmp [] ([] : List α) := ⟨List.Pairwise.nil, fun _ => rfl⟩
theorem Stable.one (x : α) : Stable cmp [x] [x] := ⟨List.pairwise_singleton _ _, fun _ => rfl⟩
/-- what is sorted twice -/
theorem Stable.trans {l m n : List α} (h : Stable cmp l m) (k : Stable cmp m n) : Stable cmp l n := ⟨k.sorted, fun x => (k.same x).trans (h.same x)⟩
theorem Stable.mem (T : TotPre cmp) {l m : List α} (h : Stable cmp l m) (x : α) : x ∈ m ↔ x ∈ l := by
  have e := h.same x
  have key : ∀ n : List α, x ∈ alike cmp x n ↔ x ∈ n := fun n => by
    unfold alike
    rw [List.mem_filter]
    exact ⟨fun q => q.1, fun q => ⟨q, by rw [beq_iff_eq]; exact T.refl x⟩⟩
  rw [← key m, ← key l, e]
/-- there is one such list alone -/
theorem Stable.unique (T : TotPre cmp) : ∀ {m n l : List α}, Stable cmp l m → Stable cmp l n → m = n
  | [], [], _, _, _ => rfl
  | [], y :: n, l, h, k => absurd ((h.mem T y).2 ((k.mem T y).1 (List.mem_cons_self ..))) (List.not_mem_nil)
  | x :: m, [], l, h, k => absurd ((k.mem T x).2 ((h.mem T x).1 (List.mem_cons_self ..))) (List.not_mem_nil)
  | x :: m, y :: n, l, h, k => by
    have hxy : cmp x y ≤ 0 := by
      have : y ∈ x :: m := (h.mem T y).2 ((k.mem T y).1 (List.mem_cons_self ..))
      rcases List.mem_cons.1 this with rfl | q
      · rw [T.refl]; decide
      · exact (List.pairwise_cons.1 h.sorted).1 y q
    have hyx : cmp y x ≤ 0 := by
      have : x ∈ y :: n := (k.mem T x).2 ((h.mem T x).1 (List.mem_cons_self ..))
      rcases List.mem_cons.1 this with rfl | q
      · rw [T.refl]; decide
      · exact (List.pairwise_cons.1 k.sorted).1 x q
    have h0 : cmp x y = 0 := by rw [T.neg] at hyx; omega
    have e : alike cmp x (x :: m) = alike cmp x (y :: n) := (h.same x).trans (k.same x).symm
    have e1 : alike cmp x (x :: m) = x :: alike cmp x m := by
      show List.filter _ (x :: m) = _
      rw [List.filter_cons_of_pos (by simpa using T.refl x)]
      rfl
    have e2 : alike cmp x (y :: n) = y :: alike cmp x n := by
      show List.filter _ (y :: n) = _
      rw [List.filter_cons_of_pos (by simpa using h0)]
      rfl
    rw [e1, e2] at e
    injection e with e3 _
    subst e3
    have hm : Stable cmp m m := ⟨(List.pairwise_cons.1 h.sorted).2, fun _ => rfl⟩
    have hn : Stable cmp m n := ⟨(List.pairwise_cons.1 k.sorted).2, fun c => by
      have q : alike cmp c (x :: m) = alike cmp c (x :: n) := (h.same c).trans (k.same c).symm
      unfold alike at q ⊢
      by_cases hc : cmp c x = 0
      · rw [List.filter_cons_of_pos (by simpa using hc), List.filter_cons_of_pos (by simpa using hc)] at q
        injection q with _ q
        exact q.symm
      · rw [List.filter_cons_of_neg (by simpa using hc), List.filter_cons_of_neg (by simpa using hc)] at q
        exact q.symm⟩
    rw [Stable.unique T hm hn]
end
end Go.Proofs.Yteklohamkmiphaa
namespace Go.Proofs.Yteklohamkmiphaa

abbrev TV := Int × List Int
def tcmp (x y : TV) : Int := cmpTT x.1 x.2 y.1 y.2
def tleq (x y : TV) : Bool := leqT x.1 x.2 y.1 y.2
theorem cmpT_neg (x y : Int) : cmpT y x = -cmpT x y := by
  unfold cmpT
  repeat' split
  all_goals omega
theorem cmpT_pos {x y : Int} : cmpT x y < 0 ↔ x < y := by
  unfold cmpT
  repeat' split
  all_goals omega
theorem lexT_neg : ∀ l m : List Int, lexT m l = -lexT l m
  | [], [] => rfl
  | [], _ :: _ => rfl
  | _ :: _, [] => rfl
  | x :: l, y :: m => by
    simp only [lexT]
    rw [cmpT_neg x y]
    by_cases h : cmpT x y = 0
    · rw [if_pos (by omega), if_pos h]; exact lexT_neg l m
    · rw [if_neg (by omega), if_neg h]
theorem lexT_trans : ∀ l m n : List Int, lexT l m ≤ 0 → lexT m n ≤ 0 → lexT l n ≤ 0
  | [], [], n, _, h => h
  | [], _ :: _, [], _, h => by simp [lexT] at h
  | [], _ :: _, _ :: _, _, _ => by simp [lexT]
  | _ :: _, [], _, h, _ => by simp [lexT] at h
  | _ :: _, _ :: _, [], _, h => by simp [lexT] at h
  | x :: l, y :: m, z :: n, h, k => by
    simp only [lexT] at h k ⊢
    by_cases h1 : cmpT x y = 0
    · have e := cmpT_zero.1 h1
      subst e
      rw [if_pos h1] at h
      by_cases h2 : cmpT x z = 0
      · rw [if_pos h2] at k ⊢
        exact lexT_trans l m n h k
      · rw [if_neg h2] at k ⊢
        exact k
    · rw [if_neg h1] at h
      have l1 : x < y := cmpT_pos.1 (by omega)
      by_cases h2 : cmpT y z = 0
      · have e := cmpT_zero.1 h2
        subst e
        rw [if_neg h1]
        exact h
      · rw [if_neg h2] at k
        have l2 : y < z := cmpT_pos.1 (by omega)
        have l3 : cmpT x z < 0 := cmpT_pos.2 (by omega)
        rw [if_neg (by omega)]
        omega
theorem orT_le {a b c : Int} : orT a b c ≤ 0 ↔ a < 0 ∨ (a = 0 ∧ (b < 0 ∨ (b = 0 ∧ c ≤ 0))) := by
  unfold orT
  split
  · split <;> omega
  · omega
theorem tcmp_neg (x y : TV) : tcmp y x = -tcmp x y := by
  unfold tcmp cmpTT
  rw [cmpT_neg x.2.length, cmpT_neg x.1, lexT_neg x.2]
  unfold orT
  by_cases h1 : cmpT x.2.length y.2.length = 0
  · rw [if_pos (by omega), if_pos h1]
    by_cases h2 : cmpT x.1 y.1 = 0
    · rw [if_pos (by omega), if_pos h2]
    · rw [if_neg (by omega), if_neg h2]
  · rw [if_neg (by omega), if_neg h1]
theorem tcmp_trans (x y z : TV) (h : tcmp x y ≤ 0) (k : tcmp y z ≤ 0) : tcmp x z ≤ 0 := by
  unfold tcmp cmpTT at h k ⊢
  rw [orT_le] at h k ⊢
  rw [cmpT_pos, cmpT_zero, cmpT_pos, cmpT_zero] at h k ⊢
  rcases h with h | ⟨h1, h | ⟨h2, h3⟩⟩ <;> rcases k with k | ⟨k1, k | ⟨k2, k3⟩⟩
  · exact .inl (by omega)
  · exact .inl (by omega)
  · exact .inl (by omega)
  · exact .inl (by omega)
  · exact .inr ⟨by omega, .inl (by omega)⟩
  · exact .inr ⟨by omega, .inl (by omega)⟩
  · exact .inl (by omega)
  · exact .inr ⟨by omega, .inl (by omega)⟩
  · exact .inr ⟨by omega, .inr ⟨by omega, lexT_trans _ _ _ h3 k3⟩⟩
theorem tcmp_zero {x y : TV} : tcmp x y = 0 ↔ x = y := by
  unfold tcmp
  rw [cmp_zero]
  exact ⟨fun h => Prod.ext h.1 h.2, fun h => by rw [h]; exact ⟨rfl, rfl⟩⟩
theorem tcmp_lt_trans {x y z : TV} (h : tcmp x y < 0) (k : tcmp y z ≤ 0) : tcmp x z < 0 := by
  have h1 := tcmp_trans x y z (by omega) k
  rcases Int.lt_or_eq_of_le h1 with h2 | h2
  · exact h2
  · have e := tcmp_zero.1 h2
    subst e
    have := tcmp_neg x y
    omega
theorem tleq_refl (x : TV) : tleq x x = true := leq_refl _ _
theorem tleq_trans {x y z : TV} (h : tleq x y = true) (k : tleq y z = true) : tleq x z = true := leq_trans h k
theorem tleq_cmp {x y : TV} (h : tleq x y = true) : tcmp x y ≤ 0 := cmp_le h
theorem tleq_anti {x y : TV} (h : tleq x y = true) (k : tleq y x = true) : x = y := tcmp_zero.1 (cmp_both.1 ⟨h, k⟩)

/-! ### lists that rise -/
def Rising (l : List TV) : Prop := l.Pairwise fun x y => tcmp x y < 0
theorem rising_ext : ∀ {a b : List TV}, Rising a → Rising b → (∀ x, x ∈ a ↔ x ∈ b) → a = b
  | [], [], _, _, _ => rfl
  | [], y :: b, _, _, h => by have := (h y).2 (by simp); simp at this
  | x :: a, [], _, _, h => by have := (h x).1 (by simp); simp at this
  | x :: a, y :: b, ha, hb, h => by
    unfold Rising at ha hb
    rw [List.pairwise_cons] at ha hb
    have e : x = y := by
      have h1 : x ∈ y :: b := (h x).1 (by simp)
      have h2 : y ∈ x :: a := (h y).2 (by simp)
      rcases List.mem_cons.1 h1 with h1 | h1
      · exact h1
      · rcases List.mem_cons.1 h2 with h2 | h2
        · exact h2.symm
        · have q1 := hb.1 x h1
          have q2 := ha.1 y h2
          have := tcmp_neg x y
          omega
    subst e
    rw [rising_ext ha.2 hb.2 (fun z => by
      constructor
      · intro hz
        rcases List.mem_cons.1 ((h z).1 (List.mem_cons_of_mem _ hz)) with e | e
        · have := ha.1 z hz
          rw [e, tcmp_zero.2 rfl] at this
          omega
        · exact e
      · intro hz
        rcases List.mem_cons.1 ((h z).2 (List.mem_cons_of_mem _ hz)) with e | e
        · have := hb.1 z hz
          rw [e, tcmp_zero.2 rfl] at this
          omega
        · exact e)]
theorem filter_len_le {α : Type} {p q : α → Bool} (h : ∀ z, p z = true → q z = true) : ∀ l : List α, (l.filter p).length ≤ (l.filter q).length
  | [] => Nat.le_refl _
  | x :: l => by
    have ih := filter_len_le h l
    rw [List.filter_cons, List.filter_cons]
    by_cases hp : p x = true
    · rw [if_pos hp, if_pos (h x hp)]; simpa using ih
    · rw [if_neg hp]
      split
      · exact Nat.le_succ_of_le ih
      · exact ih
theorem filter_less {α : Type} {p q : α → Bool} (h : ∀ z, p z = true → q z = true) {a : α} : ∀ {l : List α}, a ∈ l → p a = false → q a = true → (l.filter p).length < (l.filter q).length
  | x :: l, ha, hp, hq => by
    rw [List.filter_cons, List.filter_cons]
    rcases List.mem_cons.1 ha with rfl | ha
    · rw [if_neg (by rw [hp]; decide), if_pos hq]
      exact Nat.lt_succ_of_le (filter_len_le h l)
    · have ih := filter_less h ha hp hq
      by_cases hx : p x = true
      · rw [if_pos hx, if_pos (h x hx)]; simpa using ih
      · rw [if_neg hx]
        split
        · exact Nat.lt_succ_of_lt ih
        · exact ih
/-- a time of the list that none of the list is ahead of -/
def Least (L : List TV) (v : TV) : Prop := v ∈ L ∧ ∀ u ∈ L, tleq u v = true → u = v
theorem least_below : ∀ (n : Nat) (L : List TV) (v : TV), (L.filter fun u => decide (tcmp u v < 0)).length ≤ n → v ∈ L → ∃ m, Least L m ∧ tleq m v = true
  | n, L, v, hn, hv => by
    by_cases h : ∃ u ∈ L, tleq u v = true ∧ u ≠ v
    · obtain ⟨u, hu, huv, hne⟩ := h
      have hlt : tcmp u v < 0 := by
        have := tleq_cmp huv
        have h0 : tcmp u v ≠ 0 := fun e => hne (tcmp_zero.1 e)
        omega
      have hlen : (L.filter fun z => decide (tcmp z u < 0)).length < (L.filter fun z => decide (tcmp z v < 0)).length := by
        have hsub : ∀ z, decide (tcmp z u < 0) = true → decide (tcmp z v < 0) = true := fun z hz => by
          rw [decide_eq_true_iff] at hz ⊢
          exact tcmp_lt_trans hz (by omega)
        exact filter_less hsub hu (by rw [tcmp_zero.2 rfl]; decide) (by rw [decide_eq_true_iff]; exact hlt)
      match n, hn with
      | 0, hn => omega
      | n + 1, hn =>
        obtain ⟨m, h1, h2⟩ := least_below n L u (by omega) hu
        exact ⟨m, h1, tleq_trans h2 huv⟩
    · refine ⟨v, ⟨hv, fun u hu huv => ?_⟩, tleq_refl v⟩
      by_cases e : u = v
      · exact e
      · exact absurd ⟨u, hu, huv, e⟩ h
/-- M is the antichain of L -/
structure IsOf (L M : List TV) : Prop where
  rising : Rising M
  mem : ∀ v, v ∈ M ↔ Least L v
theorem IsOf.unique {L M N : List TV} (h : IsOf L M) (k : IsOf L N) : M = N := rising_ext h.rising k.rising fun v => (h.mem v).trans (k.mem v).symm
theorem Least.congr {L L' : List TV} (h : ∀ v, v ∈ L ↔ v ∈ L') (v : TV) : Least L v ↔ Least L' v :=
  ⟨fun q => ⟨(h v).1 q.1, fun u hu => q.2 u ((h u).2 hu)⟩, fun q => ⟨(h v).2 q.1, fun u hu => q.2 u ((h u).1 hu)⟩⟩
theorem IsOf.congr {L L' M : List TV} (h : ∀ v, v ∈ L ↔ v ∈ L') (k : IsOf L M) : IsOf L' M := ⟨k.rising, fun v => (k.mem v).trans (Least.congr h v)⟩
/-- beyond -/
def beyondV (M : List TV) (t : TV) : Bool := M.any fun x => tleq x t
theorem beyond_iff {M : List TV} {t : TV} : beyondV M t = true ↔ ∃ x ∈ M, tleq x t = true := by unfold beyondV; exact List.any_eq_true
/-- what the program has, when it has looked at so many of the sorted list -/
structure OfUpto (L S : List TV) (i : Nat) (M : List TV) : Prop where
  rising : Rising M
  mem : ∀ v, v ∈ M ↔ Least L v ∧ v ∈ S.take i
theorem OfUpto.zero (L S : List TV) : OfUpto L S 0 [] := ⟨List.Pairwise.nil, fun v => by simp⟩
theorem take_mem_succ {α : Type} {l : List α} {i : Nat} (h : i < l.length) (v : α) : v ∈ l.take (i + 1) ↔ v ∈ l.take i ∨ v = l[i] := by
  rw [List.take_succ_eq_append_getElem h, List.mem_append, List.mem_singleton]
theorem OfUpto.skip {L S M : List TV} {i : Nat} (h : OfUpto L S i M) (hi : i < S.length) (hb : beyondV M S[i] = true) : OfUpto L S (i + 1) M := by
  refine ⟨h.rising, fun v => ⟨fun hv => ?_, fun ⟨h1, h2⟩ => ?_⟩⟩
  · have := (h.mem v).1 hv
    exact ⟨this.1, (take_mem_succ hi v).2 (.inl this.2)⟩
  · rcases (take_mem_succ hi v).1 h2 with h2 | rfl
    · exact (h.mem v).2 ⟨h1, h2⟩
    · obtain ⟨x, hx, hxv⟩ := beyond_iff.1 hb
      have q := (h.mem x).1 hx
      have e := h1.2 x q.1.1 hxv
      rw [← e]
      exact hx
theorem OfUpto.put {L S M : List TV} {i : Nat} (h : OfUpto L S i M) (hi : i < S.length) (hs : S.Pairwise fun x y => tcmp x y ≤ 0) (hm : ∀ v, v ∈ S ↔ v ∈ L) (hb : beyondV M S[i] = false) : OfUpto L S (i + 1) (M ++ [S[i]]) := by
  have hno : ∀ x ∈ M, tleq x S[i] = false := fun x hx => by
    by_cases e : tleq x S[i] = true
    · rw [beyond_iff.2 ⟨x, hx, e⟩] at hb; exact absurd hb (by decide)
    · simpa using e
  have hat : ∀ v, v ∈ S → tcmp v S[i] < 0 → v ∈ S.take i := fun v hv hlt => by
    obtain ⟨j, hj, rfl⟩ := List.getElem_of_mem hv
    by_cases hji : j < i
    · exact List.mem_take_iff_getElem.2 ⟨j, by omega, rfl⟩
    · exfalso
      rcases Nat.lt_or_eq_of_le (Nat.le_of_not_lt hji) with q | q
      · have := List.pairwise_iff_getElem.1 hs i j hi hj q
        have := tcmp_neg S[i] S[j]
        omega
      · subst q
        rw [tcmp_zero.2 rfl] at hlt
        omega
  have hti : S[i] ∈ L := (hm _).1 (List.getElem_mem hi)
  have hleast : Least L S[i] := by
    refine ⟨hti, fun u hu huv => ?_⟩
    obtain ⟨m, h1, h2⟩ := least_below _ L u (Nat.le_refl _) hu
    have hmv := tleq_trans h2 huv
    by_cases e : m = S[i]
    · exact tleq_anti huv (e ▸ h2)
    · have hlt : tcmp m S[i] < 0 := by
        have := tleq_cmp hmv
        have h0 : tcmp m S[i] ≠ 0 := fun q => e (tcmp_zero.1 q)
        omega
      have hmM : m ∈ M := (h.mem m).2 ⟨h1, hat m ((hm m).2 h1.1) hlt⟩
      rw [hno m hmM] at hmv
      exact absurd hmv (by decide)
  refine ⟨?_, fun v => ⟨fun hv => ?_, fun ⟨h1, h2⟩ => ?_⟩⟩
  · unfold Rising
    refine List.pairwise_append.2 ⟨h.rising, List.pairwise_singleton _ _, fun x hx y hy => ?_⟩
    rw [List.mem_singleton] at hy
    subst hy
    have hxt := ((h.mem x).1 hx).2
    obtain ⟨j, hj, e⟩ := List.mem_take_iff_getElem.1 hxt
    have q := List.pairwise_iff_getElem.1 hs j i (by omega) hi (by omega)
    rw [e] at q
    have h0 : tcmp x S[i] ≠ 0 := fun z => by
      have e2 := tcmp_zero.1 z
      have := hno x hx
      rw [e2, tleq_refl] at this
      exact absurd this (by decide)
    omega
  · rcases List.mem_append.1 hv with hv | hv
    · have := (h.mem v).1 hv
      exact ⟨this.1, (take_mem_succ hi v).2 (.inl this.2)⟩
    · rw [List.mem_singleton] at hv
      subst hv
      exact ⟨hleast, (take_mem_succ hi _).2 (.inr rfl)⟩
  · rcases (take_mem_succ hi v).1 h2 with h2 | rfl
    · exact List.mem_append_left _ ((h.mem v).2 ⟨h1, h2⟩)
    · exact List.mem_append_right _ (by simp)
theorem OfUpto.done {L S M : List TV} (h : OfUpto L S S.length M) (hm : ∀ v, v ∈ S ↔ v ∈ L) : IsOf L M :=
  ⟨h.rising, fun v => by rw [h.mem v, List.take_length, hm]; exact ⟨fun q => q.1, fun q => ⟨q, q.1⟩⟩⟩
/-! ### the antichain as a function -/
def insT (v : TV) : List TV → List TV
  | [] => [v]
  | m :: r => if tcmp v m < 0 then v :: m :: r else if tcmp v m = 0 then m :: r else m :: insT v r
theorem insT_mem (v x : TV) : ∀ M, x ∈ insT v M ↔ x = v ∨ x ∈ M
  | [] => by simp [insT]
  | m :: r => by
    unfold insT
    split
    · simp
    · split
      · rename_i h
        rw [tcmp_zero.1 h]
        simp
      · simp only [List.mem_cons, insT_mem v x r]
        constructor
        · rintro (h | h | h)
          · exact .inr (.inl h)
          · exact .inl h
          · exact .inr (.inr h)
        · rintro (h | h | h)
          · exact .inr (.inl h)
          · exact .inl h
          · exact .inr (.inr h)
theorem insT_rising (v : TV) : ∀ {M}, Rising M → Rising (insT v M)
  | [], _ => List.pairwise_singleton _ _
  | m :: r, h => by
    unfold Rising at h
    obtain ⟨h1, h2⟩ := List.pairwise_cons.1 h
    unfold insT
    split
    · rename_i hv
      exact List.pairwise_cons.2 ⟨fun y hy => by
        rcases List.mem_cons.1 hy with rfl | hy
        · exact hv
        · exact tcmp_lt_trans hv (by have := h1 y hy; omega), h⟩
    · split
      · exact h
      · rename_i q1 q2
        have q3 := tcmp_neg m v
        exact List.pairwise_cons.2 ⟨fun y hy => by
          rcases (insT_mem v y r).1 hy with rfl | hy
          · omega
          · exact h1 y hy, insT_rising v h2⟩
instance (L : List TV) (v : TV) : Decidable (Least L v) := by unfold Least; exact inferInstance
def ofV (L : List TV) : List TV := (L.filter fun v => decide (Least L v)).foldr insT []
theorem foldr_ins : ∀ (L : List TV), Rising (L.foldr insT []) ∧ ∀ x, x ∈ L.foldr insT [] ↔ x ∈ L
  | [] => ⟨List.Pairwise.nil, fun _ => Iff.rfl⟩
  | v :: L => by
    have ih := foldr_ins L
    rw [List.foldr_cons]
    refine ⟨insT_rising v ih.1, fun x => ?_⟩
    rw [insT_mem, ih.2 x, List.mem_cons]
theorem ofV_is (L : List TV) : IsOf L (ofV L) := by
  have h := foldr_ins (L.filter fun v => decide (Least L v))
  refine ⟨h.1, fun v => ?_⟩
  unfold ofV
  rw [h.2 v, List.mem_filter, decide_eq_true_iff]
  exact ⟨fun q => q.2, fun q => ⟨q.1, q⟩⟩
theorem IsOf.eq {L M : List TV} (h : IsOf L M) : M = ofV L := h.unique (ofV_is L)
end Go.Proofs.Yteklohamkmiphaa
namespace Go.Proofs.Yteklohamkmiphaa
open Go.RowKit

def wcmp (a b : Way) : Int := orT (cmpT a.leave b.leave) (cmpT a.add b.add) (tcmp (0, a.enter) (0, b.enter))
def wlt (a b : Way) : Prop := wcmp a b < 0
instance (a b : Way) : Decidable (wlt a b) := by unfold wlt; exact inferInstance

theorem wcmp_lt {a b : Way} : wlt a b ↔ a.leave < b.leave ∨ (a.leave = b.leave ∧ (a.add < b.add ∨ (a.add = b.add ∧ tcmp (0, a.enter) (0, b.enter) < 0))) := by
  unfold wlt wcmp orT
  have h1 := cmpT_pos (x := a.leave) (y := b.leave)
  have h2 := cmpT_zero (x := a.leave) (y := b.leave)
  have h3 := cmpT_pos (x := a.add) (y := b.add)
  have h4 := cmpT_zero (x := a.add) (y := b.add)
  split
  · split <;> omega
  · omega
theorem wcmp_neg (a b : Way) : wcmp b a = - wcmp a b := by
  unfold wcmp orT
  rw [cmpT_neg a.leave b.leave, cmpT_neg a.add b.add, tcmp_neg (0, a.enter) (0, b.enter)]
  repeat' split
  all_goals omega
theorem wcmp_zero {a b : Way} : wcmp a b = 0 ↔ a = b := by
  unfold wcmp orT
  have h2 := cmpT_zero (x := a.leave) (y := b.leave)
  have h4 := cmpT_zero (x := a.add) (y := b.add)
  have h5 := tcmp_zero (x := (0, a.enter)) (y := (0, b.enter))
  constructor
  · intro h
    have e1 : a.leave = b.leave := by split at h <;> omega
    rw [if_pos (h2.2 e1)] at h
    have e2 : a.add = b.add := by split at h <;> omega
    rw [if_pos (h4.2 e2)] at h
    have e3 := (Prod.mk.inj (h5.1 h)).2
    cases a; cases b; simp only at e1 e2 e3; rw [e1, e2, e3]
  · rintro rfl
    rw [if_pos (h2.2 rfl), if_pos (h4.2 rfl)]
    exact h5.2 rfl
theorem wlt_irrefl (a : Way) : ¬ wlt a a := by
  unfold wlt
  rw [wcmp_zero.2 rfl]; omega
theorem wlt_trans (a b c : Way) (h : wlt a b) (k : wlt b c) : wlt a c := by
  rw [wcmp_lt] at *
  rcases h with h | ⟨h1, h2⟩
  · rcases k with k | ⟨k1, _⟩
    · exact .inl (by omega)
    · exact .inl (by omega)
  · rcases k with k | ⟨k1, k2⟩
    · exact .inl (by omega)
    · refine .inr ⟨by omega, ?_⟩
      rcases h2 with h2 | ⟨h2, h3⟩
      · rcases k2 with k2 | ⟨k2, _⟩
        · exact .inl (by omega)
        · exact .inl (by omega)
      · rcases k2 with k2 | ⟨k2, k3⟩
        · exact .inl (by omega)
        · refine .inr ⟨by omega, ?_⟩
          have t := tcmp_trans _ _ _ (Int.le_of_lt h3) (Int.le_of_lt k3)
          have : tcmp (0, a.enter) (0, c.enter) ≠ 0 := by
            intro e
            have e := tcmp_zero.1 e
            rw [e, tcmp_neg (0, b.enter) (0, c.enter)] at h3
            omega
          omega
theorem wlt_total (a b : Way) : wlt a b ∨ a = b ∨ wlt b a := by
  unfold wlt
  have := wcmp_neg a b
  by_cases h : wcmp a b = 0
  · exact .inr (.inl (wcmp_zero.1 h))
  · omega

/-! ## whether a graph may be -/
def innT (n : Nd) (x : Inn) : Bool := decide (0 ≤ x.i ∧ x.i < n.ins ∧ 0 ≤ x.o ∧ x.o < n.outs ∧ 0 ≤ x.w.leave ∧ x.w.leave ≤ n.depth ∧ ¬ (x.w.leave = n.depth ∧ 0 < x.w.add) ∧ madeT n.depth x.w ≤ 3 ∧ (n.turns = true ∨ madeT n.depth x.w = n.depth))
def nodeT (n : Nd) : Bool := decide (0 ≤ n.depth ∧ n.depth ≤ 3 ∧ 0 ≤ n.ins ∧ n.ins ≤ 8 ∧ 0 ≤ n.outs ∧ n.outs ≤ 8 ∧ n.inner.length ≤ 64) && n.inner.all (innT n)
def edgeT (g : Gr) (e : Pt × Pt) : Bool := e.1.o && ! e.2.o && (g.dep e.1).isSome && decide (g.dep e.1 = g.dep e.2)
def formT (g : Gr) : Bool := g.nodes.all nodeT && g.edges.all (edgeT g)
/-- its numbers are what they are in memory -/
def G32 (g : Gr) : Prop := ∀ n, n ∈ g.nodes → ∀ x, x ∈ n.inner → 0 ≤ x.w.add ∧ x.w.add ≤ 4294967295 ∧ U32 x.w.enter

theorem formT_ok {g : Gr} (h : formT g = true) (u : G32 g) : GOK g := by
  unfold formT at h
  simp only [Bool.and_eq_true, List.all_eq_true] at h
  refine ⟨fun n hn => ?_, fun n hn x hx => ?_, fun e he => ?_⟩
  · have a := h.1 n hn
    unfold nodeT at a
    simp only [Bool.and_eq_true, decide_eq_true_eq] at a
    omega
  · have a := h.1 n hn
    unfold nodeT at a
    simp only [Bool.and_eq_true, decide_eq_true_eq, List.all_eq_true] at a
    have b := a.2 x hx
    unfold innT at b
    have b := of_decide_eq_true b
    have c := u n hn x hx
    refine ⟨b.1, b.2.1, b.2.2.1, b.2.2.2.1, b.2.2.2.2.1, b.2.2.2.2.2.1, ?_, b.2.2.2.2.2.2.2.1, b.2.2.2.2.2.2.2.2, c.1, c.2.1, c.2.2⟩
    intro e
    have := b.2.2.2.2.2.2.1
    omega
  · have a := h.2 e he
    unfold edgeT at a
    simp only [Bool.and_eq_true, Bool.not_eq_true', decide_eq_true_eq] at a
    obtain ⟨d, hd⟩ := Option.isSome_iff_exists.1 a.1.2
    exact ⟨a.1.1.1, a.1.1.2, d, hd, by rw [← a.2]; exact hd⟩

/-- a route back to an input that does not increase the time -/
def Cyc (g : Gr) : Prop := ∃ q w, q.o = false ∧ (g.dep q).isSome ∧ Found g q False q w ∧ pl w idW (g.dp q) = true
def CheckIs (g : Gr) (e : Int) : Prop := (formT g = false ∧ e = 60) ∨ (formT g = true ∧ Cyc g ∧ e = 61) ∨ (formT g = true ∧ ¬ Cyc g ∧ e = 0)
theorem CheckIs.unique {g : Gr} {a b : Int} (h : CheckIs g a) (k : CheckIs g b) : a = b := by
  rcases h with ⟨h1, h2⟩ | ⟨h1, h2, h3⟩ | ⟨h1, h2, h3⟩ <;> rcases k with ⟨k1, k2⟩ | ⟨k1, k2, k3⟩ | ⟨k1, k2, k3⟩
  all_goals first | omega | (rw [h1] at k1; simp at k1; done) | exact absurd h2 k2 | exact absurd k2 h2

/-- the least ways to a place, in order -/
def LeastIs (g : Gr) (fr q : Pt) (l : List Way) : Prop := ∃ K, Tab g fr True K ∧ (K q).Pairwise wlt ∧ l = K q
theorem LeastIs.unique {g : Gr} (G : GOK g) {fr q : Pt} (hf : (g.dep fr).isSome) {l m : List Way} (h : LeastIs g fr q l) (k : LeastIs g fr q m) : l = m := by
  obtain ⟨K, h1, h2, rfl⟩ := h
  obtain ⟨L, k1, k2, rfl⟩ := k
  exact Tab.same G hf h1 k1 wlt wlt_irrefl wlt_trans h2 k2

def PlacesT (g : Gr) (fr tt : Pt) : Prop := (g.dep fr).isSome ∧ (g.dep tt).isSome ∧ tt.o = false
def WaysIs (g : Gr) (fr tt : Pt) (l : List Way) (e : Int) : Prop := (CheckIs g e ∧ e ≠ 0 ∧ l = []) ∨ (CheckIs g 0 ∧ ¬ PlacesT g fr tt ∧ e = 60 ∧ l = []) ∨ (CheckIs g 0 ∧ PlacesT g fr tt ∧ e = 0 ∧ LeastIs g fr tt l)
theorem CheckIs.form {g : Gr} (h : CheckIs g 0) : formT g = true := by
  rcases h with ⟨h1, h2⟩ | ⟨h1, h2, h3⟩ | ⟨h1, h2, h3⟩
  · omega
  · exact h1
  · exact h1
theorem WaysIs.unique {g : Gr} (u : G32 g) {fr tt : Pt} {l m : List Way} {a b : Int} (h : WaysIs g fr tt l a) (k : WaysIs g fr tt m b) : l = m ∧ a = b := by
  rcases h with ⟨h1, h2, h3⟩ | ⟨h1, h2, h3, h4⟩ | ⟨h1, h2, h3, h4⟩ <;> rcases k with ⟨k1, k2, k3⟩ | ⟨k1, k2, k3, k4⟩ | ⟨k1, k2, k3, k4⟩
  · exact ⟨by rw [h3, k3], h1.unique k1⟩
  · exact absurd (h1.unique k1) h2
  · exact absurd (h1.unique k1) h2
  · exact absurd (k1.unique h1) k2
  · exact ⟨by rw [h4, k4], by rw [h3, k3]⟩
  · exact absurd k2 h2
  · exact absurd (k1.unique h1) k2
  · exact absurd h2 k2
  · exact ⟨h4.unique (formT_ok h1.form u) h2.1 k4, by rw [h3, k3]⟩
end Go.Proofs.Yteklohamkmiphaa
namespace Go.Proofs.Yteklohamkmiphaa
open Go.RowKit

/-- a way that lies in memory -/
structure Pm where
  A : Option Addr
  c : Nat
  w : Way
def Pm.zero : Pm := ⟨none, 0, idW⟩
instance : Inhabited Pm := ⟨Pm.zero⟩
def pmC (x : Pm) : List Value := [.int .i64 x.w.leave, .int .u32 x.w.add, .slice x.A x.w.enter.length x.c]
def pmV (x : Pm) : Value := .agg #[.int .i64 x.w.leave, .int .u32 x.w.add, .slice x.A x.w.enter.length x.c]
theorem pmC_len (x : Pm) : (pmC x).length = 3 := rfl
theorem pmC_one (x : Pm) : ∀ u ∈ pmC x, u.oneCell' = true := by
  intro u hu
  simp only [pmC, List.mem_cons, List.not_mem_nil, or_false] at hu
  rcases hu with rfl | rfl | rfl <;> rfl
/-- its counters lie there -/
def PmR (w : World) (x : Pm) : Prop := Sl w 1 x.A x.w.enter.length x.c (wds x.w.enter)
/-- its numbers are what such are -/
def W64 (x : Way) : Prop := (-9223372036854775808 ≤ x.leave ∧ x.leave ≤ 9223372036854775807) ∧ (0 ≤ x.add ∧ x.add ≤ 4294967295) ∧ U32 x.enter ∧ x.enter.length ≤ 1000000

/-- an inner way in memory -/
structure Im where
  i : Int
  o : Int
  p : Pm
def Im.zero : Im := ⟨0, 0, Pm.zero⟩
instance : Inhabited Im := ⟨Im.zero⟩
def Im.v (x : Im) : Inn := ⟨x.i, x.o, x.p.w⟩
def imC (x : Im) : List Value := [.int .i64 x.i, .int .i64 x.o, .int .i64 x.p.w.leave, .int .u32 x.p.w.add, .slice x.p.A x.p.w.enter.length x.p.c]
def imV (x : Im) : Value := .agg #[.int .i64 x.i, .int .i64 x.o, .int .i64 x.p.w.leave, .int .u32 x.p.w.add, .slice x.p.A x.p.w.enter.length x.p.c]
theorem imC_len (x : Im) : (imC x).length = 5 := rfl
def I64 (z : Int) : Prop := -9223372036854775808 ≤ z ∧ z ≤ 9223372036854775807

/-- a node in memory -/
structure Nm where
  ins : Int
  outs : Int
  depth : Int
  A : Option Addr
  c : Nat
  inner : List Im
def Nm.zero : Nm := ⟨0, 0, 0, none, 0, []⟩
instance : Inhabited Nm := ⟨Nm.zero⟩
def Nm.v (x : Nm) : Nd := ⟨x.ins, x.outs, x.depth, x.inner.map Im.v⟩
def nmC (x : Nm) : List Value := [.int .i64 x.ins, .int .i64 x.outs, .int .i64 x.depth, .slice x.A x.inner.length x.c]
def nmV (x : Nm) : Value := .agg #[.int .i64 x.ins, .int .i64 x.outs, .int .i64 x.depth, .slice x.A x.inner.length x.c]
theorem nmC_len (x : Nm) : (nmC x).length = 4 := rfl
def edC (e : Pt × Pt) : List Value := [.int .i64 e.1.n, .bool e.1.o, .int .i64 e.1.p, .int .i64 e.2.n, .bool e.2.o, .int .i64 e.2.p]
def edV (e : Pt × Pt) : Value := .agg #[.int .i64 e.1.n, .bool e.1.o, .int .i64 e.1.p, .int .i64 e.2.n, .bool e.2.o, .int .i64 e.2.p]
def ptV (p : Pt) : Value := .agg #[.int .i64 p.n, .bool p.o, .int .i64 p.p]
theorem edC_len (e : Pt × Pt) : (edC e).length = 6 := rfl
/-- a graph in memory -/
structure Gm where
  NA : Option Addr
  Nc : Nat
  nodes : List Nm
  EA : Option Addr
  Ec : Nat
  edges : List (Pt × Pt)
def Gm.v (g : Gm) : Gr := ⟨g.nodes.map Nm.v, g.edges⟩
/-- a node's ways lie there -/
structure NmR (w : World) (x : Nm) : Prop where
  sl : Sl w 5 x.A x.inner.length x.c (x.inner.flatMap imC)
  ls : ∀ y ∈ x.inner, PmR w y.p
/-- a graph as readings give it -/
structure GmR (w : World) (g : Gm) : Prop where
  ns : Sl w 4 g.NA g.nodes.length g.Nc (g.nodes.flatMap nmC)
  nd : ∀ x ∈ g.nodes, NmR w x
  es : Sl w 6 g.EA g.edges.length g.Ec (g.edges.flatMap edC)
/-- its numbers are what such are -/
structure N64 (x : Nm) : Prop where
  ins : I64 x.ins
  outs : I64 x.outs
  depth : I64 x.depth
  inn : ∀ y ∈ x.inner, I64 y.i ∧ I64 y.o ∧ W64 y.p.w
def P64 (p : Pt) : Prop := I64 p.n ∧ I64 p.p
structure G64 (g : Gm) : Prop where
  nd : ∀ x ∈ g.nodes, N64 x
  ed : ∀ e ∈ g.edges, P64 e.1 ∧ P64 e.2
section
variable {w w' : World}
theorem PmR.ext {x : Pm} (h : PmR w x) (e : Ext w w') : PmR w' x := Sl.ext h e
theorem NmR.ext {x : Nm} (h : NmR w x) (e : Ext w w') : NmR w' x := ⟨h.sl.ext e, fun y hy => (h.ls y hy).ext e⟩
theorem GmR.ext {g : Gm} (h : GmR w g) (e : Ext w w') : GmR w' g := ⟨h.ns.ext e, fun x hx => (h.nd x hx).ext e, h.es.ext e⟩
theorem NmR.at {x : Nm} (h : NmR w x) {i : Nat} (hi : i < x.inner.length) : ∃ ad, x.A = some ad ∧ w.cell? (ad.add (i * 5)) = some (.int .i64 (x.inner.getD i Im.zero).i) ∧ w.cell? ⟨(ad.add (i * 5)).block, (ad.add (i * 5)).off + 1, none⟩ = some (.int .i64 (x.inner.getD i Im.zero).o) ∧
    w.cell? ⟨(ad.add (i * 5)).block, (ad.add (i * 5)).off + 2, none⟩ = some (.int .i64 (x.inner.getD i Im.zero).p.w.leave) ∧ w.cell? ⟨(ad.add (i * 5)).block, (ad.add (i * 5)).off + 3, none⟩ = some (.int .u32 (x.inner.getD i Im.zero).p.w.add) ∧
    w.cell? ⟨(ad.add (i * 5)).block, (ad.add (i * 5)).off + 4, none⟩ = some (.slice (x.inner.getD i Im.zero).p.A (x.inner.getD i Im.zero).p.w.enter.length (x.inner.getD i Im.zero).p.c) := by
  obtain ⟨ad, e, h0, h1⟩ := els_at imC 5 imC_len Im.zero h.sl rfl hi (by omega)
  exact ⟨ad, e, h0 _ rfl, h1 0 _ rfl, h1 1 _ rfl, h1 2 _ rfl, h1 3 _ rfl⟩
theorem GmR.nat {g : Gm} (h : GmR w g) {i : Nat} (hi : i < g.nodes.length) : ∃ ad, g.NA = some ad ∧ w.cell? (ad.add (i * 4)) = some (.int .i64 (g.nodes.getD i Nm.zero).ins) ∧ w.cell? ⟨(ad.add (i * 4)).block, (ad.add (i * 4)).off + 1, none⟩ = some (.int .i64 (g.nodes.getD i Nm.zero).outs) ∧
    w.cell? ⟨(ad.add (i * 4)).block, (ad.add (i * 4)).off + 2, none⟩ = some (.int .i64 (g.nodes.getD i Nm.zero).depth) ∧ w.cell? ⟨(ad.add (i * 4)).block, (ad.add (i * 4)).off + 3, none⟩ = some (.slice (g.nodes.getD i Nm.zero).A (g.nodes.getD i Nm.zero).inner.length (g.nodes.getD i Nm.zero).c) := by
  obtain ⟨ad, e, h0, h1⟩ := els_at nmC 4 nmC_len Nm.zero h.ns rfl hi (by omega)
  exact ⟨ad, e, h0 _ rfl, h1 0 _ rfl, h1 1 _ rfl, h1 2 _ rfl⟩
def edZ : Pt × Pt := (⟨0, false, 0⟩, ⟨0, false, 0⟩)
theorem GmR.eat {g : Gm} (h : GmR w g) {i : Nat} (hi : i < g.edges.length) : ∃ ad, g.EA = some ad ∧ w.cell? (ad.add (i * 6)) = some (.int .i64 (g.edges.getD i edZ).1.n) ∧ w.cell? ⟨(ad.add (i * 6)).block, (ad.add (i * 6)).off + 1, none⟩ = some (.bool (g.edges.getD i edZ).1.o) ∧
    w.cell? ⟨(ad.add (i * 6)).block, (ad.add (i * 6)).off + 2, none⟩ = some (.int .i64 (g.edges.getD i edZ).1.p) ∧ w.cell? ⟨(ad.add (i * 6)).block, (ad.add (i * 6)).off + 3, none⟩ = some (.int .i64 (g.edges.getD i edZ).2.n) ∧
    w.cell? ⟨(ad.add (i * 6)).block, (ad.add (i * 6)).off + 4, none⟩ = some (.bool (g.edges.getD i edZ).2.o) ∧ w.cell? ⟨(ad.add (i * 6)).block, (ad.add (i * 6)).off + 5, none⟩ = some (.int .i64 (g.edges.getD i edZ).2.p) := by
  obtain ⟨ad, e, h0, h1⟩ := els_at edC 6 edC_len edZ h.es rfl hi (by omega)
  exact ⟨ad, e, h0 _ rfl, h1 0 _ rfl, h1 1 _ rfl, h1 2 _ rfl, h1 3 _ rfl, h1 4 _ rfl⟩
end
theorem G64.g32 {g : Gm} (h : G64 g) : G32 g.v := by
  intro n hn x hx
  obtain ⟨m, hm, rfl⟩ := List.mem_map.1 hn
  obtain ⟨y, hy, rfl⟩ := List.mem_map.1 hx
  obtain ⟨_, _, h3⟩ := (h.nd m hm).inn y hy
  exact ⟨h3.2.1.1, h3.2.1.2, h3.2.2.1⟩
end Go.Proofs.Yteklohamkmiphaa
namespace Go.Proofs.Yteklohamkmiphaa
open Go.RowKit

/-! ### the type of a block -/
def Ty (w : World) (k : Nat) (e : TypeId) : Prop := ∃ cur z, w.heap[k]? = some (.cells cur e z)
theorem Ty.ne {w : World} {k : Nat} {e f : TypeId} (h : Ty w k e) (g : Ty w k f) : e = f := by
  obtain ⟨a, b, h⟩ := h
  obtain ⟨c, d, g⟩ := g
  rw [h] at g
  injection g with g
  injection g with _ g
theorem Bk.ty {w : World} {g : Nat} {t : TypeId} {cs : Array Value} (h : Bk w g t cs) : Ty w g t := ⟨_, _, h⟩
theorem Own.ty {w : World} {B s n c : Nat} {e : TypeId} {A : Option Addr} {xs : List Value} (h : Own w B e s A n c xs) {k : Nat} (hk : blk A c = some k) : Ty w k e := by
  rcases h.2 with ⟨rfl, _⟩ | ⟨g, cur, rfl, _, hg, _⟩
  · rw [blk_zero] at hk; cases hk
  · cases c with
    | zero => cases hk
    | succ c =>
      injection hk with hk
      simp only at hk
      subst hk
      exact ⟨_, _, hg⟩
end Go.Proofs.Yteklohamkmiphaa
