/- Append with room; slices just built. Conditions: each theorem states its own. -/
import Derived.Test.YtilbfmfioopiiaaDoorTwo
import Derived.Test.YtilbfmfioopiiaaDoorOrd
namespace Go.Proofs.YtilbfmfioopiiaaDoor
open Go.RowKit

theorem run_append_stay {P : Program} (w : World) {t ty e size bytes : Nat} {z : Value} (E : Elem P t e size bytes z) (base g n c0 : Nat) (xs : List Value) (hown : Own w base e size (some ⟨g, 0, none⟩) n c0 xs) (hc : 0 < c0)
    (ad : Addr) (m c : Nat) (news : List Value) (hr : Sl w size (some ad) m c news) (hm : 0 < m) (h1 : ∀ u ∈ news, u.oneCell' = true) (hroom : n + m ≤ c0) :
    ∃ w', (Builtin.append_ #[t, t] ty #[.slice (some ⟨g, 0, none⟩) n c0, .slice (some ad) m c]).run P w = .ok (.slice (some ⟨g, 0, none⟩) (n + m) c0) w' ∧ Own w' base e size (some ⟨g, 0, none⟩) (n + m) c0 (xs ++ news) ∧ w.grownBy w' (some g) := by
  obtain ⟨i, hi, hz, hs, hby⟩ := info_parts E.info
  obtain ⟨ad', e1, hcells⟩ := hr.2.2.2.2 hm
  cases e1
  rcases hown.2 with ⟨h2, _⟩ | ⟨g', cur, e2, hb, hg, hnc, hcm, hcs, htake⟩
  · omega
  · cases e2
    have hlen : (xs ++ news).length = (n + m) * size := by rw [List.length_append, hown.1, hr.1, Nat.add_mul]
    have hfit : n * i.size + news.length ≤ cur.size := by rw [hr.1, hcs, hs, ← Nat.add_mul]; exact Nat.mul_le_mul_right _ hroom
    have hr2 := run_append_room (P := P) w t ty e i E.under hi g n c0 cur hg ad m c news (by rw [hs]; exact hr.1) hcells h1 hroom hfit
    refine ⟨_, hr2, ⟨hlen, .inr ⟨g, _, rfl, hb, setRow_heap w g cur _ e _ hg, hroom, hcm, ?_, ?_⟩⟩, ⟨rfl, rfl, rfl, by simp, fun k _ hk => setRow_other w g k _ (fun e' => hk (by rw [e']))⟩⟩
    · simp only [List.size_toArray, List.length_append, List.length_take, List.length_drop, Array.length_toList]
      omega
    · rw [hs, htake, ← hlen]
      exact List.take_left
theorem run_append_fit {P : Program} (w : World) {t ty e size bytes : Nat} {z : Value} (E : Elem P t e size bytes z) (base g n c0 : Nat) (xs : List Value) (hown : Own w base e size (some ⟨g, 0, none⟩) n c0 xs) (hc : 0 < c0)
    (A : Option Addr) (m c : Nat) (news : List Value) (hr : Sl w size A m c news) (h1 : ∀ u ∈ news, u.oneCell' = true) (hroom : n + m ≤ c0) :
    ∃ w', (Builtin.append_ #[t, t] ty #[.slice (some ⟨g, 0, none⟩) n c0, .slice A m c]).run P w = .ok (.slice (some ⟨g, 0, none⟩) (n + m) c0) w' ∧ Own w' base e size (some ⟨g, 0, none⟩) (n + m) c0 (xs ++ news) ∧ w.grownBy w' (some g) := by
  rcases Nat.eq_zero_or_pos m with hm | hm
  · subst hm
    have hnews : news = [] := List.eq_nil_of_length_eq_zero (by simpa using hr.1)
    subst hnews
    exact ⟨w, run_append_nothing w E _ n c0 hown.le.1 A c, by simpa using hown, World.grownBy.refl w _⟩
  · obtain ⟨ad, rfl, _⟩ := hr.2.2.2.2 hm
    exact run_append_stay w E base g n c0 xs hown hc ad m c news hr hm h1 hroom
theorem wp_append_fit {P : Program} (w : World) {o : Oper} {a : Act} {K : Act → World → Prop} {Q : Exit → Act → World → Prop} {t e size bytes : Nat} {z : Value} (E : Elem P t e size bytes z) (base : Nat) (s x : Operand)
    (ho : o.op = .call { callee := .builtin .append, args := #[s, x], argTypes := #[t, t] })
    (g n c0 : Nat) (xs : List Value) (hs : a.eval s = .slice (some ⟨g, 0, none⟩) n c0) (hown : Own w base e size (some ⟨g, 0, none⟩) n c0 xs) (hc : 0 < c0)
    (A : Option Addr) (m c : Nat) (news : List Value) (hx : a.eval x = .slice A m c) (hr : Sl w size A m c news) (h1 : ∀ u ∈ news, u.oneCell' = true) (hroom : n + m ≤ c0)
    (h : ∀ w', Own w' base e size (some ⟨g, 0, none⟩) (n + m) c0 (xs ++ news) → w.grownBy w' (some g) → K (a.put o.dst (.slice (some ⟨g, 0, none⟩) (n + m) c0)) w') : o.wp P a w K Q := by
  obtain ⟨w', hrun, h2, h3⟩ := run_append_fit (P := P) (ty := o.type) w E base g n c0 xs hown hc A m c news hr h1 hroom
  unfold Oper.wp execOp
  simp only [ho, resolve, invoke, builtin, Sem.run_bind, Sem.run_pure, Result.andThen_ok, List.map_toArray, List.map_cons, List.map_nil, hs, hx, hrun]
  exact h w' h2 h3
theorem wpList_append_fit {P : Program} (w : World) {ops : Array Oper} {rest : List Oper} {o : Oper} {a : Act} {Q : Exit → Act → World → Prop} {t e size bytes : Nat} {z : Value} (E : Elem P t e size bytes z) (base : Nat) (s x : Operand)
    (ho : o.op = .call { callee := .builtin .append, args := #[s, x], argTypes := #[t, t] }) (hgd : o.guard = none)
    (g n c0 : Nat) (xs : List Value) (hs : a.eval s = .slice (some ⟨g, 0, none⟩) n c0) (hown : Own w base e size (some ⟨g, 0, none⟩) n c0 xs) (hc : 0 < c0)
    (A : Option Addr) (m c : Nat) (news : List Value) (hx : a.eval x = .slice A m c) (hr : Sl w size A m c news) (h1 : ∀ u ∈ news, u.oneCell' = true) (hroom : n + m ≤ c0)
    (h : ∀ w', Own w' base e size (some ⟨g, 0, none⟩) (n + m) c0 (xs ++ news) → w.grownBy w' (some g) → wpList P ops Q rest (a.put o.dst (.slice (some ⟨g, 0, none⟩) (n + m) c0)) w') : wpList P ops Q (o :: rest) a w :=
  wpList_plain hgd fun _ hK => wp_append_fit w E base s x ho g n c0 xs hs hown hc A m c news hx hr h1 hroom fun w' h2 h3 => hK _ _ (h w' h2 h3)
theorem cells_at (w : World) (t : TypeId) (cs : Array Value) (j : Nat) (u : Value) (h : cs.toList[j]? = some u) : (w.alloc (.cells cs t)).cell? ((⟨w.heap.size, 0, none⟩ : Addr).add j) = some u := by
  rw [show (⟨w.heap.size, 0, none⟩ : Addr).add j = ⟨w.heap.size, j, none⟩ by unfold Addr.add; split <;> simp_all, (Bk.new w t cs).cell, ← Array.getElem?_toList]
  exact h
theorem sl_alloc (w : World) (t : TypeId) (cs : Array Value) (xs : List Value) (size n : Nat) (hc : cs.toList = xs) (hl : xs.length = n * size) (hn : n ≤ 1000) : Sl (w.alloc (.cells cs t)) size (some ⟨w.heap.size, 0, none⟩) n n xs :=
  ⟨hl, Nat.le_refl _, by unfold maxLen; omega, (fun h => nomatch h), fun _ => ⟨_, rfl, fun j x hx => cells_at w t cs j x (by rw [hc]; exact hx)⟩⟩
end Go.Proofs.YtilbfmfioopiiaaDoor
