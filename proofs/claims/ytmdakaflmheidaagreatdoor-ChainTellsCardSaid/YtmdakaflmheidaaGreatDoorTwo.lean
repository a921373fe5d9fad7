/- append, once more: it stays where it was, or nothing that was there has turned. Conditions: each theorem states its own. -/
import Derived.Test.YtmdakaflmheidaaGreatDoorBase
namespace Go.Proofs.YtmdakaflmheidaaGreatDoor
open Go.RowKit

theorem run_append_two {P : Program} (w : World) {t ty e size bytes : Nat} {z : Value} (E : Elem P t e size bytes z) (base : Nat)
    (A0 : Option Addr) (n c0 : Nat) (xs : List Value) (hown : Own w base e size A0 n c0 xs)
    (A : Option Addr) (m c : Nat) (news : List Value) (hr : Sl w size A m c news) (h1 : ∀ u ∈ news, u.oneCell' = true)
    (hbytes : (n + m) * bytes ≤ 140737488355328) (hb1 : 0 < bytes) (hbase : base ≤ w.heap.size) :
    ∃ A' c' w', (Builtin.append_ #[t, t] ty #[.slice A0 n c0, .slice A m c]).run P w = .ok (.slice A' (n + m) c') w' ∧ Own w' base e size A' (n + m) c' (xs ++ news) ∧ w.grownBy w' (blk A0 c0) ∧
      ((A' = A0 ∧ c' = c0) ∨ (blk A' c' = some w.heap.size ∧ Ext w w')) := by
  obtain ⟨i, hi, hz, hs, hby⟩ := info_parts E.info
  have h63 : n + m ≤ maxLen := by
    have : n + m ≤ (n + m) * bytes := Nat.le_mul_of_pos_right _ hb1
    unfold maxLen; omega
  rcases Nat.eq_zero_or_pos m with hm | hm
  · subst hm
    have hnews : news = [] := List.eq_nil_of_length_eq_zero (by simpa using hr.1)
    subst hnews
    exact ⟨_, _, w, run_append_nothing w E A0 n c0 hown.le.1 A c, by simpa using hown, World.grownBy.refl w _, .inl ⟨rfl, rfl⟩⟩
  · obtain ⟨ad, rfl, hcells⟩ := hr.2.2.2.2 hm
    rcases hown.2 with ⟨rfl, rfl⟩ | ⟨g, cur, rfl, hb, hg, hnc, hcm, hcs, htake⟩
    · have hx : xs = [] := List.eq_nil_of_length_eq_zero (by simpa using hown.1)
      subst hx
      have hge := grownCap_ge w (0 + m) 0 e
      have hcm : grownCap w (0 + m) 0 e ≤ maxLen := grownCap_le_maxLen w (0 + m) 0 e h63
      obtain ⟨kk, hk⟩ : ∃ k, grownCap w (0 + m) 0 e = k + 1 := ⟨_, (Nat.succ_pred_eq_of_pos (by omega)).symm⟩
      have hfin : Own (w.drew.alloc (.cells ((#[] : Array Value) ++ news.toArray ++ Builtin.zeroCells z.cells (grownCap w (0 + m) 0 e - (0 + m))) e)) base e size (some ⟨w.heap.size, 0, none⟩) (0 + m) (grownCap w (0 + m) 0 e) ([] ++ news) := by
        refine ⟨by simpa using hr.1, .inr ⟨w.heap.size, _, rfl, hbase, heap_alloc_new w.drew _, hge, hcm, ?_, ?_⟩⟩
        · simp only [Array.size_append, List.size_toArray, size_zeroCells, E.zsize, hr.1, List.length_nil, Nat.zero_add, ← Nat.add_mul]
          congr 1
          simp only [Nat.zero_add] at hge
          omega
        · have hlen : ([] ++ news).length = (0 + m) * size := by simpa using hr.1
          simp only [Array.toList_append, List.append_assoc]
          rw [← List.append_assoc, ← hlen]
          exact List.take_left
      cases A0 with
      | none =>
        have hr2 := run_append_nil (P := P) w t ty e i z E.under hi hz ad m c news (by rw [hs]; exact hr.1) hcells hm (by unfold maxLen at h63; omega) (by rw [hby]; simp only [Nat.zero_add] at hbytes; omega)
        simp only [Nat.zero_add, List.nil_append, Array.empty_append] at hfin hk ⊢
        refine ⟨_, _, _, hr2, hfin, ⟨rfl, rfl, rfl, by simp, fun k hk _ => Below.heap_alloc w.drew _ k hk⟩, .inr ⟨?_, ((Ext.refl w).drew).alloc _⟩⟩
        rw [hk]; rfl
      | some b =>
        have hr2 := run_append_grow (P := P) w t ty e i z E.under hi hz b 0 0 [] (by simp) (by simp) ad m c news (by rw [hs]; exact hr.1) hcells (by omega) (by unfold maxLen at h63; omega) (by rw [hby]; exact growslice_fits (by omega) hbytes)
        refine ⟨_, _, _, hr2, hfin, ⟨rfl, rfl, rfl, by simp, fun k hk _ => Below.heap_alloc w.drew _ k hk⟩, .inr ⟨?_, ((Ext.refl w).drew).alloc _⟩⟩
        rw [hk]; rfl
    · have hown' : w.ownsRow base e size (.slice (some ⟨g, 0, none⟩) n c0) n xs := ⟨hown.1, .inr ⟨g, c0, cur, rfl, hb, hg, hnc, hcm, hcs, htake⟩⟩
      have hlen : (xs ++ news).length = (n + m) * size := by rw [List.length_append, hown.1, hr.1, Nat.add_mul]
      by_cases hroom : n + m ≤ c0
      · have hfit : n * i.size + news.length ≤ cur.size := by rw [hr.1, hcs, hs, ← Nat.add_mul]; exact Nat.mul_le_mul_right _ hroom
        have hr2 := run_append_room (P := P) w t ty e i E.under hi g n c0 cur hg ad m c news (by rw [hs]; exact hr.1) hcells h1 hroom hfit
        refine ⟨_, _, _, hr2, ⟨hlen, .inr ⟨g, _, rfl, hb, setRow_heap w g cur _ e _ hg, hroom, hcm, ?_, ?_⟩⟩, ⟨rfl, rfl, rfl, by simp, fun k _ hk => setRow_other w g k _ (fun e' => hk (by
          obtain ⟨c1, rfl⟩ : ∃ c1, c0 = c1 + 1 := ⟨c0 - 1, by omega⟩
          simp [blk, e']))⟩, .inl ⟨rfl, rfl⟩⟩
        · simp only [List.size_toArray, List.length_append, List.length_take, List.length_drop, Array.length_toList]
          omega
        · rw [hs, htake, ← hlen]
          exact List.take_left
      · have holds : ∀ j u, xs[j]? = some u → w.cell? ((⟨g, 0, none⟩ : Addr).add j) = some u := hown'.cells (g := g) rfl
        have hr2 := run_append_grow (P := P) w t ty e i z E.under hi hz ⟨g, 0, none⟩ n c0 xs (by rw [hs]; exact hown.1) holds ad m c news (by rw [hs]; exact hr.1) hcells (by omega) (by unfold maxLen at h63; omega) (by rw [hby]; exact growslice_fits (by omega) hbytes)
        have hge := grownCap_ge w (n + m) c0 e
        have hcm : grownCap w (n + m) c0 e ≤ maxLen := grownCap_le_maxLen w (n + m) c0 e h63
        refine ⟨_, _, _, hr2, ⟨hlen, .inr ⟨w.heap.size, _, rfl, hbase, heap_alloc_new w.drew _, hge, hcm, ?_, ?_⟩⟩, ⟨rfl, rfl, rfl, by simp, fun k hk _ => Below.heap_alloc w.drew _ k hk⟩, .inr ⟨?_, ((Ext.refl w).drew).alloc _⟩⟩
        · simp only [Array.size_append, List.size_toArray, size_zeroCells, E.zsize, hr.1, hown.1, ← Nat.add_mul]
          congr 1
          omega
        · simp only [Array.toList_append, List.append_assoc]
          rw [← List.append_assoc, ← hlen]
          exact List.take_left
        · obtain ⟨kk, hk⟩ : ∃ k, grownCap w (n + m) c0 e = k + 1 := ⟨_, (Nat.succ_pred_eq_of_pos (by omega)).symm⟩
          rw [hk]; rfl

theorem wp_append_two {P : Program} (w : World) {o : Oper} {a : Act} {K : Act → World → Prop} {Q : Exit → Act → World → Prop} {t e size bytes : Nat} {z : Value} (E : Elem P t e size bytes z) (base : Nat) (s x : Operand)
    (ho : o.op = .call { callee := .builtin .append, args := #[s, x], argTypes := #[t, t] })
    (A0 : Option Addr) (n c0 : Nat) (xs : List Value) (hs : a.eval s = .slice A0 n c0) (hown : Own w base e size A0 n c0 xs)
    (A : Option Addr) (m c : Nat) (news : List Value) (hx : a.eval x = .slice A m c) (hr : Sl w size A m c news) (h1 : ∀ u ∈ news, u.oneCell' = true)
    (hbytes : (n + m) * bytes ≤ 140737488355328) (hb1 : 0 < bytes) (hbase : base ≤ w.heap.size)
    (h : ∀ A' c' w', Own w' base e size A' (n + m) c' (xs ++ news) → w.grownBy w' (blk A0 c0) → ((A' = A0 ∧ c' = c0) ∨ (blk A' c' = some w.heap.size ∧ Ext w w')) → K (a.put o.dst (.slice A' (n + m) c')) w') : o.wp P a w K Q := by
  obtain ⟨A', c', w', hrun, h2, h3, h4⟩ := run_append_two (P := P) (ty := o.type) w E base A0 n c0 xs hown A m c news hr h1 hbytes hb1 hbase
  unfold Oper.wp execOp
  simp only [ho, resolve, invoke, builtin, Sem.run_bind, Sem.run_pure, Result.andThen_ok, List.map_toArray, List.map_cons, List.map_nil, hs, hx, hrun]
  exact h A' c' w' h2 h3 h4

/-- append, in a plain region -/
theorem wpList_append_two {P : Program} (w : World) {ops : Array Oper} {rest : List Oper} {o : Oper} {a : Act} {Q : Exit → Act → World → Prop} {t e size bytes : Nat} {z : Value} (E : Elem P t e size bytes z) (base : Nat) (s x : Operand)
    (ho : o.op = .call { callee := .builtin .append, args := #[s, x], argTypes := #[t, t] }) (hgd : o.guard = none)
    (A0 : Option Addr) (n c0 : Nat) (xs : List Value) (hs : a.eval s = .slice A0 n c0) (hown : Own w base e size A0 n c0 xs)
    (A : Option Addr) (m c : Nat) (news : List Value) (hx : a.eval x = .slice A m c) (hr : Sl w size A m c news) (h1 : ∀ u ∈ news, u.oneCell' = true)
    (hbytes : (n + m) * bytes ≤ 140737488355328) (hb1 : 0 < bytes) (hbase : base ≤ w.heap.size)
    (h : ∀ A' c' w', Own w' base e size A' (n + m) c' (xs ++ news) → w.grownBy w' (blk A0 c0) → ((A' = A0 ∧ c' = c0) ∨ (blk A' c' = some w.heap.size ∧ Ext w w')) → wpList P ops Q rest (a.put o.dst (.slice A' (n + m) c')) w') : wpList P ops Q (o :: rest) a w :=
  wpList_plain hgd fun _ hK => wp_append_two w E base s x ho A0 n c0 xs hs hown A m c news hx hr h1 hbytes hb1 hbase fun A' c' w' h2 h3 h4 => hK _ _ (h A' c' w' h2 h3 h4)

end Go.Proofs.YtmdakaflmheidaaGreatDoor
