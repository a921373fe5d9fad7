/- General words on worlds, slices and lists that all the walks of this seat use. The queue of least ways, plainly: runs of entries (lists of moves), what two entries with the same marks have in common. The queue of least ways, plainly: how many entries there are at most. The queue of least ways, plainly: the two bounds. The queue of least ways, plainly: the second bound, with the last part as a walk. The queue of least ways, plainly: numbers. The queue of least ways, plainly: what a graph of at most 60 nodes, edges and ways lets wait. The queue of least ways, plainly: the sum over a graph, and what waits at most. Conditions: each theorem states its own. -/
import Derived.WalkKit
import Derived.Deep.QuietTactic
import Derived.BigQuiet
import Derived.Lib.Hide
import Derived.Deep.AppendLies
import Derived.Deep.Draws
import Derived.Deep.RegionHeld3
import Derived.Deep.DrawnRows
import Derived.Deep.RegionLaw
import Derived.StillTailTactics
import Derived.WalkLawsBesides
import Derived.WalkSpells
import Derived.Outline
import Derived.Handy
import Derived.Deep.DeepCutAuto
namespace Go.Proofs.Yteklohamkmiphaa
open Go.RowKit

/-! ### worlds -/
/-- w' is w with new blocks, at most -/
def Ext (w w' : World) : Prop := Below w.heap.size w w'
theorem Ext.refl (w : World) : Ext w w := Below.refl _ _
theorem Ext.size {w w' : World} (h : Ext w w') : w.heap.size ≤ w'.heap.size := Below.size h
theorem Ext.trans {a b c : World} (h : Ext a b) (k : Ext b c) : Ext a c := Below.trans h (Below.mono k h.size)
theorem Ext.drewN {a w : World} (h : Ext a w) (n : Nat) : Ext a (w.drewN n) := h.trans ⟨rfl, rfl, rfl, Nat.le_refl _, fun _ _ => rfl⟩
theorem Ext.drew {a w : World} (h : Ext a w) : Ext a w.drew := h.trans ⟨rfl, rfl, rfl, Nat.le_refl _, fun _ _ => rfl⟩
theorem Ext.alloc {a w : World} (h : Ext a w) (o : Obj) : Ext a (w.alloc o) := Below.alloc h h.size o
theorem Ext.set {a w : World} (h : Ext a w) {p : Addr} (hp : a.heap.size ≤ p.block) (u : Value) : Ext a (w.setCell p u) := Below.setCell h hp u
theorem Ext.grown {a w w' : World} {row : Option Nat} (h : Ext a w) (hg : w.grownBy w' row) (hr : ∀ k, row = some k → a.heap.size ≤ k) : Ext a w' := Below.grown h hg h.size hr
theorem Ext.cell {w w' : World} (h : Ext w w') {p : Addr} {u : Value} (hc : w.cell? p = some u) : w'.cell? p = some u :=
  (Below.cell h (World.block_lt_of_cell? w p hc)).trans hc
theorem Ext.heap {w w' : World} (h : Ext w w') {k : Nat} {o : Obj} (hc : w.heap[k]? = some o) : w'.heap[k]? = some o :=
  (Below.block h k (Array.getElem?_eq_some_iff.1 hc).1).trans hc
theorem drewN_drewN' (w : World) (a b : Nat) : (w.drewN a).drewN b = w.drewN (a + b) := World.drewN_drewN _ _ _

theorem add_add' (a : Addr) (i j : Nat) : (a.add i).add j = a.add (i + j) := by
  unfold Addr.add
  by_cases hi : i = 0 <;> by_cases hj : j = 0 <;> simp [hi, hj, Nat.add_assoc]
theorem block_add (a : Addr) (n : Nat) : (a.add n).block = a.block := by unfold Addr.add; split <;> rfl

/-! ### slices that are read -/
/-- the slice '.slice A n c' of elements of so many cells holds the cells xs -/
def Sl (w : World) (size : Nat) (A : Option Addr) (n c : Nat) (xs : List Value) : Prop :=
  xs.length = n * size ∧ n ≤ c ∧ c ≤ maxLen ∧ (A = none → c = 0) ∧ (0 < n → ∃ ad, A = some ad ∧ ∀ j u, xs[j]? = some u → w.cell? (ad.add j) = some u)

theorem Sl.ext {w w' : World} {size n c : Nat} {A : Option Addr} {xs : List Value} (h : Sl w size A n c xs) (e : Ext w w') : Sl w' size A n c xs :=
  ⟨h.1, h.2.1, h.2.2.1, h.2.2.2.1, fun hn => by obtain ⟨ad, h1, h2⟩ := h.2.2.2.2 hn; exact ⟨ad, h1, fun j u hu => e.cell (h2 j u hu)⟩⟩
theorem Sl.drewN {w : World} {size n c : Nat} {A : Option Addr} {xs : List Value} (h : Sl w size A n c xs) (k : Nat) : Sl (w.drewN k) size A n c xs := h
theorem Sl.drew {w : World} {size n c : Nat} {A : Option Addr} {xs : List Value} (h : Sl w size A n c xs) : Sl w.drew size A n c xs := h
theorem Sl.nil (w : World) (size : Nat) : Sl w size none 0 0 [] := ⟨by simp, Nat.le_refl _, Nat.zero_le _, fun _ => rfl, fun h => absurd h (by omega)⟩
theorem Sl.le {w : World} {size n c : Nat} {A : Option Addr} {xs : List Value} (h : Sl w size A n c xs) : n ≤ 9223372036854775807 := by
  have := h.2.1; have := h.2.2.1; unfold maxLen at *; omega
theorem Sl.cap {w : World} {size n c : Nat} {A : Option Addr} {xs : List Value} (h : Sl w size A n c xs) : n ≤ c ∧ c ≤ 9223372036854775807 := by
  have := h.2.1; have := h.2.2.1; unfold maxLen at *; omega
/-- 's[:k]' -/
theorem Sl.take {w : World} {size n c k : Nat} {A : Option Addr} {xs : List Value} (h : Sl w size A n c xs) (hk : k ≤ n) : Sl w size A k c (xs.take (k * size)) := by
  obtain ⟨h1, h2, h3, h4, h5⟩ := h
  refine ⟨?_, by omega, h3, h4, fun hn => ?_⟩
  · rw [List.length_take, h1]; exact Nat.min_eq_left (Nat.mul_le_mul_right _ hk)
  · obtain ⟨ad, e, hc⟩ := h5 (by omega)
    refine ⟨ad, e, fun j u hu => hc j u ?_⟩
    rw [List.getElem?_take] at hu
    split at hu
    · exact hu
    · cases hu
/-- 's[k:]' -/
theorem Sl.drop {w : World} {size n c k : Nat} {A : Option Addr} {xs : List Value} (h : Sl w size A n c xs) (hk : k ≤ n) :
    Sl w size (if c = k then A else A.map (·.add (k * size))) (n - k) (c - k) (xs.drop (k * size)) := by
  obtain ⟨h1, h2, h3, h4, h5⟩ := h
  refine ⟨by rw [List.length_drop, h1, Nat.sub_mul], by omega, by omega, fun hA => ?_, fun hn => ?_⟩
  · split at hA
    · omega
    · cases A with
      | none => have := h4 rfl; omega
      | some a => simp at hA
  · obtain ⟨ad, e, hc⟩ := h5 (by omega)
    subst e
    rw [if_neg (by omega)]
    refine ⟨_, rfl, fun j u hu => ?_⟩
    rw [add_add']
    exact hc _ u (by rw [← hu, List.getElem?_drop])

/-! ### slices that the call itself has made -/
/-- the slice '.slice A n c' (elements of type e, so many cells each) owns the cells xs: it has no room at all, or lies at the head of a block from 'base' on -/
def Own (w : World) (base : Nat) (e : TypeId) (size : Nat) (A : Option Addr) (n c : Nat) (xs : List Value) : Prop :=
  xs.length = n * size ∧
  ((c = 0 ∧ n = 0) ∨
   ∃ g cur, A = some ⟨g, 0, none⟩ ∧ base ≤ g ∧ w.heap[g]? = some (.cells cur e (0, 0)) ∧ n ≤ c ∧ c ≤ maxLen ∧ c * size ≤ cur.size ∧ cur.toList.take (n * size) = xs)
/-- the block that may be written through it -/
def blk : Option Addr → Nat → Option Nat
  | some a, _ + 1 => some a.block
  | _, _ => none
theorem blk_zero (A : Option Addr) : blk A 0 = none := by cases A <;> rfl

theorem Own.nil (w : World) (base : Nat) (e : TypeId) (size : Nat) : Own w base e size none 0 0 [] := ⟨by simp, .inl ⟨rfl, rfl⟩⟩
theorem Own.empty (w : World) (base : Nat) (e : TypeId) (size : Nat) (A : Option Addr) : Own w base e size A 0 0 [] := ⟨by simp, .inl ⟨rfl, rfl⟩⟩
section
variable {w w' : World} {base base' : Nat} {e : TypeId} {size : Nat} {A : Option Addr} {n c : Nat} {xs : List Value}
theorem Own.le (h : Own w base e size A n c xs) : n ≤ c ∧ c ≤ 9223372036854775807 := by
  rcases h.2 with ⟨h1, h2⟩ | ⟨g, cur, _, _, _, h1, h2, _⟩
  · omega
  · unfold maxLen at h2; omega
theorem Own.mono (h : Own w base e size A n c xs) (hb : base' ≤ base) : Own w base' e size A n c xs := by
  refine ⟨h.1, ?_⟩
  rcases h.2 with h2 | ⟨g, cur, hv, hg, r⟩
  · exact .inl h2
  · exact .inr ⟨g, cur, hv, by omega, r⟩
theorem Own.lt (h : Own w base e size A n c xs) : ∀ k, blk A c = some k → base ≤ k ∧ k < w.heap.size := by
  intro k hk
  rcases h.2 with ⟨rfl, _⟩ | ⟨g, cur, rfl, hb, hg, _⟩
  · simp [blk_zero] at hk
  · cases c with
    | zero => simp [blk] at hk
    | succ c =>
      simp [blk] at hk
      subst hk
      exact ⟨hb, (Array.getElem?_eq_some_iff.1 hg).1⟩
/-- it shares no block with what lies below its base -/
theorem Own.ne (h : Own w base e size A n c xs) {k : Nat} (hk : k < base) : blk A c ≠ some k := fun e => by have := (h.lt k e).1; omega
theorem Own.kept {row : Option Nat} (h : Own w base e size A n c xs) (hg : w.grownBy w' row) (hne : blk A c = none ∨ blk A c ≠ row) : Own w' base e size A n c xs := by
  refine ⟨h.1, ?_⟩
  rcases h.2 with hn | ⟨g, cur, rfl, hb, hgg, rest⟩
  · exact .inl hn
  · cases c with
    | zero =>
      obtain ⟨h1, _⟩ := rest
      exact .inl ⟨rfl, by omega⟩
    | succ c =>
      refine .inr ⟨g, cur, rfl, hb, ?_, rest⟩
      rw [hg.block g (Array.getElem?_eq_some_iff.1 hgg).1 (by simpa [blk] using hne)]
      exact hgg
theorem Own.ext (h : Own w base e size A n c xs) (x : Ext w w') : Own w' base e size A n c xs := by
  refine ⟨h.1, ?_⟩
  rcases h.2 with hn | ⟨g, cur, rfl, hb, hgg, rest⟩
  · exact .inl hn
  · exact .inr ⟨g, cur, rfl, hb, x.heap hgg, rest⟩
theorem Own.drewN (h : Own w base e size A n c xs) (k : Nat) : Own (w.drewN k) base e size A n c xs := h
theorem Own.drew (h : Own w base e size A n c xs) : Own w.drew base e size A n c xs := h
theorem Own.alloc (h : Own w base e size A n c xs) (o : Obj) : Own (w.alloc o) base e size A n c xs := h.ext ((Ext.refl w).alloc o)
/-- a store elsewhere -/
theorem Own.far (h : Own w base e size A n c xs) {p : Addr} (hp : blk A c ≠ some p.block) (u : Value) : Own (w.setCell p u) base e size A n c xs := by
  refine ⟨h.1, ?_⟩
  rcases h.2 with hn | ⟨g, cur, rfl, hb, hgg, rest⟩
  · exact .inl hn
  · cases c with
    | zero =>
      obtain ⟨h1, _⟩ := rest
      exact .inl ⟨rfl, by omega⟩
    | succ c =>
      refine .inr ⟨g, cur, rfl, hb, ?_, rest⟩
      rw [Below.heap_setCell _ _ _ _ (by intro e; exact hp (by simp [blk, e]))]
      exact hgg
/-- it is read as any slice -/
theorem Own.sl (h : Own w base e size A n c xs) : Sl w size A n c xs := by
  obtain ⟨h1, h2⟩ := h
  rcases h2 with ⟨rfl, rfl⟩ | ⟨g, cur, rfl, hb, hg, hnc, hcm, hcs, htake⟩
  · have : xs = [] := List.eq_nil_of_length_eq_zero (by simpa using h1)
    subst this
    exact ⟨by simp, Nat.le_refl _, Nat.zero_le _, fun _ => rfl, fun h => absurd h (by omega)⟩
  · refine ⟨h1, hnc, hcm, (fun h => nomatch h), fun _ => ⟨_, rfl, fun j u hu => ?_⟩⟩
    have hadd : (⟨g, 0, none⟩ : Addr).add j = ⟨g, j, none⟩ := by unfold Addr.add; split <;> simp_all
    rw [hadd, cell_of_row w g j cur e (0, 0) hg]
    rw [← htake, List.getElem?_take] at hu
    split at hu
    · simpa using hu
    · cases hu
end

/-- the cells of a block's head -/
theorem head_cells {w : World} {g k : Nat} {cur : Array Value} {e : TypeId} {xs : List Value} (hg : w.heap[g]? = some (.cells cur e (0, 0))) (ht : cur.toList.take k = xs) (j : Nat) (u : Value) (hu : xs[j]? = some u) : w.cell? ((⟨g, 0, none⟩ : Addr).add j) = some u := by
  have hadd : (⟨g, 0, none⟩ : Addr).add j = ⟨g, j, none⟩ := by unfold Addr.add; split <;> simp_all
  rw [hadd, cell_of_row w g j cur e (0, 0) hg]
  rw [← ht, List.getElem?_take] at hu
  split at hu
  · simpa using hu
  · cases hu
theorem Own.form {w : World} {base : Nat} {e : TypeId} {size : Nat} {A : Option Addr} {n c : Nat} {xs : List Value} (h : Own w base e size A n c xs) (hn : 0 < n) :
    ∃ g, A = some ⟨g, 0, none⟩ ∧ blk A c = some g ∧ base ≤ g ∧ g < w.heap.size ∧ (∀ j u, xs[j]? = some u → w.cell? ⟨g, j, none⟩ = some u) ∧ ∀ j, w.frozen? ⟨g, j, none⟩ = false := by
  obtain ⟨h1, h2⟩ := h
  rcases h2 with ⟨rfl, rfl⟩ | ⟨g, cur, rfl, hb, hg, hnc, hcm, hcs, htake⟩
  · omega
  · obtain ⟨c, rfl⟩ : ∃ k, c = k + 1 := ⟨c - 1, by omega⟩
    refine ⟨g, rfl, rfl, hb, (Array.getElem?_eq_some_iff.1 hg).1, fun j u hu => ?_, fun j => by simp [World.frozen?, hg]⟩
    rw [cell_of_row w g j cur e (0, 0) hg]
    rw [← htake, List.getElem?_take] at hu
    split at hu
    · simpa using hu
    · cases hu
theorem Own.put {w : World} {base : Nat} {e : TypeId} {size g n c : Nat} {xs : List Value} (h : Own w base e size (some ⟨g, 0, none⟩) n c xs) (k : Nat) (u : Value) : Own (w.setCell ⟨g, k, none⟩ u) base e size (some ⟨g, 0, none⟩) n c (xs.set k u) := by
  obtain ⟨h1, h2⟩ := h
  refine ⟨by simpa using h1, ?_⟩
  rcases h2 with h2 | ⟨g', cur, e', hb, hg, hnc, hcm, hcs, htake⟩
  · exact .inl h2
  · cases e'
    refine .inr ⟨g, cur.setIfInBounds k u, rfl, hb, ?_, hnc, hcm, by simpa using hcs, ?_⟩
    · simp [World.setCell, Array.getElem?_modify, hg]
    · rw [Array.toList_setIfInBounds, ← htake, List.take_set]

/-! ### blocks that are known whole -/
def Bk (w : World) (g : Nat) (t : TypeId) (cs : Array Value) : Prop := w.heap[g]? = some (.cells cs t (0, 0))
theorem Bk.lt {w : World} {g : Nat} {t : TypeId} {cs : Array Value} (h : Bk w g t cs) : g < w.heap.size := (Array.getElem?_eq_some_iff.1 h).1
theorem Bk.cell {w : World} {g : Nat} {t : TypeId} {cs : Array Value} (h : Bk w g t cs) (i : Nat) : w.cell? ⟨g, i, none⟩ = cs[i]? := cell_of_row w g i cs t (0, 0) h
theorem Bk.free {w : World} {g : Nat} {t : TypeId} {cs : Array Value} (h : Bk w g t cs) (i : Nat) : w.frozen? ⟨g, i, none⟩ = false := by
  unfold Bk at h
  simp [World.frozen?, h]
theorem Bk.new (w : World) (t : TypeId) (cs : Array Value) : Bk (w.alloc (.cells cs t)) w.heap.size t cs := heap_alloc_new w _
theorem Bk.at {w : World} {g : Nat} {t : TypeId} {cs : Array Value} (hg : g = w.heap.size) : Bk (w.alloc (.cells cs t)) g t cs := hg ▸ heap_alloc_new w _
theorem Bk.drewN {w : World} {g : Nat} {t : TypeId} {cs : Array Value} (h : Bk w g t cs) (n : Nat) : Bk (w.drewN n) g t cs := h
theorem Bk.drew {w : World} {g : Nat} {t : TypeId} {cs : Array Value} (h : Bk w g t cs) : Bk w.drew g t cs := h
theorem Bk.alloc {w : World} {g : Nat} {t : TypeId} {cs : Array Value} (h : Bk w g t cs) (o : Obj) : Bk (w.alloc o) g t cs := (Below.heap_alloc w o g h.lt).trans h
theorem Bk.set {w : World} {g : Nat} {t : TypeId} {cs : Array Value} (h : Bk w g t cs) (i : Nat) (u : Value) : Bk (w.setCell ⟨g, i, none⟩ u) g t (cs.setIfInBounds i u) := by
  unfold Bk at h ⊢
  simp [World.setCell, Array.getElem?_modify, h]
theorem Bk.far {w : World} {g : Nat} {t : TypeId} {cs : Array Value} (h : Bk w g t cs) {p : Addr} (hp : g ≠ p.block) (u : Value) : Bk (w.setCell p u) g t cs := (Below.heap_setCell w p u g hp).trans h
theorem Bk.ext {w w' : World} {g : Nat} {t : TypeId} {cs : Array Value} (h : Bk w g t cs) (x : Ext w w') : Bk w' g t cs := x.heap h
theorem Bk.below {w w' : World} {B g : Nat} {t : TypeId} {cs : Array Value} (h : Bk w g t cs) (hb : Below B w w') (hg : g < B) : Bk w' g t cs := (hb.block g hg).trans h
theorem Bk.grown {w w' : World} {g : Nat} {t : TypeId} {cs : Array Value} {row : Option Nat} (h : Bk w g t cs) (hb : w.grownBy w' row) (hg : row ≠ some g) : Bk w' g t cs := (hb.block g h.lt (Ne.symm hg)).trans h
/-- a struct of two cells that is stored -/
theorem Bk.set2 {w : World} {g : Nat} {t : TypeId} {a b : Value} (h : Bk w g t #[a, b]) (u v : Value) :
    ((w.setCell ⟨g, 0, none⟩ u).setCell ⟨g, 1, none⟩ v).cell? ⟨g, 0, none⟩ = some u ∧ ((w.setCell ⟨g, 0, none⟩ u).setCell ⟨g, 1, none⟩ v).cell? ⟨g, 1, none⟩ = some v := by
  have bb := (h.set 0 u).set 1 v
  exact ⟨bb.cell 0, bb.cell 1⟩
/-! ### append -/
/-- what the table of types says of a slice type t with elements e -/
structure Elem (P : Program) (t e size bytes : Nat) (z : Value) : Prop where
  under : P.underlying t = some (.slice e)
  info : (P.info? e).map (fun i => (i.zero, i.size, i.bytes)) = some (some z, size, bytes)
  zsize : z.cells.size = size
  pos : 0 < size

theorem run_append_nothing {P : Program} (w : World) {t ty e size bytes : Nat} {z : Value} (E : Elem P t e size bytes z) (A : Option Addr) (n c : Nat) (hn : n ≤ c) (B : Option Addr) (c' : Nat) :
    (Builtin.append_ #[t, t] ty #[.slice A n c, .slice B 0 c']).run P w = .ok (.slice A n c) w := by
  obtain ⟨i, hi, hz, hs, hb⟩ := info_parts E.info
  cases A <;> cases B <;> simp [Builtin.append_, run_underlying E.under, sizeOf, typeInfo, hi, Builtin.lenOf, Builtin.firstCells, hn, storeCells, loadCells, loadCellsFrom]

theorem run_append_gen {P : Program} (w : World) {t ty e size bytes : Nat} {z : Value} (E : Elem P t e size bytes z) (base : Nat)
    (A0 : Option Addr) (n c0 : Nat) (xs : List Value) (hown : Own w base e size A0 n c0 xs)
    (A : Option Addr) (m c : Nat) (news : List Value) (hr : Sl w size A m c news) (h1 : ∀ u ∈ news, u.oneCell' = true)
    (hbytes : (n + m) * bytes ≤ 140737488355328) (hb1 : 0 < bytes) (hbase : base ≤ w.heap.size) :
    ∃ A' c' w', (Builtin.append_ #[t, t] ty #[.slice A0 n c0, .slice A m c]).run P w = .ok (.slice A' (n + m) c') w' ∧ Own w' base e size A' (n + m) c' (xs ++ news) ∧ w.grownBy w' (blk A0 c0) ∧
      (blk A' c' = blk A0 c0 ∨ blk A' c' = some w.heap.size) := by
  obtain ⟨i, hi, hz, hs, hby⟩ := info_parts E.info
  have h63 : n + m ≤ maxLen := by
    have : n + m ≤ (n + m) * bytes := Nat.le_mul_of_pos_right _ hb1
    unfold maxLen; omega
  rcases Nat.eq_zero_or_pos m with hm | hm
  · subst hm
    have hnews : news = [] := List.eq_nil_of_length_eq_zero (by simpa using hr.1)
    subst hnews
    exact ⟨_, _, w, run_append_nothing w E A0 n c0 hown.le.1 A c, by simpa using hown, World.grownBy.refl w _, .inl rfl⟩
  · obtain ⟨ad, rfl, hcells⟩ := hr.2.2.2.2 hm
    rcases hown.2 with ⟨rfl, rfl⟩ | ⟨g, cur, rfl, hb, hg, hnc, hcm, hcs, htake⟩
    · have hx : xs = [] := List.eq_nil_of_length_eq_zero (by simpa using hown.1)
      subst hx
      have hge := grownCap_ge w (0 + m) 0 e
      have hcm : grownCap w (0 + m) 0 e ≤ maxLen := grownCap_le_maxLen w (0 + m) 0 e h63
      obtain ⟨kk, hk⟩ : ∃ k, grownCap w (0 + m) 0 e = k + 1 := ⟨_, (Nat.succ_pred_eq_of_pos (by omega)).symm⟩
      have hfin : Own (w.drew.alloc (.cells ((#[] : Array Value) ++ news.toArray ++ Builtin.zeroCells z.cells (grownCap w (0 + m) 0 e - (0 + m))) e)) base e size (some ⟨w.heap.size, 0, none⟩) (0 + m) (grownCap w (0 + m) 0 e) ([] ++ news) := by
        refine ⟨by simpa using hr.1, .inr ⟨w.heap.size, _, rfl, hbase, heap_alloc_new w.drew _, hge, hcm, ?_, ?_⟩⟩
        · refine Nat.le_of_eq (Eq.symm ?_)
          simp only [Array.size_append, List.size_toArray, size_zeroCells, E.zsize, hr.1, List.length_nil, Nat.zero_add, ← Nat.add_mul]
          congr 1
          simp only [Nat.zero_add] at hge
          omega
        · have hlen : ([] ++ news).length = (0 + m) * size := by simpa using hr.1
          simp only [Array.toList_append, List.append_assoc]
          rw [← List.append_assoc, ← hlen]
          exact List.take_left
      cases A0 with
      | none =>
        have hr2 := run_append_nil (P := P) w t ty e i z E.under hi hz ad m c news (by rw [hs]; exact hr.1) hcells hm (by unfold maxLen at h63; omega) (by rw [hby]; simp only [Nat.zero_add] at hbytes; omega)
        simp only [Nat.zero_add, List.nil_append, Array.empty_append] at hfin hk ⊢
        refine ⟨_, _, _, hr2, hfin, ⟨rfl, rfl, rfl, by simp, fun k hk _ => Below.heap_alloc w.drew _ k hk⟩, .inr ?_⟩
        rw [hk]; rfl
      | some b =>
        have hr2 := run_append_grow (P := P) w t ty e i z E.under hi hz b 0 0 [] (by simp) (by simp) ad m c news (by rw [hs]; exact hr.1) hcells (by omega) (by unfold maxLen at h63; omega) (by rw [hby]; exact growslice_fits (by omega) hbytes)
        refine ⟨_, _, _, hr2, hfin, ⟨rfl, rfl, rfl, by simp, fun k hk _ => Below.heap_alloc w.drew _ k hk⟩, .inr ?_⟩
        rw [hk]; rfl
    · have hlen : (xs ++ news).length = (n + m) * size := by rw [List.length_append, hown.1, hr.1, Nat.add_mul]
      by_cases hroom : n + m ≤ c0
      · have hfit : n * i.size + news.length ≤ cur.size := by rw [hr.1, hs, ← Nat.add_mul]; exact Nat.le_trans (Nat.mul_le_mul_right _ hroom) hcs
        have hr2 := run_append_room (P := P) w t ty e i E.under hi g n c0 cur hg ad m c news (by rw [hs]; exact hr.1) hcells h1 hroom hfit
        refine ⟨_, _, _, hr2, ⟨hlen, .inr ⟨g, _, rfl, hb, setRow_heap w g cur _ e _ hg, hroom, hcm, ?_, ?_⟩⟩, ⟨rfl, rfl, rfl, by simp, fun k _ hk => setRow_other w g k _ (fun e' => hk (by
          obtain ⟨c1, rfl⟩ : ∃ c1, c0 = c1 + 1 := ⟨c0 - 1, by omega⟩
          simp [blk, e']))⟩, .inl rfl⟩
        · simp only [List.size_toArray, List.length_append, List.length_take, List.length_drop, Array.length_toList]
          omega
        · rw [hs, htake, ← hlen]
          exact List.take_left
      · have holds : ∀ j u, xs[j]? = some u → w.cell? ((⟨g, 0, none⟩ : Addr).add j) = some u := head_cells hg htake
        have hr2 := run_append_grow (P := P) w t ty e i z E.under hi hz ⟨g, 0, none⟩ n c0 xs (by rw [hs]; exact hown.1) holds ad m c news (by rw [hs]; exact hr.1) hcells (by omega) (by unfold maxLen at h63; omega) (by rw [hby]; exact growslice_fits (by omega) hbytes)
        have hge := grownCap_ge w (n + m) c0 e
        have hcm : grownCap w (n + m) c0 e ≤ maxLen := grownCap_le_maxLen w (n + m) c0 e h63
        refine ⟨_, _, _, hr2, ⟨hlen, .inr ⟨w.heap.size, _, rfl, hbase, heap_alloc_new w.drew _, hge, hcm, ?_, ?_⟩⟩, ⟨rfl, rfl, rfl, by simp, fun k hk _ => Below.heap_alloc w.drew _ k hk⟩, .inr ?_⟩
        · refine Nat.le_of_eq (Eq.symm ?_)
          simp only [Array.size_append, List.size_toArray, size_zeroCells, E.zsize, hr.1, hown.1, ← Nat.add_mul]
          congr 1
          omega
        · simp only [Array.toList_append, List.append_assoc]
          rw [← List.append_assoc, ← hlen]
          exact List.take_left
        · obtain ⟨kk, hk⟩ : ∃ k, grownCap w (n + m) c0 e = k + 1 := ⟨_, (Nat.succ_pred_eq_of_pos (by omega)).symm⟩
          rw [hk]; rfl

theorem wp_append_gen {P : Program} (w : World) {o : Oper} {a : Act} {K : Act → World → Prop} {Q : Exit → Act → World → Prop} {t e size bytes : Nat} {z : Value} (E : Elem P t e size bytes z) (base : Nat) (s x : Operand)
    (ho : o.op = .call { callee := .builtin .append, args := #[s, x], argTypes := #[t, t] })
    (A0 : Option Addr) (n c0 : Nat) (xs : List Value) (hs : a.eval s = .slice A0 n c0) (hown : Own w base e size A0 n c0 xs)
    (A : Option Addr) (m c : Nat) (news : List Value) (hx : a.eval x = .slice A m c) (hr : Sl w size A m c news) (h1 : ∀ u ∈ news, u.oneCell' = true)
    (hbytes : (n + m) * bytes ≤ 140737488355328) (hb1 : 0 < bytes) (hbase : base ≤ w.heap.size)
    (h : ∀ A' c' w', Own w' base e size A' (n + m) c' (xs ++ news) → w.grownBy w' (blk A0 c0) → (blk A' c' = blk A0 c0 ∨ blk A' c' = some w.heap.size) → K (a.put o.dst (.slice A' (n + m) c')) w') : o.wp P a w K Q := by
  obtain ⟨A', c', w', hrun, h2, h3, h4⟩ := run_append_gen (P := P) (ty := o.type) w E base A0 n c0 xs hown A m c news hr h1 hbytes hb1 hbase
  unfold Oper.wp execOp
  simp only [ho, resolve, invoke, builtin, Sem.run_bind, Sem.run_pure, Result.andThen_ok, List.map_toArray, List.map_cons, List.map_nil, hs, hx, hrun]
  exact h A' c' w' h2 h3 h4

/-- append, in a plain region -/
theorem wpList_append_gen {P : Program} (w : World) {ops : Array Oper} {rest : List Oper} {o : Oper} {a : Act} {Q : Exit → Act → World → Prop} {t e size bytes : Nat} {z : Value} (E : Elem P t e size bytes z) (base : Nat) (s x : Operand)
    (ho : o.op = .call { callee := .builtin .append, args := #[s, x], argTypes := #[t, t] }) (hgd : o.guard = none)
    (A0 : Option Addr) (n c0 : Nat) (xs : List Value) (hs : a.eval s = .slice A0 n c0) (hown : Own w base e size A0 n c0 xs)
    (A : Option Addr) (m c : Nat) (news : List Value) (hx : a.eval x = .slice A m c) (hr : Sl w size A m c news) (h1 : ∀ u ∈ news, u.oneCell' = true)
    (hbytes : (n + m) * bytes ≤ 140737488355328) (hb1 : 0 < bytes) (hbase : base ≤ w.heap.size)
    (h : ∀ A' c' w', Own w' base e size A' (n + m) c' (xs ++ news) → w.grownBy w' (blk A0 c0) → (blk A' c' = blk A0 c0 ∨ blk A' c' = some w.heap.size) → wpList P ops Q rest (a.put o.dst (.slice A' (n + m) c')) w') : wpList P ops Q (o :: rest) a w :=
  wpList_plain hgd fun _ hK => wp_append_gen w E base s x ho A0 n c0 xs hs hown A m c news hx hr h1 hbytes hb1 hbase fun A' c' w' h2 h3 h4 => hK _ _ (h A' c' w' h2 h3 h4)

/-- a block just made, read as a slice of one element -/
theorem Sl.one (w : World) (cs : Array Value) (t : TypeId) (size : Nat) (hs : cs.size = size) : Sl (w.alloc (.cells cs t)) size (some ⟨w.heap.size, 0, none⟩) 1 1 cs.toList := by
  refine ⟨by simp [hs], Nat.le_refl _, by unfold maxLen; omega, (fun h => nomatch h), fun _ => ⟨_, rfl, fun j u hu => ?_⟩⟩
  have hadd : (⟨w.heap.size, 0, none⟩ : Addr).add j = ⟨w.heap.size, j, none⟩ := by unfold Addr.add; split <;> simp_all
  rw [hadd, cell_of_row _ w.heap.size j cs t (0, 0) (heap_alloc_new w _)]
  simpa using hu

/-! ### ends -/
theorem ret_bool {a b : Bool} (h : a = b) : Ending.returned (.bool a) = Ending.returned (.bool b) := by rw [h]
theorem ret_int {k : IntKind} {a b : Int} (h : a = b) : Ending.returned (.int k a) = Ending.returned (.int k b) := by rw [h]

/-! ### lists of numbers -/
def U32 (l : List Int) : Prop := ∀ x ∈ l, 0 ≤ x ∧ x ≤ 4294967295
def wds (l : List Int) : List Value := l.map (Value.int .u32)
theorem wds_one (l : List Int) : ∀ u ∈ wds l, u.oneCell' = true := by
  intro u hu
  obtain ⟨x, _, rfl⟩ := List.mem_map.1 hu
  rfl
theorem wds_append (a b : List Int) : wds a ++ wds b = wds (a ++ b) := by simp [wds]
theorem wds_take (l : List Int) (k : Nat) : (wds l).take k = wds (l.take k) := by simp [wds]
theorem Sl.wlen {w : World} {n c : Nat} {A : Option Addr} {l : List Int} (h : Sl w 1 A n c (wds l)) : l.length = n := by simpa [wds] using h.1
theorem Sl.word {w : World} {n c : Nat} {A : Option Addr} {l : List Int} (h : Sl w 1 A n c (wds l)) {k : Nat} (hk : k < n) :
    ∃ ad, A = some ad ∧ w.cell? (ad.add k) = some (.int .u32 (l.getD k 0)) ∧ ad.block < w.heap.size := by
  obtain ⟨ad, h1, h2⟩ := h.2.2.2.2 (by omega)
  have hl := h.wlen
  have hc := h2 k (.int .u32 (l.getD k 0)) ?_
  · exact ⟨ad, h1, hc, by simpa [block_add] using World.block_lt_of_cell? w _ hc⟩
  simp [wds, List.getElem?_map, List.getD_eq_getElem?_getD, List.getElem?_eq_getElem (show k < l.length by omega)]
theorem U32.getD {l : List Int} (h : U32 l) (k : Nat) : 0 ≤ l.getD k 0 ∧ l.getD k 0 ≤ 4294967295 := by
  rw [List.getD_eq_getElem?_getD]
  by_cases hk : k < l.length
  · rw [List.getElem?_eq_getElem hk]; exact h _ (List.getElem_mem hk)
  · rw [List.getElem?_eq_none (by omega)]; simp
theorem U32.at {l : List Int} (h : U32 l) (k : Nat) : 0 ≤ l[k]?.getD 0 ∧ l[k]?.getD 0 ≤ 4294967295 := by
  have := h.getD k
  rwa [List.getD_eq_getElem?_getD] at this
theorem wds_set_last (l : List Int) (K : Nat) (v : Int) (h0 : 0 < K) (h : K ≤ l.length) : (wds (l.take K)).set (K - 1) (.int .u32 v) = wds (l.take (K - 1) ++ [v]) := by
  obtain ⟨k, rfl⟩ : ∃ k, K = k + 1 := ⟨K - 1, by omega⟩
  rw [List.take_succ_eq_append_getElem (by omega)]
  simp only [wds, Nat.add_sub_cancel, List.map_append, List.map_cons, List.map_nil]
  have : (List.map (Value.int IntKind.u32) (List.take k l)).length = k := by simp; omega
  rw [List.set_append_right _ _ (by omega), this]
  simp
end Go.Proofs.Yteklohamkmiphaa
namespace Go.Proofs.Yteklohamkmiphaa

section
variable {P W : Type}

/-- a move: along an edge, or by a way -/
inductive Mv (P W : Type) where
  | e (o q : P)
  | w (x : W)
deriving DecidableEq

/-- a graph as the queue sees it -/
structure Net (P W : Type) where
  start : P
  d0 : Nat
  dep : P → Nat
  win : W → P
  wout : W → P
  kp : W → Nat
  add : W → Nat
  ent : W → Nat → Nat

/-- what a way comes to: up to which counter it keeps them, and what it adds, or sets -/
structure Lab where
  k : Nat
  v : Nat → Nat

/-- never behind, up to a counter -/
def Lab.le (d : Nat) (a b : Lab) : Prop := ∀ j, j ≤ d → a.v j ≤ b.v j ∧ (j ≤ a.k → j ≤ b.k)

theorem Lab.le_refl (d : Nat) (a : Lab) : Lab.le d a a := fun _ _ => ⟨Nat.le_refl _, id⟩
theorem Lab.le_trans {d : Nat} {a b c : Lab} (h : Lab.le d a b) (g : Lab.le d b c) : Lab.le d a c := fun j hj => ⟨Nat.le_trans (h j hj).1 (g j hj).1, fun x => (g j hj).2 ((h j hj).2 x)⟩
theorem Lab.le_mono {d e : Nat} {a b : Lab} (h : Lab.le d a b) (he : e ≤ d) : Lab.le e a b := fun j hj => h j (Nat.le_trans hj he)

variable (N : Net P W)

def Net.app (x : W) (l : Lab) : Lab := ⟨min l.k (N.kp x), fun j => if j < N.kp x then l.v j else if j = N.kp x then l.v j + N.add x else N.ent x j⟩
def Net.lab : List (Mv P W) → Lab
  | [] => ⟨N.d0, fun _ => 0⟩
  | .e _ _ :: t => Net.lab t
  | .w x :: t => N.app x (Net.lab t)
def Net.endp : List (Mv P W) → P
  | [] => N.start
  | .e _ q :: _ => q
  | .w x :: _ => N.wout x
def Net.src : Mv P W → P
  | .e o _ => o
  | .w x => N.win x
/-- how far a move keeps -/
def Net.kpm : Mv P W → Nat
  | .e _ _ => 9
  | .w x => N.kp x

/-- a run: its entries, and when each came -/
structure Run where
  E : List (Mv P W) → Prop
  tm : List (Mv P W) → Nat
  st : Prop
  tl : ∀ m t, E (m :: t) → E t ∧ tm t < tm (m :: t) ∧ N.src m = N.endp t
  inj : ∀ l m, E l → E m → tm l = tm m → l = m
  un : ∀ l m, E l → E m → (st ∨ l ≠ []) → N.endp l = N.endp m → tm l < tm m → ¬ Lab.le (N.dep (N.endp l)) (N.lab l) (N.lab m)
  aw : ∀ x y u, E x → E y → N.endp x = N.endp y → tm x < tm y → E (.w u :: y) → ¬ Lab.le (N.kp u) (N.lab x) (N.lab y)
  ed : ∀ x y o q, E x → E y → N.endp x = N.endp y → tm x < tm y → E (.e o q :: y) → ∃ z, E z ∧ (st ∨ z ≠ []) ∧ tm z < tm (.e o q :: y) ∧ N.endp z = q ∧ Lab.le (N.dep q) (N.lab z) (N.lab x)
  kw : ∀ u y, E (.w u :: y) → N.kp u ≤ N.dep (N.win u) ∧ N.kp u ≤ 3
  zero : ∀ u y, E (.w u :: y) → N.kp u = 0 → N.add u = 0
  d3 : ∀ p, N.dep p ≤ 3

/-- what is left behind the last ways that keep so far -/
def Net.base (i : Nat) : List (Mv P W) → List (Mv P W)
  | [] => []
  | m :: t => if i ≤ N.kpm m then Net.base i t else m :: t
/-- the ways that keep just so far, since then -/
def Net.S (i : Nat) : List (Mv P W) → List W
  | [] => []
  | .e _ _ :: t => if i ≤ 9 then Net.S i t else []
  | .w x :: t => if i < N.kp x then Net.S i t else if i = N.kp x then x :: Net.S i t else []

theorem Net.base_ge {i : Nat} {m : Mv P W} (t : List (Mv P W)) (h : i ≤ N.kpm m) : N.base i (m :: t) = N.base i t := by simp only [Net.base, if_pos h]
theorem Net.base_lt {i : Nat} {m : Mv P W} (t : List (Mv P W)) (h : ¬ i ≤ N.kpm m) : N.base i (m :: t) = m :: t := by simp only [Net.base, if_neg h]
theorem Net.base_e {i : Nat} (o q : P) (t : List (Mv P W)) (h : i ≤ 9) : N.base i (.e o q :: t) = N.base i t := N.base_ge t (m := .e o q) h
theorem Net.base_w {i : Nat} (x : W) (t : List (Mv P W)) (h : i ≤ N.kp x) : N.base i (.w x :: t) = N.base i t := N.base_ge t (m := .w x) h
theorem Net.base_n {i : Nat} (x : W) (t : List (Mv P W)) (h : ¬ i ≤ N.kp x) : N.base i (.w x :: t) = .w x :: t := N.base_lt t (m := .w x) h
theorem Net.S_e {i : Nat} (o q : P) (t : List (Mv P W)) (h : i ≤ 9) : N.S i (.e o q :: t) = N.S i t := by simp only [Net.S, if_pos h]
theorem Net.S_gt {i : Nat} (x : W) (t : List (Mv P W)) (h : i < N.kp x) : N.S i (.w x :: t) = N.S i t := by simp only [Net.S, if_pos h]
theorem Net.S_eq {i : Nat} (x : W) (t : List (Mv P W)) (h : N.kp x = i) : N.S i (.w x :: t) = x :: N.S i t := by simp only [Net.S, if_neg (show ¬ i < N.kp x by omega), if_pos h.symm]
theorem Net.S_lt {i : Nat} (x : W) (t : List (Mv P W)) (h : N.kp x < i) : N.S i (.w x :: t) = [] := by simp only [Net.S, if_neg (show ¬ i < N.kp x by omega), if_neg (show ¬ i = N.kp x by omega)]

theorem Net.lab_base (i : Nat) (hi : i ≤ 9) : ∀ l : List (Mv P W), (∀ j, j < i → (N.lab l).v j = (N.lab (N.base i l)).v j) ∧ (N.lab l).v i = (N.lab (N.base i l)).v i + ((N.S i l).map N.add).sum ∧ (∀ j, j ≤ i → (j ≤ (N.lab l).k ↔ j ≤ (N.lab (N.base i l)).k))
  | [] => by simp [Net.base, Net.S]
  | .e o q :: t => by
    have h := lab_base i hi t
    rw [N.base_e o q t hi, N.S_e o q t hi]
    exact h
  | .w x :: t => by
    have h := lab_base i hi t
    rcases Nat.lt_trichotomy i (N.kp x) with h1 | h1 | h1
    · rw [N.base_w x t (by omega), N.S_gt x t h1]
      simp only [Net.lab, Net.app]
      refine ⟨fun j hj => ?_, ?_, fun j hj => ?_⟩
      · rw [if_pos (by omega)]; exact h.1 j hj
      · rw [if_pos h1]; exact h.2.1
      · rw [← h.2.2 j hj]; omega
    · rw [N.base_w x t (by omega), N.S_eq x t h1.symm]
      simp only [Net.lab, Net.app, List.map_cons, List.sum_cons]
      refine ⟨fun j hj => ?_, ?_, fun j hj => ?_⟩
      · rw [if_pos (by omega)]; exact h.1 j hj
      · rw [if_neg (by omega), if_pos h1, h.2.1]; omega
      · rw [← h.2.2 j hj]; omega
    · rw [N.base_n x t (by omega), N.S_lt x t h1]
      simp

theorem Net.base_base (i j : Nat) (h : i ≤ j) : ∀ l : List (Mv P W), N.base i (N.base j l) = N.base i l
  | [] => rfl
  | m :: t => by
    by_cases h1 : j ≤ N.kpm m
    · rw [N.base_ge t h1, N.base_ge t (Nat.le_trans h h1)]; exact base_base i j h t
    · rw [N.base_lt t h1]

theorem Net.S_base (i j : Nat) (h : i < j) (hj : j ≤ 9) : ∀ l : List (Mv P W), N.S i (N.base j l) = N.S i l
  | [] => rfl
  | .e o q :: t => by
    rw [N.base_e o q t hj, N.S_e o q t (by omega)]; exact S_base i j h hj t
  | .w x :: t => by
    by_cases h1 : j ≤ N.kp x
    · rw [N.base_w x t h1, N.S_gt x t (by omega)]; exact S_base i j h hj t
    · rw [N.base_n x t h1]

theorem Net.base_suffix (i : Nat) : ∀ l : List (Mv P W), N.base i l <:+ l
  | [] => List.suffix_refl _
  | m :: t => by
    by_cases h1 : i ≤ N.kpm m
    · rw [N.base_ge t h1]; exact (base_suffix i t).trans (List.suffix_cons m t)
    · rw [N.base_lt t h1]; exact List.suffix_refl _

theorem Net.S_kp (i : Nat) : ∀ (l : List (Mv P W)) (x : W), x ∈ N.S i l → N.kp x = i
  | [], x, h => by simp [Net.S] at h
  | .e o q :: t, x, h => by
    simp only [Net.S] at h
    split at h
    · exact S_kp i t x h
    · simp at h
  | .w y :: t, x, h => by
    rcases Nat.lt_trichotomy i (N.kp y) with h1 | h1 | h1
    · rw [N.S_gt y t h1] at h; exact S_kp i t x h
    · rw [N.S_eq y t h1.symm] at h
      rcases List.mem_cons.1 h with rfl | h
      · exact h1.symm
      · exact S_kp i t x h
    · rw [N.S_lt y t h1] at h; simp at h

/-- where a way of these stands: its entry -/
theorem Net.S_at (i : Nat) (hi : i ≤ 9) : ∀ (l : List (Mv P W)) (x : W), x ∈ N.S i l → ∃ r, (.w x :: r) <:+ l ∧ N.base i (.w x :: r) = N.base i l ∧ N.S i (.w x :: r) <:+ N.S i l ∧ N.S i (.w x :: r) = x :: N.S i r
  | [], x, h => by simp [Net.S] at h
  | .e o q :: t, x, h => by
    rw [N.S_e o q t hi] at h
    obtain ⟨r, h1, h2, h3, h4⟩ := S_at i hi t x h
    exact ⟨r, h1.trans (List.suffix_cons _ _), by rw [h2, N.base_e o q t hi], by rw [N.S_e o q t hi]; exact h3, h4⟩
  | .w y :: t, x, h => by
    rcases Nat.lt_trichotomy i (N.kp y) with h1 | h1 | h1
    · rw [N.S_gt y t h1] at h
      obtain ⟨r, g1, g2, g3, g4⟩ := S_at i hi t x h
      exact ⟨r, g1.trans (List.suffix_cons _ _), by rw [g2, N.base_w y t (by omega)], by rw [N.S_gt y t h1]; exact g3, g4⟩
    · rw [N.S_eq y t h1.symm] at h
      rcases List.mem_cons.1 h with rfl | h
      · exact ⟨t, List.suffix_refl _, rfl, List.suffix_refl _, N.S_eq x t h1.symm⟩
      · obtain ⟨r, g1, g2, g3, g4⟩ := S_at i hi t x h
        exact ⟨r, g1.trans (List.suffix_cons _ _), by rw [g2, N.base_w y t (by omega)], by rw [N.S_eq y t h1.symm]; exact g3.trans (List.suffix_cons _ _), g4⟩
    · rw [N.S_lt y t h1] at h; simp at h

variable {N}
theorem Run.suffix (R : Run N) : ∀ {l t : List (Mv P W)}, R.E l → t <:+ l → R.E t ∧ R.tm t ≤ R.tm l ∧ (t ≠ l → R.tm t < R.tm l)
  | [], t, h, hs => by
    have : t = [] := List.suffix_nil.1 hs
    subst this; exact ⟨h, Nat.le_refl _, fun x => absurd rfl x⟩
  | m :: l, t, h, hs => by
    rcases List.suffix_cons_iff.1 hs with rfl | hs
    · exact ⟨h, Nat.le_refl _, fun x => absurd rfl x⟩
    · obtain ⟨h1, h2, _⟩ := R.tl m l h
      obtain ⟨g1, g2, _⟩ := Run.suffix R h1 hs
      exact ⟨g1, by omega, fun _ => by omega⟩

/-- behind one way from one base, with no more of the others: never behind -/
theorem Net.lab_le (N : Net P W) (i : Nat) (hi : i ≤ 9) (u : W) (r s : List (Mv P W)) (hu : N.kp u = i) (hb : N.base i (.w u :: r) = N.base i (.w u :: s)) (hs : ((N.S i (.w u :: r)).map N.add).sum ≤ ((N.S i (.w u :: s)).map N.add).sum) (d : Nat) :
    Lab.le d (N.lab (.w u :: r)) (N.lab (.w u :: s)) := by
  have h1 := N.lab_base i hi (.w u :: r)
  have h2 := N.lab_base i hi (.w u :: s)
  intro j hj
  rcases Nat.lt_trichotomy j i with h | h | h
  · refine ⟨by rw [h1.1 j h, h2.1 j h, hb]; exact Nat.le_refl _, fun x => ?_⟩
    rw [h2.2.2 j (by omega), ← hb, ← h1.2.2 j (by omega)]; exact x
  · subst h
    refine ⟨by rw [h1.2.1, h2.2.1, hb]; omega, fun x => ?_⟩
    rw [h2.2.2 j (by omega), ← hb, ← h1.2.2 j (by omega)]; exact x
  · refine ⟨?_, fun x => ?_⟩
    · simp only [Net.lab, Net.app, hu, if_neg (show ¬ j < i by omega), if_neg (show ¬ j = i by omega)]; exact Nat.le_refl _
    · simp only [Net.lab, Net.app, hu] at x ⊢; omega

theorem Run.nodup (R : Run N) (i : Nat) (hi : i ≤ 9) : ∀ {l : List (Mv P W)}, R.E l → (N.S i l).Nodup
  | [], _ => by simp [Net.S]
  | .e o q :: t, h => by
    rw [N.S_e o q t hi]; exact Run.nodup R i hi (R.tl _ _ h).1
  | .w x :: t, h => by
    rcases Nat.lt_trichotomy i (N.kp x) with h1 | h1 | h1
    · rw [N.S_gt x t h1]; exact Run.nodup R i hi (R.tl _ _ h).1
    · rw [N.S_eq x t h1.symm]
      refine List.nodup_cons.2 ⟨fun hm => ?_, Run.nodup R i hi (R.tl _ _ h).1⟩
      obtain ⟨r, g1, g2, g3, g4⟩ := N.S_at i hi t x hm
      have g := R.suffix (R.tl _ _ h).1 g1
      have g5 := (R.tl _ _ h).2.1
      refine R.un _ _ g.1 h (.inr (by simp)) rfl (by omega) (N.lab_le i hi x r t h1.symm (by rw [g2, N.base_w x t (by omega)]) ?_ _)
      rw [N.S_eq x t h1.symm]
      obtain ⟨c, hc⟩ := g3
      rw [← hc]; simp only [List.map_cons, List.map_append, List.sum_cons, List.sum_append]; omega
    · rw [N.S_lt x t h1]; exact List.nodup_nil

theorem perm_sum {l m : List W} (f : W → Nat) (h : l.Perm m) : (l.map f).sum = (m.map f).sum := (h.map f).sum_nat

theorem perm_of_mem {l m : List W} (hl : l.Nodup) (hm : m.Nodup) (h : ∀ x, x ∈ l ↔ x ∈ m) : l.Perm m := (List.perm_ext_iff_of_nodup hl hm).2 h

theorem Net.head_base (N : Net P W) (i : Nat) (hi : i < 9) {l : List (Mv P W)} (h : N.base (i + 1) l = l) : (N.S i l = [] ∧ N.base i l = l) ∨ ∃ u t, l = .w u :: t ∧ N.kp u = i := by
  rcases l with _ | ⟨m, t⟩
  · exact .inl ⟨rfl, rfl⟩
  · have hm : ¬ i + 1 ≤ N.kpm m := by
      intro hm
      rw [N.base_ge t hm] at h
      have := (N.base_suffix (i + 1) t).length_le
      rw [h] at this
      simp at this
      omega
    cases m with
    | e o q => simp only [Net.kpm] at hm; omega
    | w x =>
      simp only [Net.kpm] at hm
      by_cases hx : N.kp x = i
      · exact .inr ⟨x, t, rfl, hx⟩
      · exact .inl ⟨N.S_lt x t (by omega), N.base_n x t (by omega)⟩

/-- two entries behind ways that keep so far at most, of one base and the same ways since: the same entry -/
theorem Run.uniq (R : Run N) (i : Nat) (hi : i < 9) {l m : List (Mv P W)} (hl : R.E l) (hm : R.E m) (bl : N.base (i + 1) l = l) (bm : N.base (i + 1) m = m)
    (hb : N.base i l = N.base i m) (hs : ∀ x, x ∈ N.S i l ↔ x ∈ N.S i m) : l = m := by
  have nl := R.nodup i (by omega) hl
  have nm := R.nodup i (by omega) hm
  have hp := perm_sum N.add (perm_of_mem nl nm hs)
  rcases N.head_base i hi bl with ⟨l1, l2⟩ | ⟨u, r, rfl, hu⟩
  · rcases N.head_base i hi bm with ⟨m1, m2⟩ | ⟨v, s, rfl, hv⟩
    · rw [← l2, ← m2]; exact hb
    · exfalso
      have : v ∈ N.S i l := (hs v).2 (by rw [N.S_eq _ _ hv]; exact List.mem_cons_self)
      rw [l1] at this; simp at this
  · rcases N.head_base i hi bm with ⟨m1, m2⟩ | ⟨v, s, rfl, hv⟩
    · exfalso
      have : u ∈ N.S i m := (hs u).1 (by rw [N.S_eq _ _ hu]; exact List.mem_cons_self)
      rw [m1] at this; simp at this
    · by_cases huv : u = v
      · subst huv
        have c1 := N.lab_le i (by omega) u r s hu hb (by rw [hp]; exact Nat.le_refl _) (N.dep (N.wout u))
        have c2 := N.lab_le i (by omega) u s r hu hb.symm (by rw [hp]; exact Nat.le_refl _) (N.dep (N.wout u))
        rcases Nat.lt_trichotomy (R.tm (.w u :: r)) (R.tm (.w u :: s)) with h | h | h
        · exact absurd c1 (R.un _ _ hl hm (.inr (by simp)) rfl h)
        · exact R.inj _ _ hl hm h
        · exact absurd c2 (R.un _ _ hm hl (.inr (by simp)) rfl h)
      · exfalso
        -- of two with different last ways each would come ahead of the other one
        have key : ∀ (u v : W) (r s : List (Mv P W)), R.E (.w u :: r) → R.E (.w v :: s) → N.kp u = i → N.kp v = i → N.base i (.w u :: r) = N.base i (.w v :: s) → (∀ x, x ∈ N.S i (.w u :: r) ↔ x ∈ N.S i (.w v :: s)) →
            ((N.S i (.w u :: r)).map N.add).sum = ((N.S i (.w v :: s)).map N.add).sum → u ≠ v → R.tm (.w u :: r) < R.tm (.w v :: s) := by
          intro u v r s h1 h2 hu hv hb hs hp huv
          have hmem : u ∈ N.S i (.w v :: s) := (hs u).1 (by rw [N.S_eq _ _ hu]; exact List.mem_cons_self)
          obtain ⟨t, t1, t2, t3, t4⟩ := N.S_at i (by omega) _ u hmem
          have gt := R.suffix h2 t1
          have ne : (.w u :: t : List (Mv P W)) ≠ .w v :: s := by intro h; injection h with h _; injection h with h; exact huv h
          have lt := gt.2.2 ne
          have c := N.lab_le i (by omega) u t r hu (by rw [t2, hb]) (by
            rw [hp]; obtain ⟨c, hc⟩ := t3
            rw [← hc, List.map_append, List.sum_append]; omega) (N.dep (N.wout u))
          rcases Nat.lt_trichotomy (R.tm (.w u :: r)) (R.tm (.w u :: t)) with h | h | h
          · omega
          · exfalso
            have := R.inj _ _ h1 gt.1 h
            -- the later way stands in the elder entry too: twice
            have hv1 : v ∈ N.S i (.w u :: t) := by rw [← this]; exact (hs v).2 (by rw [N.S_eq _ _ hv]; exact List.mem_cons_self)
            have hv2 : N.S i (.w v :: s) = v :: N.S i s := N.S_eq _ _ hv
            have nd := R.nodup i (by omega) h2
            rw [hv2] at nd t3
            rcases List.suffix_cons_iff.1 t3 with h5 | h5
            · rw [t4] at h5; injection h5 with h5 _; exact huv h5
            · exact (List.nodup_cons.1 nd).1 (h5.subset hv1)
          · exact absurd c (R.un _ _ gt.1 h1 (.inr (by simp)) rfl h)
        have k1 := key u v r s hl hm hu hv hb hs hp huv
        have k2 := key v u s r hm hl hv hu hb.symm (fun x => (hs x).symm) hp.symm (Ne.symm huv)
        omega
end
end Go.Proofs.Yteklohamkmiphaa
namespace Go.Proofs.Yteklohamkmiphaa

section count
variable {α β : Type} [DecidableEq β]

theorem count_by (f : α → β) (n : Nat) : ∀ (O : List β) (L : List α), (∀ x ∈ L, f x ∈ O) → (∀ b ∈ O, (L.filter (fun x => f x = b)).length ≤ n) → L.length ≤ O.length * n
  | [], L, h, _ => by
    have : L = [] := List.eq_nil_iff_forall_not_mem.2 fun x hx => by simpa using h x hx
    subst this; simp
  | b :: O, L, h, g => by
    have h1 : L.length = (L.filter (fun x => f x = b)).length + (L.filter (fun x => ! decide (f x = b))).length := by
      have := List.length_eq_countP_add_countP (l := L) (fun x => decide (f x = b))
      rw [List.countP_eq_length_filter, List.countP_eq_length_filter] at this
      simpa using this
    have h2 := g b List.mem_cons_self
    have h3 := count_by f n O (L.filter (fun x => ! decide (f x = b))) (fun x hx => by
      have hx := List.mem_filter.1 hx
      rcases List.mem_cons.1 (h x hx.1) with e | e
      · simp [e] at hx
      · exact e) (fun c hc => by
      refine Nat.le_trans ?_ (g c (List.mem_cons_of_mem _ hc))
      rw [List.filter_filter]
      rw [← List.countP_eq_length_filter, ← List.countP_eq_length_filter]
      exact List.countP_mono_left fun x _ hx => by simp at hx; simp [hx.1])
    rw [List.length_cons, Nat.add_mul, Nat.one_mul]; omega

def prodL : List Nat → Nat
  | [] => 1
  | a :: l => a * prodL l
/-- functions that fix what they are asked of, each with so many answers -/
theorem count_prod : ∀ (fs : List ((α → β) × List β)) (L : List α), L.Nodup → (∀ x ∈ L, ∀ f ∈ fs, f.1 x ∈ f.2) → (∀ x ∈ L, ∀ y ∈ L, (∀ f ∈ fs, f.1 x = f.1 y) → x = y) → L.length ≤ prodL (fs.map fun f => f.2.length)
  | [], L, nd, _, h => by
    rcases L with _ | ⟨a, _ | ⟨b, l⟩⟩
    · simp [prodL]
    · simp [prodL]
    · exact absurd (h a (by simp) b (by simp) (by simp)) (by simp at nd; exact fun e => nd.1.1 e)
  | f :: fs, L, nd, m, h => by
    refine count_by f.1 (prodL (fs.map fun f => f.2.length)) f.2 L (fun x hx => m x hx f List.mem_cons_self) fun b _ => ?_
    refine count_prod fs _ (nd.filter _) (fun x hx g hg => m x (List.mem_filter.1 hx).1 g (List.mem_cons_of_mem _ hg)) fun x hx y hy hxy => ?_
    have hx := List.mem_filter.1 hx
    have hy := List.mem_filter.1 hy
    refine h x hx.1 y hy.1 fun g hg => ?_
    rcases List.mem_cons.1 hg with rfl | hg
    · have a := of_decide_eq_true hx.2; have b := of_decide_eq_true hy.2; rw [a, b]
    · exact hxy g hg
end count

section
variable {P W : Type} {N : Net P W}

/-- only one edge leads to it, and it is not where one begins -/
def Run.Single (R : Run N) (o q : P) : Prop := q ≠ N.start ∧ ∀ m t, R.E (m :: t) → N.endp (m :: t) = q → m = .e o q

theorem Net.S_two (N : Net P W) (i : Nat) (hi : i ≤ 9) {l : List (Mv P W)} {x y : W} (hx : x ∈ N.S i l) (hy : y ∈ N.S i l) (h : x ≠ y) :
    (∃ s, (.w x :: s) <:+ l ∧ y ∈ N.S i s) ∨ (∃ s, (.w y :: s) <:+ l ∧ x ∈ N.S i s) := by
  obtain ⟨s, a1, a2, a3, a4⟩ := N.S_at i hi l x hx
  obtain ⟨r, b1, b2, b3, b4⟩ := N.S_at i hi l y hy
  rw [a4] at a3
  rw [b4] at b3
  rcases List.suffix_or_suffix_of_suffix a3 b3 with c | c
  · right; refine ⟨r, b1, ?_⟩
    rcases List.mem_cons.1 (c.subset List.mem_cons_self) with e | e
    · exact absurd e h
    · exact e
  · left; refine ⟨s, a1, ?_⟩
    rcases List.mem_cons.1 (c.subset List.mem_cons_self) with e | e
    · exact absurd e.symm h
    · exact e

theorem Run.no_two (R : Run N) {i : Nat} (hi : i ≤ 3) {x y : W} {s : List (Mv P W)} (h : R.E (.w x :: s)) (kx : N.kp x = i) (hy : y ∈ N.S i s) (hw : N.win x = N.win y ∨ ∃ o, R.Single o (N.win x) ∧ R.Single o (N.win y)) : False := by
  obtain ⟨r, b1, b2, b3, b4⟩ := N.S_at i (by omega) s y hy
  have ky := N.S_kp i s y hy
  obtain ⟨es, ts, xs⟩ := R.tl _ _ h
  have er := R.suffix es b1
  obtain ⟨er1, tr, xr⟩ := R.tl _ _ er.1
  -- up to this counter the elder one is never behind
  have le : Lab.le i (N.lab r) (N.lab s) := by
    have h1 := N.lab_base i (by omega) r
    have h2 := N.lab_base i (by omega) s
    have hb : N.base i r = N.base i s := by rw [← b2, N.base_w y r (by omega)]
    have hsum : ((N.S i r).map N.add).sum ≤ ((N.S i s).map N.add).sum := by
      rw [b4] at b3
      obtain ⟨c, hc⟩ := b3
      rw [← hc]; simp only [List.map_append, List.map_cons, List.sum_append, List.sum_cons]; omega
    intro j hj
    refine ⟨?_, fun g => ?_⟩
    · rcases Nat.lt_or_ge j i with g | g
      · rw [h1.1 j g, h2.1 j g, hb]; exact Nat.le_refl _
      · have : j = i := by omega
        subst this
        rw [h1.2.1, h2.2.1, hb]; omega
    · rw [h2.2.2 j hj, ← hb, ← h1.2.2 j hj]; exact g
  rcases hw with hw | ⟨o, sx, sy⟩
  · exact R.aw r s x er1 es (by rw [← xr, ← xs]; simp only [Net.src]; exact hw.symm) (by omega) h (kx ▸ le)
  · -- both come from one output
    cases r with
    | nil => exact sy.1 (by simpa [Net.src, Net.endp] using xr)
    | cons m r1 =>
    have em := sy.2 m r1 er1 (by rw [← xr]; rfl)
    subst em
    cases s with
    | nil => simp [Net.S] at hy
    | cons n s1 =>
    have en := sx.2 n s1 es (by rw [← xs]; rfl)
    subst en
    obtain ⟨fs1, ts1, ys1⟩ := R.tl _ _ es
    obtain ⟨fr1, tr1, yr1⟩ := R.tl _ _ er1
    have lt : R.tm r1 < R.tm s1 := by
      rcases List.suffix_cons_iff.1 b1 with e | e
      · injection e with e _; exact absurd e (by simp)
      · have := R.suffix fs1 e
        omega
    obtain ⟨z, z1, _, z2, z3, z4⟩ := R.ed r1 s1 o (N.win x) fr1 fs1 (by rw [← yr1, ← ys1]; rfl) lt es
    refine R.aw z _ x z1 es (by rw [z3, ← xs]; rfl) z2 h ?_
    have kd := (R.kw x _ h).1
    have le' : Lab.le i (N.lab r1) (N.lab s1) := le
    rw [kx] at kd ⊢
    exact Lab.le_trans (Lab.le_mono z4 kd) le'

theorem Run.one_key (R : Run N) (key : W → P) (hk : ∀ x y, key x = key y → N.win x = N.win y ∨ ∃ o, R.Single o (N.win x) ∧ R.Single o (N.win y)) {i : Nat} (hi : i ≤ 3) {l : List (Mv P W)} (h : R.E l) {x y : W} (hx : x ∈ N.S i l) (hy : y ∈ N.S i l) (e : key x = key y) : x = y := by
  refine Classical.byContradiction fun ne => ?_
  rcases N.S_two i (by omega) hx hy ne with ⟨s, h1, h2⟩ | ⟨s, h1, h2⟩
  · exact R.no_two hi (R.suffix h h1).1 (N.S_kp i l x hx) h2 (hk x y e)
  · exact R.no_two hi (R.suffix h h1).1 (N.S_kp i l y hy) h2 (hk y x e.symm)

/-- the first counter stays -/
theorem Run.v0 (R : Run N) : ∀ {l : List (Mv P W)}, R.E l → (N.lab l).v 0 = 0
  | [], _ => rfl
  | .e o q :: t, h => by simp only [Net.lab]; exact Run.v0 R (R.tl _ _ h).1
  | .w x :: t, h => by
    have ih := Run.v0 R (R.tl _ _ h).1
    simp only [Net.lab, Net.app]
    split
    · exact ih
    · split
      · rename_i h1; rw [ih, R.zero x t h h1.symm]
      · omega

theorem Run.base_zero (R : Run N) {x : W} {r s : List (Mv P W)} (h : R.E (.w x :: r)) (g : R.E (.w x :: s)) (h0 : N.kp x = 0) : (.w x :: r : List (Mv P W)) = .w x :: s := by
  have c : ∀ {r s : List (Mv P W)}, R.E (.w x :: r) → R.E (.w x :: s) → Lab.le (N.dep (N.wout x)) (N.lab (.w x :: r)) (N.lab (.w x :: s)) := by
    intro r s h g j hj
    have a := R.v0 h; have b := R.v0 g
    by_cases hz : j = 0
    · subst hz; exact ⟨by rw [a]; omega, fun _ => Nat.zero_le _⟩
    · refine ⟨?_, fun e => ?_⟩
      · simp only [Net.lab, Net.app, h0, if_neg (show ¬ j < 0 by omega), if_neg hz]; exact Nat.le_refl _
      · simp only [Net.lab, Net.app, h0] at e; omega
  rcases Nat.lt_trichotomy (R.tm (.w x :: r)) (R.tm (.w x :: s)) with k | k | k
  · exact absurd (c h g) (R.un _ _ h g (.inr (by simp)) rfl k)
  · exact R.inj _ _ h g k
  · exact absurd (c g h) (R.un _ _ g h (.inr (by simp)) rfl k)

theorem Run.same_base1 (R : Run N) {l m : List (Mv P W)} (hl : R.E l) (hm : R.E m) (h : (N.base 1 l).head? = (N.base 1 m).head?) : N.base 1 l = N.base 1 m := by
  have el := (R.suffix hl (N.base_suffix 1 l)).1
  have em := (R.suffix hm (N.base_suffix 1 m)).1
  have bl := N.base_base 1 1 (Nat.le_refl _) l
  have bm := N.base_base 1 1 (Nat.le_refl _) m
  rcases N.head_base 0 (by omega) bl with ⟨_, b⟩ | ⟨u, r, e, ku⟩
  · have : N.base 1 l = [] := by
      cases hc : N.base 1 l with
      | nil => rfl
      | cons a t => rw [hc] at b; rw [N.base_ge t (Nat.zero_le _)] at b; have := (N.base_suffix 0 t).length_le; rw [b] at this; simp at this; omega
    rw [this] at h ⊢
    cases hc : N.base 1 m with
    | nil => rfl
    | cons a t => rw [hc] at h; simp at h
  · rw [e] at h el ⊢
    cases hc : N.base 1 m with
    | nil => rw [hc] at h; simp at h
    | cons a t =>
      rw [hc] at h em
      simp only [List.head?_cons, Option.some.injEq] at h
      subst h
      exact R.base_zero el em ku

/-- the ways that one begins anew with, and the same sets since: the same base -/
theorem Run.same_base (R : Run N) {l m : List (Mv P W)} (hl : R.E l) (hm : R.E m) (h : (N.base 1 l).head? = (N.base 1 m).head?) : ∀ i, 1 ≤ i → i ≤ 8 → (∀ j, 1 ≤ j → j < i → ∀ x, x ∈ N.S j l ↔ x ∈ N.S j m) → N.base i l = N.base i m
  | 0, h1, _, _ => by omega
  | 1, _, _, _ => R.same_base1 hl hm h
  | i + 2, _, h8, hs => by
    have ih := Run.same_base R hl hm h (i + 1) (by omega) (by omega) (fun j a b => hs j a (by omega))
    have el := (R.suffix hl (N.base_suffix (i + 2) l)).1
    have em := (R.suffix hm (N.base_suffix (i + 2) m)).1
    refine R.uniq (i + 1) (by omega) el em (N.base_base _ _ (Nat.le_refl _) l) (N.base_base _ _ (Nat.le_refl _) m) ?_ ?_
    · rw [N.base_base _ _ (by omega), N.base_base _ _ (by omega)]; exact ih
    · intro x; rw [N.S_base _ _ (by omega) (by omega), N.S_base _ _ (by omega) (by omega)]; exact hs (i + 1) (by omega) (by omega) x
end
end Go.Proofs.Yteklohamkmiphaa
namespace Go.Proofs.Yteklohamkmiphaa

section
variable {P W : Type} [DecidableEq P] {N : Net P W}

/-- which way of a key is among these -/
def Net.sig (N : Net P W) (key : W → P) (i : Nat) (k : P) (l : List (Mv P W)) : List (Mv P W) := match (N.S i l).find? (fun x => decide (key x = k)) with | some x => [.w x] | none => []
def Net.sigO (N : Net P W) (ws : List W) (key : W → P) (i : Nat) (k : P) : List (List (Mv P W)) := [] :: (ws.filter (fun x => decide (N.kp x = i) && decide (key x = k))).map (fun x => [.w x])
def Net.root (N : Net P W) (l : List (Mv P W)) : List (Mv P W) := match (N.base 1 l).head? with | some m => [m] | none => []
def Net.rootO (N : Net P W) (ws : List W) : List (List (Mv P W)) := [] :: (ws.filter (fun x => decide (N.kp x = 0))).map (fun x => [.w x])

/-- what is known of a run's ways -/
structure Run.Ways (R : Run N) (ws : List W) (keys : List P) (key : W → P) : Prop where
  wm : ∀ x t, R.E (.w x :: t) → x ∈ ws
  wk : ∀ x, x ∈ ws → key x ∈ keys
  wt : ∀ x y, key x = key y → N.win x = N.win y ∨ ∃ o, R.Single o (N.win x) ∧ R.Single o (N.win y)

variable {R : Run N} {ws : List W} {keys : List P} {key : W → P}

omit [DecidableEq P] in
theorem Run.Ways.S_mem (K : R.Ways ws keys key) {i : Nat} (hi : i ≤ 9) {l : List (Mv P W)} (h : R.E l) {x : W} (hx : x ∈ N.S i l) : x ∈ ws := by
  obtain ⟨r, h1, _⟩ := N.S_at i hi l x hx
  exact K.wm x r (R.suffix h h1).1

theorem Run.Ways.sig_mem (K : R.Ways ws keys key) {i : Nat} (hi : i ≤ 9) (k : P) {l : List (Mv P W)} (h : R.E l) : N.sig key i k l ∈ N.sigO ws key i k := by
  unfold Net.sig Net.sigO
  split
  · rename_i x hx
    refine List.mem_cons_of_mem _ (List.mem_map.2 ⟨x, List.mem_filter.2 ⟨K.S_mem hi h (List.mem_of_find?_eq_some hx), ?_⟩, rfl⟩)
    have a := List.find?_some hx
    have b := N.S_kp i l x (List.mem_of_find?_eq_some hx)
    simp at a ⊢
    exact ⟨b, a⟩
  · exact List.mem_cons_self

omit [DecidableEq P] in
theorem Run.Ways.root_mem (K : R.Ways ws keys key) {l : List (Mv P W)} (h : R.E l) : N.root l ∈ N.rootO ws := by
  unfold Net.root Net.rootO
  split
  · rename_i m hm
    have e := (R.suffix h (N.base_suffix 1 l)).1
    rcases N.head_base 0 (by omega) (N.base_base 1 1 (Nat.le_refl _) l) with ⟨_, b⟩ | ⟨u, r, c, ku⟩
    · exfalso
      cases hc : N.base 1 l with
      | nil => rw [hc] at hm; simp at hm
      | cons a t => rw [hc] at b; rw [N.base_ge t (Nat.zero_le _)] at b; have := (N.base_suffix 0 t).length_le; rw [b] at this; simp at this; omega
    · rw [c] at hm e
      simp at hm
      subst hm
      exact List.mem_cons_of_mem _ (List.mem_map.2 ⟨u, List.mem_filter.2 ⟨K.wm u r e, by simp [ku]⟩, rfl⟩)
  · exact List.mem_cons_self

omit [DecidableEq P] in
theorem root_eq {l m : List (Mv P W)} (h : N.root l = N.root m) : (N.base 1 l).head? = (N.base 1 m).head? := by
  unfold Net.root at h
  cases h1 : (N.base 1 l).head? <;> cases h2 : (N.base 1 m).head? <;> simp [h1, h2] at h ⊢
  exact h

theorem Run.Ways.sig_eq (K : R.Ways ws keys key) {i : Nat} (hi : i ≤ 3) {l m : List (Mv P W)} (hl : R.E l) (hm : R.E m) (h : ∀ k ∈ keys, N.sig key i k l = N.sig key i k m) : ∀ x, x ∈ N.S i l ↔ x ∈ N.S i m := by
  have c : ∀ {l m : List (Mv P W)}, R.E l → R.E m → (∀ k ∈ keys, N.sig key i k l = N.sig key i k m) → ∀ x, x ∈ N.S i l → x ∈ N.S i m := by
    intro l m hl hm h x hx
    have hk := h (key x) (K.wk x (K.S_mem (by omega) hl hx))
    have f1 : (N.S i l).find? (fun y => decide (key y = key x)) = some x := by
      cases hf : (N.S i l).find? (fun y => decide (key y = key x)) with
      | none => have := List.find?_eq_none.1 hf x hx; simp at this
      | some y =>
        have a := List.find?_some hf
        simp at a
        rw [R.one_key key K.wt hi hl (List.mem_of_find?_eq_some hf) hx a]
    unfold Net.sig at hk
    rw [f1] at hk
    cases hf : (N.S i m).find? (fun y => decide (key y = key x)) with
    | none => rw [hf] at hk; simp at hk
    | some y =>
      rw [hf] at hk
      simp at hk
      subst hk
      exact List.mem_of_find?_eq_some hf
  exact fun x => ⟨c hl hm h x, c hm hl (fun k hk => (h k hk).symm) x⟩

/-- the first bound's factors -/
def Net.fX (N : Net P W) (ws : List W) (key : W → P) (keys : List P) : List ((List (Mv P W) → List (Mv P W)) × List (List (Mv P W))) :=
  (N.root, N.rootO ws) :: keys.flatMap (fun k => [(N.sig key 1 k, N.sigO ws key 1 k), (N.sig key 2 k, N.sigO ws key 2 k), (N.sig key 3 k, N.sigO ws key 3 k)])

theorem Run.Ways.boundX [DecidableEq W] (K : R.Ways ws keys key) (L : List (List (Mv P W))) (nd : L.Nodup) (h : ∀ l ∈ L, R.E l ∧ N.base 4 l = l) : L.length ≤ prodL ((N.fX ws key keys).map fun f => f.2.length) := by
  refine count_prod _ L nd (fun l hl f hf => ?_) fun l hl m hm e => ?_
  · rcases List.mem_cons.1 hf with rfl | hf
    · exact K.root_mem (h l hl).1
    · obtain ⟨k, _, hf⟩ := List.mem_flatMap.1 hf
      simp only [List.mem_cons, List.not_mem_nil, or_false] at hf
      rcases hf with rfl | rfl | rfl
      · exact K.sig_mem (by omega) k (h l hl).1
      · exact K.sig_mem (by omega) k (h l hl).1
      · exact K.sig_mem (by omega) k (h l hl).1
  · have r := root_eq (e _ List.mem_cons_self)
    have s : ∀ j, 1 ≤ j → j ≤ 3 → ∀ x, x ∈ N.S j l ↔ x ∈ N.S j m := by
      intro j j1 j3
      refine K.sig_eq j3 (h l hl).1 (h m hm).1 fun k hk => ?_
      have g : ∀ f, f ∈ [(N.sig key 1 k, N.sigO ws key 1 k), (N.sig key 2 k, N.sigO ws key 2 k), (N.sig key 3 k, N.sigO ws key 3 k)] → f.1 l = f.1 m := fun f hf => e f (List.mem_cons_of_mem _ (List.mem_flatMap.2 ⟨k, hk, hf⟩))
      have : j = 1 ∨ j = 2 ∨ j = 3 := by omega
      rcases this with rfl | rfl | rfl
      · exact g (N.sig key 1 k, N.sigO ws key 1 k) (by simp)
      · exact g (N.sig key 2 k, N.sigO ws key 2 k) (by simp)
      · exact g (N.sig key 3 k, N.sigO ws key 3 k) (by simp)
    have b := R.same_base (h l hl).1 (h m hm).1 r 4 (by omega) (by omega) fun j a b => s j a (by omega)
    rw [(h l hl).2, (h m hm).2] at b
    exact b

/-! ## the last part as a walk -/

/-- the move by which a place was left since all but the last counters were touched -/
def Net.ch (N : Net P W) : List (Mv P W) → P → Option (Mv P W)
  | [], _ => none
  | m :: t, p => if 3 ≤ N.kpm m then (if N.src m = p then some m else Net.ch N t p) else none

omit [DecidableEq P] in
theorem Net.base_mid (N : Net P W) (i : Nat) : ∀ {l t : List (Mv P W)}, t <:+ l → N.base i l <:+ t → N.base i t = N.base i l
  | [], t, h, _ => by rw [List.suffix_nil.1 h]
  | m :: l, t, h, g => by
    rcases List.suffix_cons_iff.1 h with rfl | h
    · rfl
    · by_cases hm : i ≤ N.kpm m
      · rw [N.base_ge l hm] at g ⊢; exact base_mid N i h g
      · rw [N.base_lt l hm] at g
        have a := g.length_le; have b := h.length_le; simp at a; omega

omit [DecidableEq P] in
theorem Net.S_mid (N : Net P W) (i : Nat) (hi : i ≤ 9) : ∀ {l t : List (Mv P W)}, t <:+ l → N.base i l <:+ t → N.S i t <:+ N.S i l
  | [], t, h, _ => by rw [List.suffix_nil.1 h]; exact List.suffix_refl _
  | m :: l, t, h, g => by
    rcases List.suffix_cons_iff.1 h with rfl | h
    · exact List.suffix_refl _
    · by_cases hm : i ≤ N.kpm m
      · rw [N.base_ge l hm] at g
        have ih := S_mid N i hi h g
        cases m with
        | e o q => rw [N.S_e o q l hi]; exact ih
        | w x =>
          simp only [Net.kpm] at hm
          rcases Nat.lt_or_ge i (N.kp x) with c | c
          · rw [N.S_gt x l c]; exact ih
          · rw [N.S_eq x l (by omega)]; exact ih.trans (List.suffix_cons _ _)
      · rw [N.base_lt l hm] at g
        have a := g.length_le; have b := h.length_le; simp at a; omega

omit [DecidableEq P] in
/-- along the last part what one comes to again is never ahead -/
theorem Run.again (_ : Run N) {l t : List (Mv P W)} (h : t <:+ l) (g : N.base 3 l <:+ t) (d : Nat) (hd : d ≤ 3) : Lab.le d (N.lab t) (N.lab l) := by
  have b := N.base_mid 3 h g
  have c := N.S_mid 3 (by omega) h g
  have h1 := N.lab_base 3 (by omega) t
  have h2 := N.lab_base 3 (by omega) l
  have hs : ((N.S 3 t).map N.add).sum ≤ ((N.S 3 l).map N.add).sum := by
    obtain ⟨a, ha⟩ := c
    rw [← ha, List.map_append, List.sum_append]; omega
  intro j hj
  refine ⟨?_, fun x => ?_⟩
  · rcases Nat.lt_or_ge j 3 with k | k
    · rw [h1.1 j k, h2.1 j k, b]; exact Nat.le_refl _
    · have : j = 3 := by omega
      subst this
      rw [h1.2.1, h2.2.1, b]; omega
  · rw [h2.2.2 j (by omega), ← b, ← h1.2.2 j (by omega)]; exact x

omit [DecidableEq P] in
/-- along the last part each place is left but once -/
theorem Run.once (R : Run N) {n : Mv P W} {l t : List (Mv P W)} (hn : R.E (n :: l)) (h : t <:+ l) (ne : t ≠ l) (g : N.base 3 l <:+ t) : N.endp t ≠ N.endp l := by
  intro e
  have hl := (R.tl _ _ hn).1
  have s := R.suffix hl h
  by_cases ht : t = []
  · subst ht
    have g3 : N.base 3 l <:+ [] := g
    cases n with
    | w x => exact R.aw [] l x s.1 hl e (s.2.2 ne) hn (R.again h g3 _ (R.kw x l hn).2)
    | e o q =>
      obtain ⟨z, z1, z2, z3, z4, z5⟩ := R.ed [] l o q s.1 hl e (s.2.2 ne) hn
      refine R.un z (.e o q :: l) z1 hn z2 z4 z3 ?_
      rw [z4]
      exact Lab.le_trans z5 (R.again h g3 _ (R.d3 q))
  · exact R.un t l s.1 hl (.inr ht) e (s.2.2 ne) (R.again h g _ (R.d3 _))

theorem Run.ch_at (R : Run N) : ∀ {l : List (Mv P W)} {m : Mv P W} {t : List (Mv P W)}, R.E l → (m :: t) <:+ l → N.base 3 l <:+ t → N.ch l (N.endp t) = some m
  | [], m, t, _, h, _ => by have := List.suffix_nil.1 h; simp at this
  | n :: l, m, t, hl, h, g => by
    obtain ⟨el, _, xl⟩ := R.tl _ _ hl
    have lt : t.length < (n :: l).length := by have := h.length_le; simp at this ⊢; omega
    have kn : 3 ≤ N.kpm n := by
      refine Classical.byContradiction fun k => ?_
      rw [N.base_lt l k] at g
      have := g.length_le; omega
    rw [N.base_ge l kn] at g
    simp only [Net.ch, if_pos kn]
    rcases List.suffix_cons_iff.1 h with e | h
    · injection e with e1 e2
      subst e1; subst e2
      rw [if_pos xl]
    · have ne : N.endp t ≠ N.endp l := R.once hl ((List.suffix_cons m t).trans h) (fun e => by subst e; have := h.length_le; simp at this; omega) g
      rw [if_neg (fun e => ne (by rw [← e, xl]))]
      exact Run.ch_at R el h g

theorem split_at {α : Type} [DecidableEq α] : ∀ {l m z : List α}, z <:+ l → z <:+ m → l.length = m.length → l ≠ m → ∃ a b t, (a :: t) <:+ l ∧ (b :: t) <:+ m ∧ a ≠ b ∧ z <:+ t := by
  intro l m z
  induction l generalizing m with
  | nil => intro _ _ h ne; have : m = [] := List.length_eq_zero_iff.1 h.symm; subst this; exact absurd rfl ne
  | cons a l ih =>
    intro h1 h2 hl ne
    cases m with
    | nil => simp at hl
    | cons b m =>
      simp at hl
      by_cases e : l = m
      · subst e
        have hab : a ≠ b := fun e => ne (by rw [e])
        refine ⟨a, b, l, List.suffix_refl _, List.suffix_refl _, hab, ?_⟩
        rcases List.suffix_cons_iff.1 h1 with e1 | e1
        · rcases List.suffix_cons_iff.1 h2 with e2 | e2
          · rw [e1] at e2; injection e2 with e2 _; exact absurd e2 hab
          · exact e2
        · exact e1
      · have q1 : z <:+ l := by
          rcases List.suffix_cons_iff.1 h1 with e1 | e1
          · exfalso
            subst e1
            have := h2.eq_of_length (by simp [hl])
            exact ne this
          · exact e1
        have q2 : z <:+ m := by
          rcases List.suffix_cons_iff.1 h2 with e1 | e1
          · exfalso
            subst e1
            have := h1.eq_of_length (by simp [hl])
            exact ne this.symm
          · exact e1
        obtain ⟨c, d, t, h3, h4, h5, h6⟩ := ih q1 q2 hl e
        exact ⟨c, d, t, h3.trans (List.suffix_cons _ _), h4.trans (List.suffix_cons _ _), h5, h6⟩
end
end Go.Proofs.Yteklohamkmiphaa
namespace Go.Proofs.Yteklohamkmiphaa

section
variable {P W : Type} [DecidableEq P] [DecidableEq W] {N : Net P W}

def some1 {β : Type} (d : β) : List β → List β
  | [] => [d]
  | a :: l => a :: l
theorem mem_some1 {β : Type} {d x : β} {l : List β} (h : x ∈ l) : x ∈ some1 d l := by
  cases l with
  | nil => simp at h
  | cons a l => exact h
theorem head_some1 {β : Type} (d : β) (l : List β) : l.headD d ∈ some1 d l := by
  cases l <;> simp [some1]
theorem length_some1 {β : Type} (d : β) (l : List β) : (some1 d l).length = max 1 l.length := by
  cases l with
  | nil => rfl
  | cons a l => simp only [some1, List.length_cons]; omega

/-- what may be chosen at an output: where to, and, where that is single, by which way on -/
def Net.optO (N : Net P W) (ws : List W) (eds : List (P × P)) (fd : P → Option P) (o : P) : List (List (Mv P W)) :=
  (ws.filter (fun x => decide (N.kp x = 3) && decide (fd (N.win x) = some o))).map (fun x => [.e o (N.win x), .w x]) ++
  (eds.filter (fun e => decide (e.1 = o) && decide (fd e.2 = none) && ws.any (fun x => decide (N.kp x = 3) && decide (N.win x = e.2)))).map (fun e => [.e o e.2])
def Net.optQ (N : Net P W) (ws : List W) (q : P) : List (List (Mv P W)) := (ws.filter (fun x => decide (N.kp x = 3) && decide (N.win x = q))).map (fun x => [.w x])
def Net.cO (N : Net P W) (ws : List W) (eds : List (P × P)) (fd : P → Option P) (l : List (Mv P W)) (o : P) : List (Mv P W) :=
  match N.ch l o with
  | some (.e _ q) =>
    if fd q = none then [.e o q] else
    match N.ch l q with
    | some (.w x) => [.e o q, .w x]
    | _ => ((N.optO ws eds fd o).find? (fun c => decide (c.head? = some (.e o q)))).getD []
  | _ => (N.optO ws eds fd o).headD []
def Net.cQ (N : Net P W) (ws : List W) (l : List (Mv P W)) (q : P) : List (Mv P W) :=
  match N.ch l q with
  | some m => [m]
  | none => (N.optQ ws q).headD []

omit [DecidableEq W] in
theorem Net.ch_some (N : Net P W) : ∀ {l : List (Mv P W)} {p : P} {m : Mv P W}, N.ch l p = some m → ∃ t, (m :: t) <:+ l ∧ N.base 3 l <:+ t ∧ N.src m = p ∧ 3 ≤ N.kpm m
  | [], p, m, h => by simp [Net.ch] at h
  | n :: l, p, m, h => by
    simp only [Net.ch] at h
    split at h
    · rename_i k
      rw [N.base_ge l k]
      split at h
      · rename_i e
        injection h with h; subst h
        exact ⟨l, List.suffix_refl _, N.base_suffix 3 l, e, k⟩
      · obtain ⟨t, a, b, c, d⟩ := ch_some N h
        exact ⟨t, a.trans (List.suffix_cons _ _), b, c, d⟩
    · simp at h

/-- what is known of a run's edges, and of the inputs that but one leads to -/
structure Run.Edges (R : Run N) (ws : List W) (eds : List (P × P)) (outs qs : List P) (fd : P → Option P) (inp : P → Bool) : Prop where
  wm : ∀ x t, R.E (.w x :: t) → x ∈ ws
  em : ∀ o q t, R.E (.e o q :: t) → (o, q) ∈ eds
  eo : ∀ o q, (o, q) ∈ eds → o ∈ outs ∧ inp o = false
  wi : ∀ x, x ∈ ws → inp (N.win x) = true ∧ (fd (N.win x) = none → N.win x ∈ qs)
  sg : ∀ o q, fd q = some o → R.Single o q

/-- of the last part each edge leads to where one may go on -/
def Net.onward (N : Net P W) (ws : List W) (l : List (Mv P W)) : Prop := ∀ o q t, (.e o q :: t) <:+ l → N.base 3 l <:+ t → ∃ x, x ∈ ws ∧ N.kp x = 3 ∧ N.win x = q

variable {R : Run N} {ws : List W} {keys : List P} {key : W → P} {eds : List (P × P)} {outs qs : List P} {fd : P → Option P} {inp : P → Bool}

omit [DecidableEq P] [DecidableEq W] in
theorem Run.Edges.feed (D : R.Edges ws eds outs qs fd inp) {o o1 q : P} {t : List (Mv P W)} (h : R.E (.e o q :: t)) (hf : fd q = some o1) : o1 = o := by
  have := (D.sg o1 q hf).2 _ t h rfl
  injection this with a _; exact a.symm

theorem Run.Edges.cO_head (D : R.Edges ws eds outs qs fd inp) {l : List (Mv P W)} (hl : R.E l) (g : N.onward ws l) {o q : P} (h : N.ch l o = some (.e o q)) :
    (N.cO ws eds fd l o).head? = some (.e o q) ∧ N.cO ws eds fd l o ∈ some1 [] (N.optO ws eds fd o) := by
  obtain ⟨t, h1, h2, _, _⟩ := N.ch_some h
  have et := (R.suffix hl h1).1
  obtain ⟨x, x1, x2, x3⟩ := g o q t h1 h2
  unfold Net.cO
  rw [h]
  by_cases hf : fd q = none
  · simp only [if_pos hf]
    refine ⟨rfl, mem_some1 (List.mem_append_right _ (List.mem_map.2 ⟨(o, q), List.mem_filter.2 ⟨D.em o q t et, ?_⟩, rfl⟩))⟩
    simp only [hf, decide_true, Bool.true_and, List.any_eq_true]
    exact ⟨x, x1, by simp [x2, x3]⟩
  · have ho : fd q = some o := by
      cases hc : fd q with
      | none => exact absurd hc hf
      | some o1 => rw [D.feed et hc]
    simp only [if_neg hf]
    have mem : ∀ y, y ∈ ws → N.kp y = 3 → N.win y = q → ([.e o q, .w y] : List (Mv P W)) ∈ N.optO ws eds fd o := by
      intro y y1 y2 y3
      refine List.mem_append_left _ (List.mem_map.2 ⟨y, List.mem_filter.2 ⟨y1, ?_⟩, by rw [y3]⟩)
      simp [y2, y3, ho]
    split
    · rename_i y hy
      obtain ⟨s, s1, s2, s3, s4⟩ := N.ch_some hy
      have es := (R.suffix hl s1).1
      refine ⟨rfl, mem_some1 ?_⟩
      have k3 := (R.kw y s es).2
      simp only [Net.kpm] at s4
      simp only [Net.src] at s3
      exact mem y (D.wm y s es) (by omega) s3
    · cases hc : (N.optO ws eds fd o).find? (fun c => decide (c.head? = some (.e o q))) with
      | none =>
        have := List.find?_eq_none.1 hc _ (mem x x1 x2 x3)
        simp at this
      | some c =>
        have a := List.find?_some hc
        simp at a
        exact ⟨a, mem_some1 (List.mem_of_find?_eq_some hc)⟩

theorem Run.Edges.cO_mem (D : R.Edges ws eds outs qs fd inp) {l : List (Mv P W)} (hl : R.E l) (g : N.onward ws l) (o : P) : N.cO ws eds fd l o ∈ some1 [] (N.optO ws eds fd o) := by
  cases hc : N.ch l o with
  | none => unfold Net.cO; rw [hc]; exact head_some1 _ _
  | some m =>
    cases m with
    | w x => unfold Net.cO; rw [hc]; exact head_some1 _ _
    | e o' q =>
      obtain ⟨t, _, _, h3, _⟩ := N.ch_some hc
      simp only [Net.src] at h3
      subst h3
      exact (D.cO_head hl g hc).2

omit [DecidableEq W] in
theorem Run.Edges.cQ_mem (D : R.Edges ws eds outs qs fd inp) {l : List (Mv P W)} (hl : R.E l) {q : P} (hq : inp q = true) : N.cQ ws l q ∈ some1 [] (N.optQ ws q) := by
  unfold Net.cQ
  cases hc : N.ch l q with
  | none => exact head_some1 _ _
  | some m =>
    obtain ⟨t, h1, _, h3, h4⟩ := N.ch_some hc
    have et := (R.suffix hl h1).1
    cases m with
    | e o q' =>
      simp only [Net.src] at h3
      subst h3
      have := (D.eo _ _ (D.em _ _ _ et)).2
      rw [this] at hq; simp at hq
    | w x =>
      simp only [Net.src] at h3
      simp only [Net.kpm] at h4
      refine mem_some1 (List.mem_map.2 ⟨x, List.mem_filter.2 ⟨D.wm x t et, ?_⟩, rfl⟩)
      have := (R.kw x t et).2
      simp [show N.kp x = 3 by omega, h3]

/-- the second bound's factors -/
def Net.fY (N : Net P W) (ws : List W) (key : W → P) (keys : List P) (eds : List (P × P)) (fd : P → Option P) (outs qs : List P) : List ((List (Mv P W) → List (Mv P W)) × List (List (Mv P W))) :=
  (N.root, N.rootO ws) :: (keys.flatMap (fun k => [(N.sig key 1 k, N.sigO ws key 1 k), (N.sig key 2 k, N.sigO ws key 2 k)]) ++ (outs.map (fun o => ((fun l => N.cO ws eds fd l o), some1 [] (N.optO ws eds fd o))) ++ qs.map (fun q => ((fun l => N.cQ ws l q), some1 [] (N.optQ ws q)))))

theorem Run.Edges.boundY (K : R.Ways ws keys key) (D : R.Edges ws eds outs qs fd inp) (hq : ∀ q ∈ qs, inp q = true) (n : Nat) (L : List (List (Mv P W))) (nd : L.Nodup) (h : ∀ l ∈ L, R.E l ∧ N.onward ws l ∧ l.length = n) :
    L.length ≤ prodL ((N.fY ws key keys eds fd outs qs).map fun f => f.2.length) := by
  refine count_prod _ L nd (fun l hl f hf => ?_) fun l hl m hm e => ?_
  · obtain ⟨el, gl, _⟩ := h l hl
    rcases List.mem_cons.1 hf with rfl | hf
    · exact K.root_mem el
    · rcases List.mem_append.1 hf with hf | hf
      · obtain ⟨k, _, hf⟩ := List.mem_flatMap.1 hf
        simp only [List.mem_cons, List.not_mem_nil, or_false] at hf
        rcases hf with rfl | rfl
        · exact K.sig_mem (by omega) k el
        · exact K.sig_mem (by omega) k el
      · rcases List.mem_append.1 hf with hf | hf
        · obtain ⟨o, _, rfl⟩ := List.mem_map.1 hf
          exact D.cO_mem el gl o
        · obtain ⟨q, q1, rfl⟩ := List.mem_map.1 hf
          exact D.cQ_mem el (hq q q1)
  · obtain ⟨el, gl, nl⟩ := h l hl
    obtain ⟨em, gm, nm⟩ := h m hm
    have r := root_eq (e _ List.mem_cons_self)
    have s : ∀ j, 1 ≤ j → j < 3 → ∀ x, x ∈ N.S j l ↔ x ∈ N.S j m := by
      intro j j1 j3
      refine K.sig_eq (by omega) el em fun k hk => ?_
      have g : ∀ f, f ∈ [(N.sig key 1 k, N.sigO ws key 1 k), (N.sig key 2 k, N.sigO ws key 2 k)] → f.1 l = f.1 m := fun f hf => e f (List.mem_cons_of_mem _ (List.mem_append_left _ (List.mem_flatMap.2 ⟨k, hk, hf⟩)))
      have : j = 1 ∨ j = 2 := by omega
      rcases this with rfl | rfl
      · exact g (N.sig key 1 k, N.sigO ws key 1 k) (by simp)
      · exact g (N.sig key 2 k, N.sigO ws key 2 k) (by simp)
    have b := R.same_base el em r 3 (by omega) (by omega) s
    have eO : ∀ o, o ∈ outs → N.cO ws eds fd l o = N.cO ws eds fd m o := fun o ho => e ((fun l => N.cO ws eds fd l o), some1 [] (N.optO ws eds fd o)) (List.mem_cons_of_mem _ (List.mem_append_right _ (List.mem_append_left _ (List.mem_map.2 ⟨o, ho, rfl⟩))))
    have eQ : ∀ q, q ∈ qs → N.cQ ws l q = N.cQ ws m q := fun q h => e ((fun l => N.cQ ws l q), some1 [] (N.optQ ws q)) (List.mem_cons_of_mem _ (List.mem_append_right _ (List.mem_append_right _ (List.mem_map.2 ⟨q, h, rfl⟩))))
    refine Classical.byContradiction fun ne => ?_
    obtain ⟨a, c, t, h1, h2, h3, h4⟩ := split_at (z := N.base 3 l) (N.base_suffix 3 l) (b ▸ N.base_suffix 3 m) (nl.trans nm.symm) ne
    have h4' : N.base 3 m <:+ t := b ▸ h4
    have ca := R.ch_at el h1 h4
    have cc := R.ch_at em h2 h4'
    have ea := (R.suffix el h1).1
    have ec := (R.suffix em h2).1
    have sa := (R.tl _ _ ea).2.2
    have sc := (R.tl _ _ ec).2.2
    cases a with
    | e o q =>
      have mo := D.eo _ _ (D.em _ _ _ ea)
      simp only [Net.src] at sa
      subst sa
      cases c with
      | e o' q' =>
        simp only [Net.src] at sc
        subst sc
        have p1 := (D.cO_head el gl ca).1
        have p2 := (D.cO_head em gm cc).1
        rw [eO _ mo.1, p2] at p1
        exact h3 (Option.some.inj p1).symm
      | w x =>
        simp only [Net.src] at sc
        have := (D.wi x (D.wm x t ec)).1
        rw [sc, mo.2] at this; simp at this
    | w x =>
      have mx := D.wi x (D.wm x t ea)
      simp only [Net.src] at sa
      cases c with
      | e o q =>
        simp only [Net.src] at sc
        have := (D.eo _ _ (D.em _ _ _ ec)).2
        rw [sc, ← sa, mx.1] at this; simp at this
      | w y =>
        rw [← sa] at ca cc
        cases hf : fd (N.win x) with
        | none =>
          have p := eQ _ (mx.2 hf)
          unfold Net.cQ at p
          rw [ca, cc] at p
          simp only [List.cons.injEq, and_true] at p
          exact h3 p
        | some o =>
          have sg := D.sg o _ hf
          have et := (R.tl _ _ ea).1
          cases t with
          | nil => exact sg.1 (by rw [sa]; rfl)
          | cons n t1 =>
            have en := sg.2 n t1 et (by rw [← sa])
            subst en
            have z1 : N.base 3 l <:+ t1 := by
              rcases List.suffix_cons_iff.1 h4 with k | k
              · exfalso
                have i := N.base_base 3 3 (Nat.le_refl _) l
                rw [k, N.base_e o _ t1 (by omega)] at i
                have := (N.base_suffix 3 t1).length_le
                rw [i] at this; simp at this; omega
              · exact k
            have z2 : N.base 3 m <:+ t1 := b ▸ z1
            have ca1 := R.ch_at el ((List.suffix_cons _ _).trans h1) z1
            have cc1 := R.ch_at em ((List.suffix_cons _ _).trans h2) z2
            have so := (R.tl _ _ et).2.2
            simp only [Net.src] at so
            rw [← so] at ca1 cc1
            have p := eO o (D.eo _ _ (D.em _ _ _ et)).1
            unfold Net.cO at p
            simp only [ca1, cc1, hf, ca, cc] at p
            simp only [reduceCtorEq, if_false, List.cons.injEq, and_true, true_and] at p
            exact h3 p
end
end Go.Proofs.Yteklohamkmiphaa
namespace Go.Proofs.Yteklohamkmiphaa

/-- two hundred times the logarithm, at least -/
def lg (n : Nat) : Nat := match n with
  | 0 => 0 | 1 => 0 | 2 => 200 | 3 => 317 | 4 => 400 | 5 => 465 | 6 => 517 | 7 => 562 | n + 8 => 600 + 36 * n

theorem pw {a b c n : Nat} (e : n = b + c) (h : a ≤ 2 ^ b * 2 ^ c) : a ≤ 2 ^ n := by rw [e, Nat.pow_add]; exact h
theorem pw3 {a b c d n : Nat} (e : n = b + c + d) (h : a ≤ 2 ^ b * 2 ^ c * 2 ^ d) : a ≤ 2 ^ n := by rw [e, Nat.pow_add, Nat.pow_add]; exact h

theorem pow_step (n : Nat) (h : 8 ≤ n) : (n + 1) ^ 200 ≤ 2 ^ 36 * n ^ 200 := by
  have e : (9 : Nat) ^ 50 ≤ 2 ^ 9 * 8 ^ 50 := by decide
  have a : (8 * (n + 1)) ^ 50 ≤ (9 * n) ^ 50 := Nat.pow_le_pow_left (by omega) _
  rw [Nat.mul_pow, Nat.mul_pow] at a
  have b : 8 ^ 50 * (n + 1) ^ 50 ≤ 8 ^ 50 * (2 ^ 9 * n ^ 50) := by
    refine Nat.le_trans a ?_
    rw [← Nat.mul_assoc, Nat.mul_comm (8 ^ 50)]
    exact Nat.mul_le_mul_right _ e
  have c : (n + 1) ^ 50 ≤ 2 ^ 9 * n ^ 50 := Nat.le_of_mul_le_mul_left b (by decide)
  have d := Nat.pow_le_pow_left c 4
  rw [Nat.mul_pow, ← Nat.pow_mul, ← Nat.pow_mul, ← Nat.pow_mul] at d
  exact d

theorem lg_up : ∀ n k, k = 600 + 36 * n → (n + 8) ^ 200 ≤ 2 ^ k
  | 0, _, h => pw3 (b := 200) (c := 200) (d := 200) (by omega) (by decide)
  | n + 1, k, h => by
    have a := pow_step (n + 8) (by omega)
    have b := Nat.mul_le_mul_left (2 ^ 36) (lg_up n _ rfl)
    rw [← Nat.pow_add] at b
    have : 36 + (600 + 36 * n) = k := by omega
    rw [this] at b
    have e : n + 1 + 8 = n + 8 + 1 := by omega
    rw [e]
    exact Nat.le_trans a b

theorem lg1 : lg 1 = 0 := rfl
theorem lg_8 (n : Nat) (h : 8 ≤ n) : lg n = 600 + 36 * (n - 8) := by
  obtain ⟨m, rfl⟩ : ∃ m, n = m + 8 := ⟨n - 8, by omega⟩
  simp [lg]

/-- few, or a line -/
theorem lg_cases (n : Nat) : (n = 0 ∧ lg n = 0) ∨ (n = 1 ∧ lg n = 0) ∨ (n = 2 ∧ lg n = 200) ∨ (n = 3 ∧ lg n = 317) ∨ (n = 4 ∧ lg n = 400) ∨ (n = 5 ∧ lg n = 465) ∨ (n = 6 ∧ lg n = 517) ∨ (n = 7 ∧ lg n = 562) ∨ (8 ≤ n ∧ lg n = 600 + 36 * (n - 8)) := by
  by_cases h : 8 ≤ n
  · have := lg_8 n h; omega
  · have : n = 0 ∨ n = 1 ∨ n = 2 ∨ n = 3 ∨ n = 4 ∨ n = 5 ∨ n = 6 ∨ n = 7 := by omega
    rcases this with rfl | rfl | rfl | rfl | rfl | rfl | rfl | rfl <;> simp [lg]

theorem lg_ge (n : Nat) (h : 1 ≤ n) : n ^ 200 ≤ 2 ^ lg n := by
  rcases lg_cases n with ⟨e, g⟩ | ⟨e, g⟩ | ⟨e, g⟩ | ⟨e, g⟩ | ⟨e, g⟩ | ⟨e, g⟩ | ⟨e, g⟩ | ⟨e, g⟩ | ⟨e, g⟩
  · omega
  · subst e; rw [Nat.one_pow]; exact Nat.one_le_two_pow
  · rw [e] at g ⊢; rw [g]; exact Nat.le_refl _
  · rw [e] at g ⊢; exact pw (b := 200) (c := 117) g (by decide)
  · rw [e] at g ⊢; exact pw (b := 200) (c := 200) g (by decide)
  · rw [e] at g ⊢; exact pw3 (b := 200) (c := 200) (d := 65) g (by decide)
  · rw [e] at g ⊢; exact pw3 (b := 200) (c := 200) (d := 117) g (by decide)
  · rw [e] at g ⊢; exact pw3 (b := 200) (c := 200) (d := 162) g (by decide)
  · obtain ⟨m, rfl⟩ : ∃ m, n = m + 8 := ⟨n - 8, by omega⟩
    rw [g]; exact lg_up m _ (by omega)

theorem lg_one (b : Nat) : 4 * lg (1 + b) ≤ 515 * b + 285 := by
  have := lg_cases (1 + b); omega

theorem lg_w (w : Nat) : 3 * lg (max 1 w) ≤ 318 * w := by
  have := lg_cases (max 1 w); omega

theorem lg_mix (b w : Nat) : lg (1 + b) + 3 * lg (max 1 (b + w)) ≤ 515 * b + 318 * w + 9 := by
  have h1 := lg_cases (1 + b)
  have h2 := lg_cases (max 1 (b + w))
  omega

theorem lg_mix4 (b w : Nat) : lg (1 + b) + 3 * lg (max 1 (b + w)) + lg (max 1 (b + w)) ≤ 515 * b + 318 * w + 469 := by
  have h1 := lg_cases (1 + b)
  have h2 := lg_cases (max 1 (b + w))
  omega

/-- where single inputs and others are fed without ways on -/
theorem lg_dead (a m : Nat) : 4 * lg (1 + a + m) ≤ 1109 + 579 * (a - 1) + 262 * m := by
  have h1 := lg_cases (1 + a + m)
  omega
end Go.Proofs.Yteklohamkmiphaa
namespace Go.Proofs.Yteklohamkmiphaa

section sums
variable {α β : Type}
def sumOn (f : α → Nat) (l : List α) : Nat := (l.map f).sum
theorem sumOn_nil (f : α → Nat) : sumOn f [] = 0 := rfl
theorem sumOn_cons (f : α → Nat) (a : α) (l : List α) : sumOn f (a :: l) = f a + sumOn f l := by simp [sumOn]
theorem sumOn_append (f : α → Nat) (a b : List α) : sumOn f (a ++ b) = sumOn f a + sumOn f b := by simp [sumOn]
theorem sumOn_add (f g : α → Nat) (l : List α) : sumOn (fun a => f a + g a) l = sumOn f l + sumOn g l := by
  induction l with
  | nil => rfl
  | cons a l ih => simp only [sumOn_cons, ih]; omega
theorem sumOn_mul (c : Nat) (f : α → Nat) (l : List α) : sumOn (fun a => c * f a) l = c * sumOn f l := by
  induction l with
  | nil => rfl
  | cons a l ih => simp only [sumOn_cons, ih, Nat.mul_add]
theorem sumOn_le {f g : α → Nat} {l : List α} (h : ∀ a ∈ l, f a ≤ g a) : sumOn f l ≤ sumOn g l := by
  induction l with
  | nil => exact Nat.le_refl _
  | cons a l ih =>
    simp only [sumOn_cons]
    exact Nat.add_le_add (h a List.mem_cons_self) (ih fun x hx => h x (List.mem_cons_of_mem _ hx))
/-- with one that is given more -/
theorem sumOn_one {f g : α → Nat} {l : List α} (h : ∀ a ∈ l, f a ≤ g a) {o : α} (ho : o ∈ l) {x c : Nat} (hx : f o + x ≤ g o + c) : sumOn f l + x ≤ sumOn g l + c := by
  induction l with
  | nil => simp at ho
  | cons a l ih =>
    simp only [sumOn_cons]
    rcases List.mem_cons.1 ho with rfl | ho
    · have := sumOn_le (fun x hx => h x (List.mem_cons_of_mem _ hx)); omega
    · have := ih (fun x hx => h x (List.mem_cons_of_mem _ hx)) ho
      have := h a List.mem_cons_self
      omega

variable [DecidableEq β]
theorem sumOn_filter (p : α → Bool) (g : α → β) : ∀ (keys : List β) (L : List α), keys.Nodup → sumOn (fun k => (L.filter (fun x => p x && decide (g x = k))).length) keys ≤ (L.filter p).length
  | [], L, _ => by simp [sumOn]
  | k :: keys, L, nd => by
    have nd := List.nodup_cons.1 nd
    have ih := sumOn_filter (fun x => p x && ! decide (g x = k)) g keys L nd.2
    have e : sumOn (fun k' => (L.filter (fun x => (p x && ! decide (g x = k)) && decide (g x = k'))).length) keys = sumOn (fun k' => (L.filter (fun x => p x && decide (g x = k'))).length) keys := by
      unfold sumOn
      congr 1
      refine List.map_congr_left fun k' hk => ?_
      congr 1
      refine List.filter_congr fun x _ => ?_
      by_cases h : g x = k'
      · have : ¬ g x = k := fun e => nd.1 (by rw [← e, h]; exact hk)
        simp [h]; intro _ e; exact this (by rw [h, e])
      · simp [h]
    rw [e] at ih
    rw [sumOn_cons]
    have h1 := List.length_eq_countP_add_countP (l := L.filter p) (fun x => decide (g x = k))
    rw [List.countP_eq_length_filter, List.countP_eq_length_filter, List.filter_filter, List.filter_filter] at h1
    have e1 : (L.filter (fun x => decide (g x = k) && p x)).length = (L.filter (fun x => p x && decide (g x = k))).length := by
      congr 1; exact List.filter_congr fun x _ => Bool.and_comm _ _
    have e2 : (L.filter (fun x => decide (¬ decide (g x = k) = true) && p x)).length = (L.filter (fun x => p x && ! decide (g x = k))).length := by
      congr 1; refine List.filter_congr fun x _ => ?_; by_cases h : g x = k <;> simp [h]
    rw [e1, e2] at h1
    omega

theorem filter_sumOn (p : α → Bool) (g : α → β) (keys : List β) : ∀ L : List α, (∀ x ∈ L, p x = true → g x ∈ keys) → (L.filter p).length ≤ sumOn (fun k => (L.filter (fun x => p x && decide (g x = k))).length) keys
  | [], _ => by simp
  | a :: L, h => by
    have ih := filter_sumOn p g keys L (fun x hx => h x (List.mem_cons_of_mem _ hx))
    by_cases hp : p a = true
    · have hm := h a List.mem_cons_self hp
      have := sumOn_one (f := fun k => (L.filter (fun x => p x && decide (g x = k))).length) (g := fun k => ((a :: L).filter (fun x => p x && decide (g x = k))).length) (l := keys)
        (fun k _ => by rw [List.filter_cons]; split <;> simp) hm (x := 1) (c := 0) (by simp [hp])
      rw [List.filter_cons_of_pos hp, List.length_cons]
      omega
    · have := sumOn_le (f := fun k => (L.filter (fun x => p x && decide (g x = k))).length) (g := fun k => ((a :: L).filter (fun x => p x && decide (g x = k))).length) (l := keys)
        (fun k _ => by rw [List.filter_cons]; split <;> simp)
      rw [List.filter_cons_of_neg hp]
      omega

theorem filter_le_filter {p q : α → Bool} {L : List α} (h : ∀ x ∈ L, p x = true → q x = true) : (L.filter p).length ≤ (L.filter q).length := by
  rw [← List.countP_eq_length_filter, ← List.countP_eq_length_filter]
  exact List.countP_mono_left h
theorem filter_or {p q r : α → Bool} {L : List α} (h : ∀ x ∈ L, ¬ (p x = true ∧ q x = true)) (g : ∀ x ∈ L, p x = true ∨ q x = true → r x = true) : (L.filter p).length + (L.filter q).length ≤ (L.filter r).length := by
  induction L with
  | nil => simp
  | cons a L ih =>
    have := ih (fun x hx => h x (List.mem_cons_of_mem _ hx)) (fun x hx => g x (List.mem_cons_of_mem _ hx))
    have h1 := h a List.mem_cons_self
    have g1 := g a List.mem_cons_self
    simp only [List.filter_cons]
    cases hp : p a <;> cases hq : q a <;> cases hr : r a <;> simp [hp, hq, hr] at h1 g1 ⊢ <;> omega
end sums

theorem prodL_lg : ∀ l : List Nat, (∀ x ∈ l, 1 ≤ x) → prodL l ^ 200 ≤ 2 ^ sumOn lg l
  | [], _ => by simp [prodL, sumOn]
  | a :: l, h => by
    have ih := prodL_lg l (fun x hx => h x (List.mem_cons_of_mem _ hx))
    rw [prodL, Nat.mul_pow, sumOn_cons, Nat.pow_add]
    exact Nat.mul_le_mul (lg_ge a (h a List.mem_cons_self)) ih

section
variable {P W : Type} [DecidableEq P] {N : Net P W}

/-- a graph's lists, and what they come to -/
structure Cost (N : Net P W) (ws : List W) (eds : List (P × P)) (outs qs : List P) (fd : P → Option P) (inp : P → Bool) (nodes : Nat) : Prop where
  no : outs.Nodup
  nq : qs.Nodup
  oi : ∀ o, o ∈ outs → inp o = false
  qi : ∀ q, q ∈ qs → inp q = true
  eo : ∀ e, e ∈ eds → e.1 ∈ outs
  en : ∀ e, e ∈ eds → fd e.2 = none → e.2 ∈ qs
  fs : ∀ q o, fd q = some o → (o, q) ∈ eds ∧ inp o = false
  fm : ∀ q, q ∈ qs → fd q = none ∧ (q = N.start ∨ 2 ≤ (eds.filter (fun e => decide (e.2 = q))).length)
  wi : ∀ x, x ∈ ws → inp (N.win x) = true ∧ (fd (N.win x) = none → N.win x ∈ qs)
  cost : ws.length + eds.length + nodes ≤ 60
  port : (eds.filter (fun e => ! decide (fd e.2 = none))).length + qs.length ≤ 8 * nodes

def keyOf (N : Net P W) (fd : P → Option P) (x : W) : P := (fd (N.win x)).getD (N.win x)
def bOf (N : Net P W) (ws : List W) (fd : P → Option P) (i : Nat) (k : P) : Nat := (ws.filter (fun x => decide (N.kp x = i) && decide (keyOf N fd x = k))).length
def has3 (N : Net P W) (ws : List W) (q : P) : Bool := ws.any (fun x => decide (N.kp x = 3) && decide (N.win x = q))
def d1Of (eds : List (P × P)) (fd : P → Option P) (o : P) : Nat := (eds.filter (fun e => ! decide (fd e.2 = none) && decide (e.1 = o))).length
def wOf (N : Net P W) (ws : List W) (eds : List (P × P)) (fd : P → Option P) (o : P) : Nat := (eds.filter (fun e => (decide (fd e.2 = none) && has3 N ws e.2) && decide (e.1 = o))).length
def mOf (N : Net P W) (ws : List W) (eds : List (P × P)) (fd : P → Option P) (o : P) : Nat := (eds.filter (fun e => (decide (fd e.2 = none) && ! has3 N ws e.2) && decide (e.1 = o))).length
def eOf (eds : List (P × P)) (q : P) : Nat := (eds.filter (fun e => decide (e.2 = q))).length

variable {ws : List W} {eds : List (P × P)} {outs qs : List P} {fd : P → Option P} {inp : P → Bool} {nodes : Nat}

theorem Cost.key_o (C : Cost N ws eds outs qs fd inp nodes) {o : P} (ho : o ∈ outs) {x : W} (hx : x ∈ ws) : keyOf N fd x = o ↔ fd (N.win x) = some o := by
  unfold keyOf
  cases hf : fd (N.win x) with
  | none =>
    simp only [Option.getD_none, reduceCtorEq, iff_false]
    intro e
    have a := (C.wi x hx).1
    rw [e, C.oi o ho] at a; simp at a
  | some o1 => simp
theorem Cost.key_q (C : Cost N ws eds outs qs fd inp nodes) {q : P} (hq : q ∈ qs) {x : W} (_hx : x ∈ ws) : keyOf N fd x = q ↔ N.win x = q := by
  unfold keyOf
  cases hf : fd (N.win x) with
  | none => simp
  | some o =>
    simp only [Option.getD_some]
    constructor
    · intro e
      have a := (C.fs _ _ hf).2
      rw [e, C.qi q hq] at a; simp at a
    · intro e
      rw [e, (C.fm q hq).1] at hf; simp at hf

theorem Cost.optO_len (C : Cost N ws eds outs qs fd inp nodes) {o : P} (ho : o ∈ outs) : (N.optO ws eds fd o).length = bOf N ws fd 3 o + wOf N ws eds fd o := by
  unfold Net.optO bOf wOf
  rw [List.length_append, List.length_map, List.length_map]
  congr 1
  · congr 1
    refine List.filter_congr fun x hx => ?_
    have := C.key_o ho hx
    by_cases h : fd (N.win x) = some o
    · simp [h, this.2 h]
    · have h2 : ¬ keyOf N fd x = o := fun e => h (this.1 e)
      simp [h, h2]
  · congr 1
    refine List.filter_congr fun e _ => ?_
    unfold has3
    exact (show ∀ a b c : Bool, (a && b && c) = ((b && c) && a) by decide) _ _ _

theorem Cost.optQ_len (C : Cost N ws eds outs qs fd inp nodes) {q : P} (hq : q ∈ qs) : (N.optQ ws q).length = bOf N ws fd 3 q := by
  unfold Net.optQ bOf
  rw [List.length_map]
  congr 1
  refine List.filter_congr fun x hx => ?_
  have := C.key_q hq hx
  by_cases h : N.win x = q
  · simp [h, this.2 h]
  · have h2 : ¬ keyOf N fd x = q := fun e => h (this.1 e)
    simp [h, h2]

theorem Cost.has_b (C : Cost N ws eds outs qs fd inp nodes) {q : P} (hq : q ∈ qs) (h : has3 N ws q = true) : 1 ≤ bOf N ws fd 3 q := by
  unfold has3 at h
  obtain ⟨x, x1, x2⟩ := List.any_eq_true.1 h
  simp at x2
  unfold bOf
  refine List.length_pos_iff.2 (List.ne_nil_of_mem (a := x) (List.mem_filter.2 ⟨x1, ?_⟩))
  simp [x2.1, (C.key_q hq x1).2 x2.2]

theorem Cost.b_zero (C : Cost N ws eds outs qs fd inp nodes) {o : P} (ho : o ∈ outs) (h : d1Of eds fd o = 0) (i : Nat) : bOf N ws fd i o = 0 := by
  unfold bOf
  rw [List.length_eq_zero_iff, List.filter_eq_nil_iff]
  intro x hx e
  simp at e
  have hf := (C.key_o ho hx).1 e.2
  have he := (C.fs _ _ hf).1
  unfold d1Of at h
  rw [List.length_eq_zero_iff, List.filter_eq_nil_iff] at h
  exact h _ he (by simp [hf])

def gO (N : Net P W) (ws : List W) (eds : List (P × P)) (fd : P → Option P) (o : P) : Nat :=
  4 * lg (1 + bOf N ws fd 1 o) + 4 * lg (1 + bOf N ws fd 2 o) + (lg (1 + bOf N ws fd 3 o) + 3 * lg (max 1 (bOf N ws fd 3 o + wOf N ws eds fd o)))
def gQ (N : Net P W) (ws : List W) (fd : P → Option P) (q : P) : Nat :=
  4 * lg (1 + bOf N ws fd 1 q) + 4 * lg (1 + bOf N ws fd 2 q) + (lg (1 + bOf N ws fd 3 q) + 3 * lg (max 1 (bOf N ws fd 3 q)))
def hO (N : Net P W) (ws : List W) (eds : List (P × P)) (fd : P → Option P) (o : P) : Nat :=
  515 * bOf N ws fd 1 o + 515 * bOf N ws fd 2 o + 515 * bOf N ws fd 3 o + 318 * wOf N ws eds fd o + 262 * mOf N ws eds fd o + 579 * d1Of eds fd o

theorem Cost.out_le (C : Cost N ws eds outs qs fd inp nodes) {o : P} (ho : o ∈ outs) : gO N ws eds fd o ≤ hO N ws eds fd o := by
  unfold gO hO
  have a1 := lg_one (bOf N ws fd 1 o)
  have a2 := lg_one (bOf N ws fd 2 o)
  have a3 := lg_mix (bOf N ws fd 3 o) (wOf N ws eds fd o)
  by_cases h : d1Of eds fd o = 0
  · have b1 := C.b_zero ho h 1
    have b2 := C.b_zero ho h 2
    have b3 := C.b_zero ho h 3
    have a4 := lg_w (wOf N ws eds fd o)
    rw [b1, b2, b3]
    simp only [Nat.add_zero, Nat.zero_add, lg1]
    omega
  · omega
/-- an output with as many targets from which nothing leads on -/
theorem Cost.out_dead (C : Cost N ws eds outs qs fd inp nodes) {o : P} (ho : o ∈ outs) : gO N ws eds fd o + 4 * lg (1 + d1Of eds fd o + mOf N ws eds fd o) ≤ hO N ws eds fd o + 1109 := by
  unfold gO hO
  have a1 := lg_one (bOf N ws fd 1 o)
  have a2 := lg_one (bOf N ws fd 2 o)
  have a3 := lg_mix (bOf N ws fd 3 o) (wOf N ws eds fd o)
  have a5 := lg_dead (d1Of eds fd o) (mOf N ws eds fd o)
  by_cases h : d1Of eds fd o = 0
  · have b1 := C.b_zero ho h 1
    have b2 := C.b_zero ho h 2
    have b3 := C.b_zero ho h 3
    have a4 := lg_w (wOf N ws eds fd o)
    rw [b1, b2, b3]
    simp only [Nat.add_zero, Nat.zero_add, lg1]
    omega
  · omega
/-- an output with as many steps on -/
theorem Cost.out_many (C : Cost N ws eds outs qs fd inp nodes) {o : P} (ho : o ∈ outs) : gO N ws eds fd o + lg (max 1 (bOf N ws fd 3 o + wOf N ws eds fd o)) ≤ hO N ws eds fd o + 469 := by
  unfold gO hO
  have a1 := lg_one (bOf N ws fd 1 o)
  have a2 := lg_one (bOf N ws fd 2 o)
  have a3 := lg_mix4 (bOf N ws fd 3 o) (wOf N ws eds fd o)
  by_cases h : d1Of eds fd o = 0
  · have b1 := C.b_zero ho h 1
    have b2 := C.b_zero ho h 2
    have b3 := C.b_zero ho h 3
    rw [b1, b2, b3]
    rw [b3] at a3
    simp only [Nat.add_zero, Nat.zero_add, lg1] at a3 ⊢
    omega
  · omega

def hQ (N : Net P W) (ws : List W) (eds : List (P × P)) (fd : P → Option P) (q : P) : Nat :=
  515 * bOf N ws fd 1 q + 515 * bOf N ws fd 2 q + 515 * bOf N ws fd 3 q + 515 * eOf eds q + 64
def tQ (N : Net P W) (ws : List W) (eds : List (P × P)) (q : P) : Nat := if has3 N ws q = true then 318 * eOf eds q else 262 * eOf eds q

theorem Cost.in_le (C : Cost N ws eds outs qs fd inp nodes) {q : P} (hq : q ∈ qs) : gQ N ws fd q + tQ N ws eds q ≤ hQ N ws eds fd q + (if q = N.start then 506 else 0) := by
  unfold gQ tQ hQ
  have a1 := lg_one (bOf N ws fd 1 q)
  have a2 := lg_one (bOf N ws fd 2 q)
  have c1 := lg_cases (1 + bOf N ws fd 3 q)
  have c2 := lg_cases (max 1 (bOf N ws fd 3 q))
  have e2 := (C.fm q hq).2
  have e3 : eOf eds q = (eds.filter (fun e => decide (e.2 = q))).length := rfl
  by_cases h3 : has3 N ws q = true
  · have b3 := C.has_b hq h3
    rw [if_pos h3]
    by_cases hs : q = N.start
    · rw [if_pos hs]; omega
    · rw [if_neg hs]
      have := e2.resolve_left hs
      omega
  · rw [if_neg h3]
    by_cases hs : q = N.start
    · rw [if_pos hs]; omega
    · rw [if_neg hs]
      have := e2.resolve_left hs
      omega
end
end Go.Proofs.Yteklohamkmiphaa
namespace Go.Proofs.Yteklohamkmiphaa
section
variable {P W : Type} [DecidableEq P] {N : Net P W} {ws : List W} {eds : List (P × P)} {outs qs : List P} {fd : P → Option P} {inp : P → Bool} {nodes : Nat}

def k0Of (N : Net P W) (ws : List W) : Nat := (ws.filter (fun x => decide (N.kp x = 0))).length

omit [DecidableEq P] in
theorem four_le (N : Net P W) : ∀ ws : List W, (ws.filter (fun x => decide (N.kp x = 0))).length + (ws.filter (fun x => decide (N.kp x = 1))).length + (ws.filter (fun x => decide (N.kp x = 2))).length + (ws.filter (fun x => decide (N.kp x = 3))).length ≤ ws.length
  | [] => by simp
  | a :: ws => by
    have ih := four_le N ws
    simp only [List.filter_cons, List.length_cons]
    by_cases h0 : N.kp a = 0
    · simp [h0]; omega
    by_cases h1 : N.kp a = 1
    · simp [h1]; omega
    by_cases h2 : N.kp a = 2
    · simp [h2]; omega
    by_cases h3 : N.kp a = 3
    · simp [h3]; omega
    simp [h0, h1, h2, h3]; omega

theorem Cost.sum_b (C : Cost N ws eds outs qs fd inp nodes) (i : Nat) : sumOn (bOf N ws fd i) outs + sumOn (bOf N ws fd i) qs ≤ (ws.filter (fun x => decide (N.kp x = i))).length := by
  rw [← sumOn_append]
  refine sumOn_filter (fun x => decide (N.kp x = i)) (keyOf N fd) (outs ++ qs) ws ?_
  rw [List.nodup_append]
  refine ⟨C.no, C.nq, fun a ha b hb e => ?_⟩
  have h1 := C.oi a ha; have h2 := C.qi b hb
  rw [e, h2] at h1; simp at h1

theorem Cost.sum_start (C : Cost N ws eds outs qs fd inp nodes) : ∀ l : List P, l.Nodup → sumOn (fun q => if q = N.start then 506 else 0) l ≤ 506
  | [], _ => by simp [sumOn]
  | a :: l, h => by
    have h := List.nodup_cons.1 h
    rw [sumOn_cons]
    by_cases e : a = N.start
    · have : sumOn (fun q => if q = N.start then 506 else 0) l ≤ sumOn (fun _ => 0) l := sumOn_le fun b hb => by
        rw [if_neg (fun e2 => h.1 (by rw [e, ← e2]; exact hb))]; exact Nat.le_refl _
      have z : ∀ l : List P, sumOn (fun _ => 0) l = 0 := fun l => by
        induction l with
        | nil => rfl
        | cons a l ih => rw [sumOn_cons, ih]
      rw [z] at this
      rw [if_pos e]; omega
    · have := Cost.sum_start C l h.2
      rw [if_neg e]; omega

def totalG (N : Net P W) (ws : List W) (eds : List (P × P)) (outs qs : List P) (fd : P → Option P) : Nat := 4 * lg (1 + k0Of N ws) + (sumOn (gO N ws eds fd) outs + sumOn (gQ N ws fd) qs)

theorem Cost.total_with (C : Cost N ws eds outs qs fd inp nodes) {o : P} {x c : Nat} (h : o ∈ outs ∧ gO N ws eds fd o + x ≤ hO N ws eds fd o + c ∨ x ≤ c) : totalG N ws eds outs qs fd + x ≤ 31691 + c := by
  have s1 : sumOn (gO N ws eds fd) outs + x ≤ sumOn (hO N ws eds fd) outs + c := by
    rcases h with ⟨ho, h⟩ | h
    · exact sumOn_one (fun a ha => C.out_le ha) ho h
    · have := sumOn_le (fun a ha => C.out_le (o := a) ha); omega
  have s2 := sumOn_le (l := qs) (fun a ha => C.in_le (q := a) ha)
  rw [sumOn_add, sumOn_add] at s2
  have s3 := C.sum_start qs C.nq
  have b1 := C.sum_b 1
  have b2 := C.sum_b 2
  have b3 := C.sum_b 3
  have f4 := four_le N ws
  have k0 := lg_one (k0Of N ws)
  unfold k0Of at k0
  have eO : sumOn (hO N ws eds fd) outs = 515 * sumOn (bOf N ws fd 1) outs + 515 * sumOn (bOf N ws fd 2) outs + 515 * sumOn (bOf N ws fd 3) outs + 318 * sumOn (wOf N ws eds fd) outs + 262 * sumOn (mOf N ws eds fd) outs + 579 * sumOn (d1Of eds fd) outs := by
    unfold hO
    simp only [sumOn_add, sumOn_mul]
  have eQ : sumOn (hQ N ws eds fd) qs = 515 * sumOn (bOf N ws fd 1) qs + 515 * sumOn (bOf N ws fd 2) qs + 515 * sumOn (bOf N ws fd 3) qs + 515 * sumOn (eOf eds) qs + 64 * qs.length := by
    have : ∀ l : List P, sumOn (fun _ => 64) l = 64 * l.length := fun l => by
      induction l with
      | nil => rfl
      | cons a l ih => rw [sumOn_cons, ih, List.length_cons]; omega
    unfold hQ
    simp only [sumOn_add, sumOn_mul, this]
  -- edges by where they come from
  have d1 := sumOn_filter (fun e : P × P => ! decide (fd e.2 = none)) (fun e => e.1) outs eds C.no
  have d2 := sumOn_filter (fun e : P × P => decide (fd e.2 = none) && has3 N ws e.2) (fun e => e.1) outs eds C.no
  have d3 := sumOn_filter (fun e : P × P => decide (fd e.2 = none) && ! has3 N ws e.2) (fun e => e.1) outs eds C.no
  -- and by where they lead
  have t1 := filter_sumOn (fun e : P × P => decide (fd e.2 = none) && has3 N ws e.2) (fun e => e.2) qs eds (fun e he hp => C.en e he (by simp at hp; exact hp.1))
  have t2 := filter_sumOn (fun e : P × P => decide (fd e.2 = none) && ! has3 N ws e.2) (fun e => e.2) qs eds (fun e he hp => C.en e he (by simp at hp; exact hp.1))
  have t3 := sumOn_filter (fun e : P × P => decide (fd e.2 = none)) (fun e => e.2) qs eds C.nq
  have t4 : sumOn (eOf eds) qs ≤ sumOn (fun k => (eds.filter (fun e => decide (fd e.2 = none) && decide (e.2 = k))).length) qs := sumOn_le fun q hq => by
    unfold eOf
    refine filter_le_filter fun e _ he => ?_
    simp at he
    simp [he, (C.fm q hq).1]
  have t5 : 318 * sumOn (fun k => (eds.filter (fun e => (decide (fd e.2 = none) && has3 N ws e.2) && decide (e.2 = k))).length) qs + 262 * sumOn (fun k => (eds.filter (fun e => (decide (fd e.2 = none) && ! has3 N ws e.2) && decide (e.2 = k))).length) qs ≤ sumOn (tQ N ws eds) qs := by
    rw [← sumOn_mul, ← sumOn_mul, ← sumOn_add]
    refine sumOn_le fun q _ => ?_
    unfold tQ
    have m1 : (eds.filter (fun e => (decide (fd e.2 = none) && has3 N ws e.2) && decide (e.2 = q))).length ≤ eOf eds q := filter_le_filter fun e _ he => by simp at he; simp [he.2]
    have m2 : (eds.filter (fun e => (decide (fd e.2 = none) && ! has3 N ws e.2) && decide (e.2 = q))).length ≤ eOf eds q := filter_le_filter fun e _ he => by simp at he; simp [he.2]
    by_cases hh : has3 N ws q = true
    · rw [if_pos hh]
      have : (eds.filter (fun e => (decide (fd e.2 = none) && ! has3 N ws e.2) && decide (e.2 = q))).length = 0 := by
        rw [List.length_eq_zero_iff, List.filter_eq_nil_iff]; intro e _ he; simp at he; rw [he.2, hh] at he; simp at he
      omega
    · rw [if_neg hh]
      have : (eds.filter (fun e => (decide (fd e.2 = none) && has3 N ws e.2) && decide (e.2 = q))).length = 0 := by
        rw [List.length_eq_zero_iff, List.filter_eq_nil_iff]; intro e _ he; simp at he; rw [he.2] at he; exact hh he.1.2
      omega
  have p1 := filter_or (L := eds) (p := fun e : P × P => decide (fd e.2 = none)) (q := fun e => ! decide (fd e.2 = none)) (r := fun _ => true) (fun e _ he => by simp at he) (fun _ _ _ => rfl)
  have p0 : (eds.filter (fun _ => true)).length ≤ eds.length := List.length_filter_le _ _
  have cc := C.cost
  have cp := C.port
  have w1 : sumOn (wOf N ws eds fd) outs = sumOn (fun k => (eds.filter (fun e => (decide (fd e.2 = none) && has3 N ws e.2) && decide (e.1 = k))).length) outs := rfl
  have w2 : sumOn (mOf N ws eds fd) outs = sumOn (fun k => (eds.filter (fun e => (decide (fd e.2 = none) && ! has3 N ws e.2) && decide (e.1 = k))).length) outs := rfl
  have w3 : sumOn (d1Of eds fd) outs = sumOn (fun k => (eds.filter (fun e => (! decide (fd e.2 = none)) && decide (e.1 = k))).length) outs := rfl
  unfold totalG k0Of
  omega
end
end Go.Proofs.Yteklohamkmiphaa
