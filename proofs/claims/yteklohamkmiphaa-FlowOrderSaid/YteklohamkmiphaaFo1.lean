/- General words on worlds, slices and lists that all the walks of this seat use. append, once more: it stays where it was, or nothing that was there has turned. The Book's lists: what it means that each has memory of its own; what stays under writes to some blocks. Lists of structs in memory, whatever their type: their cells. The queue of least ways, plainly: runs of entries (lists of moves), what two entries with the same marks have in common. The queue of least ways, plainly: how many entries there are at most. The queue of least ways, plainly: the two bounds. Conditions: each theorem states its own. -/
import Derived.WalkKit
import Derived.Deep.QuietTactic
import Derived.BigQuiet
import Derived.Lib.Hide
import Derived.Deep.AppendLies
import Derived.Deep.Draws
import Derived.Deep.RegionHeld3
import Derived.Deep.DrawnRows
import Derived.Deep.RegionLaw
import Derived.StillTailTactics
import Derived.WalkLawsBesides
import Derived.WalkSpells
import Derived.Outline
import Derived.Handy
import Derived.Deep.DeepCutAuto
namespace Go.Proofs.Yteklohamkmiphaa
open Go.RowKit

/-! ### worlds -/
/-- w' is w with new blocks, at most -/
def Ext (w w' : World) : Prop := Below w.heap.size w w'
theorem Ext.refl (w : World) : Ext w w := Below.refl _ _
theorem Ext.size {w w' : World} (h : Ext w w') : w.heap.size ≤ w'.heap.size := Below.size h
theorem Ext.trans {a b c : World} (h : Ext a b) (k : Ext b c) : Ext a c := Below.trans h (Below.mono k h.size)
theorem Ext.drewN {a w : World} (h : Ext a w) (n : Nat) : Ext a (w.drewN n) := h.trans ⟨rfl, rfl, rfl, Nat.le_refl _, fun _ _ => rfl⟩
theorem Ext.drew {a w : World} (h : Ext a w) : Ext a w.drew := h.trans ⟨rfl, rfl, rfl, Nat.le_refl _, fun _ _ => rfl⟩
theorem Ext.alloc {a w : World} (h : Ext a w) (o : Obj) : Ext a (w.alloc o) := Below.alloc h h.size o
theorem Ext.set {a w : World} (h : Ext a w) {p : Addr} (hp : a.heap.size ≤ p.block) (u : Value) : Ext a (w.setCell p u) := Below.setCell h hp u
theorem Ext.grown {a w w' : World} {row : Option Nat} (h : Ext a w) (hg : w.grownBy w' row) (hr : ∀ k, row = some k → a.heap.size ≤ k) : Ext a w' := Below.grown h hg h.size hr
theorem Ext.cell {w w' : World} (h : Ext w w') {p : Addr} {u : Value} (hc : w.cell? p = some u) : w'.cell? p = some u :=
  (Below.cell h (World.block_lt_of_cell? w p hc)).trans hc
theorem Ext.heap {w w' : World} (h : Ext w w') {k : Nat} {o : Obj} (hc : w.heap[k]? = some o) : w'.heap[k]? = some o :=
  (Below.block h k (Array.getElem?_eq_some_iff.1 hc).1).trans hc
theorem drewN_drewN' (w : World) (a b : Nat) : (w.drewN a).drewN b = w.drewN (a + b) := World.drewN_drewN _ _ _

theorem add_add' (a : Addr) (i j : Nat) : (a.add i).add j = a.add (i + j) := by
  unfold Addr.add
  by_cases hi : i = 0 <;> by_cases hj : j = 0 <;> simp [hi, hj, Nat.add_assoc]
theorem block_add (a : Addr) (n : Nat) : (a.add n).block = a.block := by unfold Addr.add; split <;> rfl

/-! ### slices that are read -/
/-- the slice '.slice A n c' of elements of so many cells holds the cells xs -/
def Sl (w : World) (size : Nat) (A : Option Addr) (n c : Nat) (xs : List Value) : Prop :=
  xs.length = n * size ∧ n ≤ c ∧ c ≤ maxLen ∧ (A = none → c = 0) ∧ (0 < n → ∃ ad, A = some ad ∧ ∀ j u, xs[j]? = some u → w.cell? (ad.add j) = some u)

theorem Sl.ext {w w' : World} {size n c : Nat} {A : Option Addr} {xs : List Value} (h : Sl w size A n c xs) (e : Ext w w') : Sl w' size A n c xs :=
  ⟨h.1, h.2.1, h.2.2.1, h.2.2.2.1, fun hn => by obtain ⟨ad, h1, h2⟩ := h.2.2.2.2 hn; exact ⟨ad, h1, fun j u hu => e.cell (h2 j u hu)⟩⟩
theorem Sl.drewN {w : World} {size n c : Nat} {A : Option Addr} {xs : List Value} (h : Sl w size A n c xs) (k : Nat) : Sl (w.drewN k) size A n c xs := h
theorem Sl.drew {w : World} {size n c : Nat} {A : Option Addr} {xs : List Value} (h : Sl w size A n c xs) : Sl w.drew size A n c xs := h
theorem Sl.nil (w : World) (size : Nat) : Sl w size none 0 0 [] := ⟨by simp, Nat.le_refl _, Nat.zero_le _, fun _ => rfl, fun h => absurd h (by omega)⟩
theorem Sl.le {w : World} {size n c : Nat} {A : Option Addr} {xs : List Value} (h : Sl w size A n c xs) : n ≤ 9223372036854775807 := by
  have := h.2.1; have := h.2.2.1; unfold maxLen at *; omega
theorem Sl.cap {w : World} {size n c : Nat} {A : Option Addr} {xs : List Value} (h : Sl w size A n c xs) : n ≤ c ∧ c ≤ 9223372036854775807 := by
  have := h.2.1; have := h.2.2.1; unfold maxLen at *; omega
/-- 's[:k]' -/
theorem Sl.take {w : World} {size n c k : Nat} {A : Option Addr} {xs : List Value} (h : Sl w size A n c xs) (hk : k ≤ n) : Sl w size A k c (xs.take (k * size)) := by
  obtain ⟨h1, h2, h3, h4, h5⟩ := h
  refine ⟨?_, by omega, h3, h4, fun hn => ?_⟩
  · rw [List.length_take, h1]; exact Nat.min_eq_left (Nat.mul_le_mul_right _ hk)
  · obtain ⟨ad, e, hc⟩ := h5 (by omega)
    refine ⟨ad, e, fun j u hu => hc j u ?_⟩
    rw [List.getElem?_take] at hu
    split at hu
    · exact hu
    · cases hu
/-- 's[k:]' -/
theorem Sl.drop {w : World} {size n c k : Nat} {A : Option Addr} {xs : List Value} (h : Sl w size A n c xs) (hk : k ≤ n) :
    Sl w size (if c = k then A else A.map (·.add (k * size))) (n - k) (c - k) (xs.drop (k * size)) := by
  obtain ⟨h1, h2, h3, h4, h5⟩ := h
  refine ⟨by rw [List.length_drop, h1, Nat.sub_mul], by omega, by omega, fun hA => ?_, fun hn => ?_⟩
  · split at hA
    · omega
    · cases A with
      | none => have := h4 rfl; omega
      | some a => simp at hA
  · obtain ⟨ad, e, hc⟩ := h5 (by omega)
    subst e
    rw [if_neg (by omega)]
    refine ⟨_, rfl, fun j u hu => ?_⟩
    rw [add_add']
    exact hc _ u (by rw [← hu, List.getElem?_drop])

/-! ### slices that the call itself has made -/
/-- the slice '.slice A n c' (elements of type e, so many cells each) owns the cells xs: it has no room at all, or lies at the head of a block from 'base' on -/
def Own (w : World) (base : Nat) (e : TypeId) (size : Nat) (A : Option Addr) (n c : Nat) (xs : List Value) : Prop :=
  xs.length = n * size ∧
  ((c = 0 ∧ n = 0) ∨
   ∃ g cur, A = some ⟨g, 0, none⟩ ∧ base ≤ g ∧ w.heap[g]? = some (.cells cur e (0, 0)) ∧ n ≤ c ∧ c ≤ maxLen ∧ c * size ≤ cur.size ∧ cur.toList.take (n * size) = xs)
/-- the block that may be written through it -/
def blk : Option Addr → Nat → Option Nat
  | some a, _ + 1 => some a.block
  | _, _ => none
theorem blk_zero (A : Option Addr) : blk A 0 = none := by cases A <;> rfl

theorem Own.nil (w : World) (base : Nat) (e : TypeId) (size : Nat) : Own w base e size none 0 0 [] := ⟨by simp, .inl ⟨rfl, rfl⟩⟩
theorem Own.empty (w : World) (base : Nat) (e : TypeId) (size : Nat) (A : Option Addr) : Own w base e size A 0 0 [] := ⟨by simp, .inl ⟨rfl, rfl⟩⟩
section
variable {w w' : World} {base base' : Nat} {e : TypeId} {size : Nat} {A : Option Addr} {n c : Nat} {xs : List Value}
theorem Own.le (h : Own w base e size A n c xs) : n ≤ c ∧ c ≤ 9223372036854775807 := by
  rcases h.2 with ⟨h1, h2⟩ | ⟨g, cur, _, _, _, h1, h2, _⟩
  · omega
  · unfold maxLen at h2; omega
theorem Own.mono (h : Own w base e size A n c xs) (hb : base' ≤ base) : Own w base' e size A n c xs := by
  refine ⟨h.1, ?_⟩
  rcases h.2 with h2 | ⟨g, cur, hv, hg, r⟩
  · exact .inl h2
  · exact .inr ⟨g, cur, hv, by omega, r⟩
theorem Own.lt (h : Own w base e size A n c xs) : ∀ k, blk A c = some k → base ≤ k ∧ k < w.heap.size := by
  intro k hk
  rcases h.2 with ⟨rfl, _⟩ | ⟨g, cur, rfl, hb, hg, _⟩
  · simp [blk_zero] at hk
  · cases c with
    | zero => simp [blk] at hk
    | succ c =>
      simp [blk] at hk
      subst hk
      exact ⟨hb, (Array.getElem?_eq_some_iff.1 hg).1⟩
/-- it shares no block with what lies below its base -/
theorem Own.ne (h : Own w base e size A n c xs) {k : Nat} (hk : k < base) : blk A c ≠ some k := fun e => by have := (h.lt k e).1; omega
theorem Own.kept {row : Option Nat} (h : Own w base e size A n c xs) (hg : w.grownBy w' row) (hne : blk A c = none ∨ blk A c ≠ row) : Own w' base e size A n c xs := by
  refine ⟨h.1, ?_⟩
  rcases h.2 with hn | ⟨g, cur, rfl, hb, hgg, rest⟩
  · exact .inl hn
  · cases c with
    | zero =>
      obtain ⟨h1, _⟩ := rest
      exact .inl ⟨rfl, by omega⟩
    | succ c =>
      refine .inr ⟨g, cur, rfl, hb, ?_, rest⟩
      rw [hg.block g (Array.getElem?_eq_some_iff.1 hgg).1 (by simpa [blk] using hne)]
      exact hgg
theorem Own.ext (h : Own w base e size A n c xs) (x : Ext w w') : Own w' base e size A n c xs := by
  refine ⟨h.1, ?_⟩
  rcases h.2 with hn | ⟨g, cur, rfl, hb, hgg, rest⟩
  · exact .inl hn
  · exact .inr ⟨g, cur, rfl, hb, x.heap hgg, rest⟩
theorem Own.drewN (h : Own w base e size A n c xs) (k : Nat) : Own (w.drewN k) base e size A n c xs := h
theorem Own.drew (h : Own w base e size A n c xs) : Own w.drew base e size A n c xs := h
theorem Own.alloc (h : Own w base e size A n c xs) (o : Obj) : Own (w.alloc o) base e size A n c xs := h.ext ((Ext.refl w).alloc o)
/-- a store elsewhere -/
theorem Own.far (h : Own w base e size A n c xs) {p : Addr} (hp : blk A c ≠ some p.block) (u : Value) : Own (w.setCell p u) base e size A n c xs := by
  refine ⟨h.1, ?_⟩
  rcases h.2 with hn | ⟨g, cur, rfl, hb, hgg, rest⟩
  · exact .inl hn
  · cases c with
    | zero =>
      obtain ⟨h1, _⟩ := rest
      exact .inl ⟨rfl, by omega⟩
    | succ c =>
      refine .inr ⟨g, cur, rfl, hb, ?_, rest⟩
      rw [Below.heap_setCell _ _ _ _ (by intro e; exact hp (by simp [blk, e]))]
      exact hgg
/-- it is read as any slice -/
theorem Own.sl (h : Own w base e size A n c xs) : Sl w size A n c xs := by
  obtain ⟨h1, h2⟩ := h
  rcases h2 with ⟨rfl, rfl⟩ | ⟨g, cur, rfl, hb, hg, hnc, hcm, hcs, htake⟩
  · have : xs = [] := List.eq_nil_of_length_eq_zero (by simpa using h1)
    subst this
    exact ⟨by simp, Nat.le_refl _, Nat.zero_le _, fun _ => rfl, fun h => absurd h (by omega)⟩
  · refine ⟨h1, hnc, hcm, (fun h => nomatch h), fun _ => ⟨_, rfl, fun j u hu => ?_⟩⟩
    have hadd : (⟨g, 0, none⟩ : Addr).add j = ⟨g, j, none⟩ := by unfold Addr.add; split <;> simp_all
    rw [hadd, cell_of_row w g j cur e (0, 0) hg]
    rw [← htake, List.getElem?_take] at hu
    split at hu
    · simpa using hu
    · cases hu
end

/-- the cells of a block's head -/
theorem head_cells {w : World} {g k : Nat} {cur : Array Value} {e : TypeId} {xs : List Value} (hg : w.heap[g]? = some (.cells cur e (0, 0))) (ht : cur.toList.take k = xs) (j : Nat) (u : Value) (hu : xs[j]? = some u) : w.cell? ((⟨g, 0, none⟩ : Addr).add j) = some u := by
  have hadd : (⟨g, 0, none⟩ : Addr).add j = ⟨g, j, none⟩ := by unfold Addr.add; split <;> simp_all
  rw [hadd, cell_of_row w g j cur e (0, 0) hg]
  rw [← ht, List.getElem?_take] at hu
  split at hu
  · simpa using hu
  · cases hu
theorem Own.form {w : World} {base : Nat} {e : TypeId} {size : Nat} {A : Option Addr} {n c : Nat} {xs : List Value} (h : Own w base e size A n c xs) (hn : 0 < n) :
    ∃ g, A = some ⟨g, 0, none⟩ ∧ blk A c = some g ∧ base ≤ g ∧ g < w.heap.size ∧ (∀ j u, xs[j]? = some u → w.cell? ⟨g, j, none⟩ = some u) ∧ ∀ j, w.frozen? ⟨g, j, none⟩ = false := by
  obtain ⟨h1, h2⟩ := h
  rcases h2 with ⟨rfl, rfl⟩ | ⟨g, cur, rfl, hb, hg, hnc, hcm, hcs, htake⟩
  · omega
  · obtain ⟨c, rfl⟩ : ∃ k, c = k + 1 := ⟨c - 1, by omega⟩
    refine ⟨g, rfl, rfl, hb, (Array.getElem?_eq_some_iff.1 hg).1, fun j u hu => ?_, fun j => by simp [World.frozen?, hg]⟩
    rw [cell_of_row w g j cur e (0, 0) hg]
    rw [← htake, List.getElem?_take] at hu
    split at hu
    · simpa using hu
    · cases hu
theorem Own.put {w : World} {base : Nat} {e : TypeId} {size g n c : Nat} {xs : List Value} (h : Own w base e size (some ⟨g, 0, none⟩) n c xs) (k : Nat) (u : Value) : Own (w.setCell ⟨g, k, none⟩ u) base e size (some ⟨g, 0, none⟩) n c (xs.set k u) := by
  obtain ⟨h1, h2⟩ := h
  refine ⟨by simpa using h1, ?_⟩
  rcases h2 with h2 | ⟨g', cur, e', hb, hg, hnc, hcm, hcs, htake⟩
  · exact .inl h2
  · cases e'
    refine .inr ⟨g, cur.setIfInBounds k u, rfl, hb, ?_, hnc, hcm, by simpa using hcs, ?_⟩
    · simp [World.setCell, Array.getElem?_modify, hg]
    · rw [Array.toList_setIfInBounds, ← htake, List.take_set]

/-! ### blocks that are known whole -/
def Bk (w : World) (g : Nat) (t : TypeId) (cs : Array Value) : Prop := w.heap[g]? = some (.cells cs t (0, 0))
theorem Bk.lt {w : World} {g : Nat} {t : TypeId} {cs : Array Value} (h : Bk w g t cs) : g < w.heap.size := (Array.getElem?_eq_some_iff.1 h).1
theorem Bk.cell {w : World} {g : Nat} {t : TypeId} {cs : Array Value} (h : Bk w g t cs) (i : Nat) : w.cell? ⟨g, i, none⟩ = cs[i]? := cell_of_row w g i cs t (0, 0) h
theorem Bk.free {w : World} {g : Nat} {t : TypeId} {cs : Array Value} (h : Bk w g t cs) (i : Nat) : w.frozen? ⟨g, i, none⟩ = false := by
  unfold Bk at h
  simp [World.frozen?, h]
theorem Bk.new (w : World) (t : TypeId) (cs : Array Value) : Bk (w.alloc (.cells cs t)) w.heap.size t cs := heap_alloc_new w _
theorem Bk.at {w : World} {g : Nat} {t : TypeId} {cs : Array Value} (hg : g = w.heap.size) : Bk (w.alloc (.cells cs t)) g t cs := hg ▸ heap_alloc_new w _
theorem Bk.drewN {w : World} {g : Nat} {t : TypeId} {cs : Array Value} (h : Bk w g t cs) (n : Nat) : Bk (w.drewN n) g t cs := h
theorem Bk.drew {w : World} {g : Nat} {t : TypeId} {cs : Array Value} (h : Bk w g t cs) : Bk w.drew g t cs := h
theorem Bk.alloc {w : World} {g : Nat} {t : TypeId} {cs : Array Value} (h : Bk w g t cs) (o : Obj) : Bk (w.alloc o) g t cs := (Below.heap_alloc w o g h.lt).trans h
theorem Bk.set {w : World} {g : Nat} {t : TypeId} {cs : Array Value} (h : Bk w g t cs) (i : Nat) (u : Value) : Bk (w.setCell ⟨g, i, none⟩ u) g t (cs.setIfInBounds i u) := by
  unfold Bk at h ⊢
  simp [World.setCell, Array.getElem?_modify, h]
theorem Bk.far {w : World} {g : Nat} {t : TypeId} {cs : Array Value} (h : Bk w g t cs) {p : Addr} (hp : g ≠ p.block) (u : Value) : Bk (w.setCell p u) g t cs := (Below.heap_setCell w p u g hp).trans h
theorem Bk.ext {w w' : World} {g : Nat} {t : TypeId} {cs : Array Value} (h : Bk w g t cs) (x : Ext w w') : Bk w' g t cs := x.heap h
theorem Bk.below {w w' : World} {B g : Nat} {t : TypeId} {cs : Array Value} (h : Bk w g t cs) (hb : Below B w w') (hg : g < B) : Bk w' g t cs := (hb.block g hg).trans h
theorem Bk.grown {w w' : World} {g : Nat} {t : TypeId} {cs : Array Value} {row : Option Nat} (h : Bk w g t cs) (hb : w.grownBy w' row) (hg : row ≠ some g) : Bk w' g t cs := (hb.block g h.lt (Ne.symm hg)).trans h
/-- a struct of two cells that is stored -/
theorem Bk.set2 {w : World} {g : Nat} {t : TypeId} {a b : Value} (h : Bk w g t #[a, b]) (u v : Value) :
    ((w.setCell ⟨g, 0, none⟩ u).setCell ⟨g, 1, none⟩ v).cell? ⟨g, 0, none⟩ = some u ∧ ((w.setCell ⟨g, 0, none⟩ u).setCell ⟨g, 1, none⟩ v).cell? ⟨g, 1, none⟩ = some v := by
  have bb := (h.set 0 u).set 1 v
  exact ⟨bb.cell 0, bb.cell 1⟩
/-! ### append -/
/-- what the table of types says of a slice type t with elements e -/
structure Elem (P : Program) (t e size bytes : Nat) (z : Value) : Prop where
  under : P.underlying t = some (.slice e)
  info : (P.info? e).map (fun i => (i.zero, i.size, i.bytes)) = some (some z, size, bytes)
  zsize : z.cells.size = size
  pos : 0 < size

theorem run_append_nothing {P : Program} (w : World) {t ty e size bytes : Nat} {z : Value} (E : Elem P t e size bytes z) (A : Option Addr) (n c : Nat) (hn : n ≤ c) (B : Option Addr) (c' : Nat) :
    (Builtin.append_ #[t, t] ty #[.slice A n c, .slice B 0 c']).run P w = .ok (.slice A n c) w := by
  obtain ⟨i, hi, hz, hs, hb⟩ := info_parts E.info
  cases A <;> cases B <;> simp [Builtin.append_, run_underlying E.under, sizeOf, typeInfo, hi, Builtin.lenOf, Builtin.firstCells, hn, storeCells, loadCells, loadCellsFrom]

theorem run_append_gen {P : Program} (w : World) {t ty e size bytes : Nat} {z : Value} (E : Elem P t e size bytes z) (base : Nat)
    (A0 : Option Addr) (n c0 : Nat) (xs : List Value) (hown : Own w base e size A0 n c0 xs)
    (A : Option Addr) (m c : Nat) (news : List Value) (hr : Sl w size A m c news) (h1 : ∀ u ∈ news, u.oneCell' = true)
    (hbytes : (n + m) * bytes ≤ 140737488355328) (hb1 : 0 < bytes) (hbase : base ≤ w.heap.size) :
    ∃ A' c' w', (Builtin.append_ #[t, t] ty #[.slice A0 n c0, .slice A m c]).run P w = .ok (.slice A' (n + m) c') w' ∧ Own w' base e size A' (n + m) c' (xs ++ news) ∧ w.grownBy w' (blk A0 c0) ∧
      (blk A' c' = blk A0 c0 ∨ blk A' c' = some w.heap.size) := by
  obtain ⟨i, hi, hz, hs, hby⟩ := info_parts E.info
  have h63 : n + m ≤ maxLen := by
    have : n + m ≤ (n + m) * bytes := Nat.le_mul_of_pos_right _ hb1
    unfold maxLen; omega
  rcases Nat.eq_zero_or_pos m with hm | hm
  · subst hm
    have hnews : news = [] := List.eq_nil_of_length_eq_zero (by simpa using hr.1)
    subst hnews
    exact ⟨_, _, w, run_append_nothing w E A0 n c0 hown.le.1 A c, by simpa using hown, World.grownBy.refl w _, .inl rfl⟩
  · obtain ⟨ad, rfl, hcells⟩ := hr.2.2.2.2 hm
    rcases hown.2 with ⟨rfl, rfl⟩ | ⟨g, cur, rfl, hb, hg, hnc, hcm, hcs, htake⟩
    · have hx : xs = [] := List.eq_nil_of_length_eq_zero (by simpa using hown.1)
      subst hx
      have hge := grownCap_ge w (0 + m) 0 e
      have hcm : grownCap w (0 + m) 0 e ≤ maxLen := grownCap_le_maxLen w (0 + m) 0 e h63
      obtain ⟨kk, hk⟩ : ∃ k, grownCap w (0 + m) 0 e = k + 1 := ⟨_, (Nat.succ_pred_eq_of_pos (by omega)).symm⟩
      have hfin : Own (w.drew.alloc (.cells ((#[] : Array Value) ++ news.toArray ++ Builtin.zeroCells z.cells (grownCap w (0 + m) 0 e - (0 + m))) e)) base e size (some ⟨w.heap.size, 0, none⟩) (0 + m) (grownCap w (0 + m) 0 e) ([] ++ news) := by
        refine ⟨by simpa using hr.1, .inr ⟨w.heap.size, _, rfl, hbase, heap_alloc_new w.drew _, hge, hcm, ?_, ?_⟩⟩
        · refine Nat.le_of_eq (Eq.symm ?_)
          simp only [Array.size_append, List.size_toArray, size_zeroCells, E.zsize, hr.1, List.length_nil, Nat.zero_add, ← Nat.add_mul]
          congr 1
          simp only [Nat.zero_add] at hge
          omega
        · have hlen : ([] ++ news).length = (0 + m) * size := by simpa using hr.1
          simp only [Array.toList_append, List.append_assoc]
          rw [← List.append_assoc, ← hlen]
          exact List.take_left
      cases A0 with
      | none =>
        have hr2 := run_append_nil (P := P) w t ty e i z E.under hi hz ad m c news (by rw [hs]; exact hr.1) hcells hm (by unfold maxLen at h63; omega) (by rw [hby]; simp only [Nat.zero_add] at hbytes; omega)
        simp only [Nat.zero_add, List.nil_append, Array.empty_append] at hfin hk ⊢
        refine ⟨_, _, _, hr2, hfin, ⟨rfl, rfl, rfl, by simp, fun k hk _ => Below.heap_alloc w.drew _ k hk⟩, .inr ?_⟩
        rw [hk]; rfl
      | some b =>
        have hr2 := run_append_grow (P := P) w t ty e i z E.under hi hz b 0 0 [] (by simp) (by simp) ad m c news (by rw [hs]; exact hr.1) hcells (by omega) (by unfold maxLen at h63; omega) (by rw [hby]; exact growslice_fits (by omega) hbytes)
        refine ⟨_, _, _, hr2, hfin, ⟨rfl, rfl, rfl, by simp, fun k hk _ => Below.heap_alloc w.drew _ k hk⟩, .inr ?_⟩
        rw [hk]; rfl
    · have hlen : (xs ++ news).length = (n + m) * size := by rw [List.length_append, hown.1, hr.1, Nat.add_mul]
      by_cases hroom : n + m ≤ c0
      · have hfit : n * i.size + news.length ≤ cur.size := by rw [hr.1, hs, ← Nat.add_mul]; exact Nat.le_trans (Nat.mul_le_mul_right _ hroom) hcs
        have hr2 := run_append_room (P := P) w t ty e i E.under hi g n c0 cur hg ad m c news (by rw [hs]; exact hr.1) hcells h1 hroom hfit
        refine ⟨_, _, _, hr2, ⟨hlen, .inr ⟨g, _, rfl, hb, setRow_heap w g cur _ e _ hg, hroom, hcm, ?_, ?_⟩⟩, ⟨rfl, rfl, rfl, by simp, fun k _ hk => setRow_other w g k _ (fun e' => hk (by
          obtain ⟨c1, rfl⟩ : ∃ c1, c0 = c1 + 1 := ⟨c0 - 1, by omega⟩
          simp [blk, e']))⟩, .inl rfl⟩
        · simp only [List.size_toArray, List.length_append, List.length_take, List.length_drop, Array.length_toList]
          omega
        · rw [hs, htake, ← hlen]
          exact List.take_left
      · have holds : ∀ j u, xs[j]? = some u → w.cell? ((⟨g, 0, none⟩ : Addr).add j) = some u := head_cells hg htake
        have hr2 := run_append_grow (P := P) w t ty e i z E.under hi hz ⟨g, 0, none⟩ n c0 xs (by rw [hs]; exact hown.1) holds ad m c news (by rw [hs]; exact hr.1) hcells (by omega) (by unfold maxLen at h63; omega) (by rw [hby]; exact growslice_fits (by omega) hbytes)
        have hge := grownCap_ge w (n + m) c0 e
        have hcm : grownCap w (n + m) c0 e ≤ maxLen := grownCap_le_maxLen w (n + m) c0 e h63
        refine ⟨_, _, _, hr2, ⟨hlen, .inr ⟨w.heap.size, _, rfl, hbase, heap_alloc_new w.drew _, hge, hcm, ?_, ?_⟩⟩, ⟨rfl, rfl, rfl, by simp, fun k hk _ => Below.heap_alloc w.drew _ k hk⟩, .inr ?_⟩
        · refine Nat.le_of_eq (Eq.symm ?_)
          simp only [Array.size_append, List.size_toArray, size_zeroCells, E.zsize, hr.1, hown.1, ← Nat.add_mul]
          congr 1
          omega
        · simp only [Array.toList_append, List.append_assoc]
          rw [← List.append_assoc, ← hlen]
          exact List.take_left
        · obtain ⟨kk, hk⟩ : ∃ k, grownCap w (n + m) c0 e = k + 1 := ⟨_, (Nat.succ_pred_eq_of_pos (by omega)).symm⟩
          rw [hk]; rfl

theorem wp_append_gen {P : Program} (w : World) {o : Oper} {a : Act} {K : Act → World → Prop} {Q : Exit → Act → World → Prop} {t e size bytes : Nat} {z : Value} (E : Elem P t e size bytes z) (base : Nat) (s x : Operand)
    (ho : o.op = .call { callee := .builtin .append, args := #[s, x], argTypes := #[t, t] })
    (A0 : Option Addr) (n c0 : Nat) (xs : List Value) (hs : a.eval s = .slice A0 n c0) (hown : Own w base e size A0 n c0 xs)
    (A : Option Addr) (m c : Nat) (news : List Value) (hx : a.eval x = .slice A m c) (hr : Sl w size A m c news) (h1 : ∀ u ∈ news, u.oneCell' = true)
    (hbytes : (n + m) * bytes ≤ 140737488355328) (hb1 : 0 < bytes) (hbase : base ≤ w.heap.size)
    (h : ∀ A' c' w', Own w' base e size A' (n + m) c' (xs ++ news) → w.grownBy w' (blk A0 c0) → (blk A' c' = blk A0 c0 ∨ blk A' c' = some w.heap.size) → K (a.put o.dst (.slice A' (n + m) c')) w') : o.wp P a w K Q := by
  obtain ⟨A', c', w', hrun, h2, h3, h4⟩ := run_append_gen (P := P) (ty := o.type) w E base A0 n c0 xs hown A m c news hr h1 hbytes hb1 hbase
  unfold Oper.wp execOp
  simp only [ho, resolve, invoke, builtin, Sem.run_bind, Sem.run_pure, Result.andThen_ok, List.map_toArray, List.map_cons, List.map_nil, hs, hx, hrun]
  exact h A' c' w' h2 h3 h4

/-- append, in a plain region -/
theorem wpList_append_gen {P : Program} (w : World) {ops : Array Oper} {rest : List Oper} {o : Oper} {a : Act} {Q : Exit → Act → World → Prop} {t e size bytes : Nat} {z : Value} (E : Elem P t e size bytes z) (base : Nat) (s x : Operand)
    (ho : o.op = .call { callee := .builtin .append, args := #[s, x], argTypes := #[t, t] }) (hgd : o.guard = none)
    (A0 : Option Addr) (n c0 : Nat) (xs : List Value) (hs : a.eval s = .slice A0 n c0) (hown : Own w base e size A0 n c0 xs)
    (A : Option Addr) (m c : Nat) (news : List Value) (hx : a.eval x = .slice A m c) (hr : Sl w size A m c news) (h1 : ∀ u ∈ news, u.oneCell' = true)
    (hbytes : (n + m) * bytes ≤ 140737488355328) (hb1 : 0 < bytes) (hbase : base ≤ w.heap.size)
    (h : ∀ A' c' w', Own w' base e size A' (n + m) c' (xs ++ news) → w.grownBy w' (blk A0 c0) → (blk A' c' = blk A0 c0 ∨ blk A' c' = some w.heap.size) → wpList P ops Q rest (a.put o.dst (.slice A' (n + m) c')) w') : wpList P ops Q (o :: rest) a w :=
  wpList_plain hgd fun _ hK => wp_append_gen w E base s x ho A0 n c0 xs hs hown A m c news hx hr h1 hbytes hb1 hbase fun A' c' w' h2 h3 h4 => hK _ _ (h A' c' w' h2 h3 h4)

/-- a block just made, read as a slice of one element -/
theorem Sl.one (w : World) (cs : Array Value) (t : TypeId) (size : Nat) (hs : cs.size = size) : Sl (w.alloc (.cells cs t)) size (some ⟨w.heap.size, 0, none⟩) 1 1 cs.toList := by
  refine ⟨by simp [hs], Nat.le_refl _, by unfold maxLen; omega, (fun h => nomatch h), fun _ => ⟨_, rfl, fun j u hu => ?_⟩⟩
  have hadd : (⟨w.heap.size, 0, none⟩ : Addr).add j = ⟨w.heap.size, j, none⟩ := by unfold Addr.add; split <;> simp_all
  rw [hadd, cell_of_row _ w.heap.size j cs t (0, 0) (heap_alloc_new w _)]
  simpa using hu

/-! ### ends -/
theorem ret_bool {a b : Bool} (h : a = b) : Ending.returned (.bool a) = Ending.returned (.bool b) := by rw [h]
theorem ret_int {k : IntKind} {a b : Int} (h : a = b) : Ending.returned (.int k a) = Ending.returned (.int k b) := by rw [h]

/-! ### lists of numbers -/
def U32 (l : List Int) : Prop := ∀ x ∈ l, 0 ≤ x ∧ x ≤ 4294967295
def wds (l : List Int) : List Value := l.map (Value.int .u32)
theorem wds_one (l : List Int) : ∀ u ∈ wds l, u.oneCell' = true := by
  intro u hu
  obtain ⟨x, _, rfl⟩ := List.mem_map.1 hu
  rfl
theorem wds_append (a b : List Int) : wds a ++ wds b = wds (a ++ b) := by simp [wds]
theorem wds_take (l : List Int) (k : Nat) : (wds l).take k = wds (l.take k) := by simp [wds]
theorem Sl.wlen {w : World} {n c : Nat} {A : Option Addr} {l : List Int} (h : Sl w 1 A n c (wds l)) : l.length = n := by simpa [wds] using h.1
theorem Sl.word {w : World} {n c : Nat} {A : Option Addr} {l : List Int} (h : Sl w 1 A n c (wds l)) {k : Nat} (hk : k < n) :
    ∃ ad, A = some ad ∧ w.cell? (ad.add k) = some (.int .u32 (l.getD k 0)) ∧ ad.block < w.heap.size := by
  obtain ⟨ad, h1, h2⟩ := h.2.2.2.2 (by omega)
  have hl := h.wlen
  have hc := h2 k (.int .u32 (l.getD k 0)) ?_
  · exact ⟨ad, h1, hc, by simpa [block_add] using World.block_lt_of_cell? w _ hc⟩
  simp [wds, List.getElem?_map, List.getD_eq_getElem?_getD, List.getElem?_eq_getElem (show k < l.length by omega)]
theorem U32.getD {l : List Int} (h : U32 l) (k : Nat) : 0 ≤ l.getD k 0 ∧ l.getD k 0 ≤ 4294967295 := by
  rw [List.getD_eq_getElem?_getD]
  by_cases hk : k < l.length
  · rw [List.getElem?_eq_getElem hk]; exact h _ (List.getElem_mem hk)
  · rw [List.getElem?_eq_none (by omega)]; simp
theorem U32.at {l : List Int} (h : U32 l) (k : Nat) : 0 ≤ l[k]?.getD 0 ∧ l[k]?.getD 0 ≤ 4294967295 := by
  have := h.getD k
  rwa [List.getD_eq_getElem?_getD] at this
theorem wds_set_last (l : List Int) (K : Nat) (v : Int) (h0 : 0 < K) (h : K ≤ l.length) : (wds (l.take K)).set (K - 1) (.int .u32 v) = wds (l.take (K - 1) ++ [v]) := by
  obtain ⟨k, rfl⟩ : ∃ k, K = k + 1 := ⟨K - 1, by omega⟩
  rw [List.take_succ_eq_append_getElem (by omega)]
  simp only [wds, Nat.add_sub_cancel, List.map_append, List.map_cons, List.map_nil]
  have : (List.map (Value.int IntKind.u32) (List.take k l)).length = k := by simp; omega
  rw [List.set_append_right _ _ (by omega), this]
  simp
end Go.Proofs.Yteklohamkmiphaa
namespace Go.Proofs.Yteklohamkmiphaa
open Go.RowKit

theorem run_append_two {P : Program} (w : World) {t ty e size bytes : Nat} {z : Value} (E : Elem P t e size bytes z) (base : Nat)
    (A0 : Option Addr) (n c0 : Nat) (xs : List Value) (hown : Own w base e size A0 n c0 xs)
    (A : Option Addr) (m c : Nat) (news : List Value) (hr : Sl w size A m c news) (h1 : ∀ u ∈ news, u.oneCell' = true)
    (hbytes : (n + m) * bytes ≤ 140737488355328) (hb1 : 0 < bytes) (hbase : base ≤ w.heap.size) :
    ∃ A' c' w', (Builtin.append_ #[t, t] ty #[.slice A0 n c0, .slice A m c]).run P w = .ok (.slice A' (n + m) c') w' ∧ Own w' base e size A' (n + m) c' (xs ++ news) ∧ w.grownBy w' (blk A0 c0) ∧
      ((A' = A0 ∧ c' = c0) ∨ (blk A' c' = some w.heap.size ∧ Ext w w')) := by
  obtain ⟨i, hi, hz, hs, hby⟩ := info_parts E.info
  have h63 : n + m ≤ maxLen := by
    have : n + m ≤ (n + m) * bytes := Nat.le_mul_of_pos_right _ hb1
    unfold maxLen; omega
  rcases Nat.eq_zero_or_pos m with hm | hm
  · subst hm
    have hnews : news = [] := List.eq_nil_of_length_eq_zero (by simpa using hr.1)
    subst hnews
    exact ⟨_, _, w, run_append_nothing w E A0 n c0 hown.le.1 A c, by simpa using hown, World.grownBy.refl w _, .inl ⟨rfl, rfl⟩⟩
  · obtain ⟨ad, rfl, hcells⟩ := hr.2.2.2.2 hm
    rcases hown.2 with ⟨rfl, rfl⟩ | ⟨g, cur, rfl, hb, hg, hnc, hcm, hcs, htake⟩
    · have hx : xs = [] := List.eq_nil_of_length_eq_zero (by simpa using hown.1)
      subst hx
      have hge := grownCap_ge w (0 + m) 0 e
      have hcm : grownCap w (0 + m) 0 e ≤ maxLen := grownCap_le_maxLen w (0 + m) 0 e h63
      obtain ⟨kk, hk⟩ : ∃ k, grownCap w (0 + m) 0 e = k + 1 := ⟨_, (Nat.succ_pred_eq_of_pos (by omega)).symm⟩
      have hfin : Own (w.drew.alloc (.cells ((#[] : Array Value) ++ news.toArray ++ Builtin.zeroCells z.cells (grownCap w (0 + m) 0 e - (0 + m))) e)) base e size (some ⟨w.heap.size, 0, none⟩) (0 + m) (grownCap w (0 + m) 0 e) ([] ++ news) := by
        refine ⟨by simpa using hr.1, .inr ⟨w.heap.size, _, rfl, hbase, heap_alloc_new w.drew _, hge, hcm, ?_, ?_⟩⟩
        · refine Nat.le_of_eq (Eq.symm ?_)
          simp only [Array.size_append, List.size_toArray, size_zeroCells, E.zsize, hr.1, List.length_nil, Nat.zero_add, ← Nat.add_mul]
          congr 1
          simp only [Nat.zero_add] at hge
          omega
        · have hlen : ([] ++ news).length = (0 + m) * size := by simpa using hr.1
          simp only [Array.toList_append, List.append_assoc]
          rw [← List.append_assoc, ← hlen]
          exact List.take_left
      cases A0 with
      | none =>
        have hr2 := run_append_nil (P := P) w t ty e i z E.under hi hz ad m c news (by rw [hs]; exact hr.1) hcells hm (by unfold maxLen at h63; omega) (by rw [hby]; simp only [Nat.zero_add] at hbytes; omega)
        simp only [Nat.zero_add, List.nil_append, Array.empty_append] at hfin hk ⊢
        refine ⟨_, _, _, hr2, hfin, ⟨rfl, rfl, rfl, by simp, fun k hk _ => Below.heap_alloc w.drew _ k hk⟩, .inr ⟨?_, ((Ext.refl w).drew).alloc _⟩⟩
        rw [hk]; rfl
      | some b =>
        have hr2 := run_append_grow (P := P) w t ty e i z E.under hi hz b 0 0 [] (by simp) (by simp) ad m c news (by rw [hs]; exact hr.1) hcells (by omega) (by unfold maxLen at h63; omega) (by rw [hby]; exact growslice_fits (by omega) hbytes)
        refine ⟨_, _, _, hr2, hfin, ⟨rfl, rfl, rfl, by simp, fun k hk _ => Below.heap_alloc w.drew _ k hk⟩, .inr ⟨?_, ((Ext.refl w).drew).alloc _⟩⟩
        rw [hk]; rfl
    · have hlen : (xs ++ news).length = (n + m) * size := by rw [List.length_append, hown.1, hr.1, Nat.add_mul]
      by_cases hroom : n + m ≤ c0
      · have hfit : n * i.size + news.length ≤ cur.size := by rw [hr.1, hs, ← Nat.add_mul]; exact Nat.le_trans (Nat.mul_le_mul_right _ hroom) hcs
        have hr2 := run_append_room (P := P) w t ty e i E.under hi g n c0 cur hg ad m c news (by rw [hs]; exact hr.1) hcells h1 hroom hfit
        refine ⟨_, _, _, hr2, ⟨hlen, .inr ⟨g, _, rfl, hb, setRow_heap w g cur _ e _ hg, hroom, hcm, ?_, ?_⟩⟩, ⟨rfl, rfl, rfl, by simp, fun k _ hk => setRow_other w g k _ (fun e' => hk (by
          obtain ⟨c1, rfl⟩ : ∃ c1, c0 = c1 + 1 := ⟨c0 - 1, by omega⟩
          simp [blk, e']))⟩, .inl ⟨rfl, rfl⟩⟩
        · simp only [List.size_toArray, List.length_append, List.length_take, List.length_drop, Array.length_toList]
          omega
        · rw [hs, htake, ← hlen]
          exact List.take_left
      · have holds : ∀ j u, xs[j]? = some u → w.cell? ((⟨g, 0, none⟩ : Addr).add j) = some u := head_cells hg htake
        have hr2 := run_append_grow (P := P) w t ty e i z E.under hi hz ⟨g, 0, none⟩ n c0 xs (by rw [hs]; exact hown.1) holds ad m c news (by rw [hs]; exact hr.1) hcells (by omega) (by unfold maxLen at h63; omega) (by rw [hby]; exact growslice_fits (by omega) hbytes)
        have hge := grownCap_ge w (n + m) c0 e
        have hcm : grownCap w (n + m) c0 e ≤ maxLen := grownCap_le_maxLen w (n + m) c0 e h63
        refine ⟨_, _, _, hr2, ⟨hlen, .inr ⟨w.heap.size, _, rfl, hbase, heap_alloc_new w.drew _, hge, hcm, ?_, ?_⟩⟩, ⟨rfl, rfl, rfl, by simp, fun k hk _ => Below.heap_alloc w.drew _ k hk⟩, .inr ⟨?_, ((Ext.refl w).drew).alloc _⟩⟩
        · refine Nat.le_of_eq (Eq.symm ?_)
          simp only [Array.size_append, List.size_toArray, size_zeroCells, E.zsize, hr.1, hown.1, ← Nat.add_mul]
          congr 1
          omega
        · simp only [Array.toList_append, List.append_assoc]
          rw [← List.append_assoc, ← hlen]
          exact List.take_left
        · obtain ⟨kk, hk⟩ : ∃ k, grownCap w (n + m) c0 e = k + 1 := ⟨_, (Nat.succ_pred_eq_of_pos (by omega)).symm⟩
          rw [hk]; rfl

theorem wp_append_two {P : Program} (w : World) {o : Oper} {a : Act} {K : Act → World → Prop} {Q : Exit → Act → World → Prop} {t e size bytes : Nat} {z : Value} (E : Elem P t e size bytes z) (base : Nat) (s x : Operand)
    (ho : o.op = .call { callee := .builtin .append, args := #[s, x], argTypes := #[t, t] })
    (A0 : Option Addr) (n c0 : Nat) (xs : List Value) (hs : a.eval s = .slice A0 n c0) (hown : Own w base e size A0 n c0 xs)
    (A : Option Addr) (m c : Nat) (news : List Value) (hx : a.eval x = .slice A m c) (hr : Sl w size A m c news) (h1 : ∀ u ∈ news, u.oneCell' = true)
    (hbytes : (n + m) * bytes ≤ 140737488355328) (hb1 : 0 < bytes) (hbase : base ≤ w.heap.size)
    (h : ∀ A' c' w', Own w' base e size A' (n + m) c' (xs ++ news) → w.grownBy w' (blk A0 c0) → ((A' = A0 ∧ c' = c0) ∨ (blk A' c' = some w.heap.size ∧ Ext w w')) → K (a.put o.dst (.slice A' (n + m) c')) w') : o.wp P a w K Q := by
  obtain ⟨A', c', w', hrun, h2, h3, h4⟩ := run_append_two (P := P) (ty := o.type) w E base A0 n c0 xs hown A m c news hr h1 hbytes hb1 hbase
  unfold Oper.wp execOp
  simp only [ho, resolve, invoke, builtin, Sem.run_bind, Sem.run_pure, Result.andThen_ok, List.map_toArray, List.map_cons, List.map_nil, hs, hx, hrun]
  exact h A' c' w' h2 h3 h4

/-- append, in a plain region -/
theorem wpList_append_two {P : Program} (w : World) {ops : Array Oper} {rest : List Oper} {o : Oper} {a : Act} {Q : Exit → Act → World → Prop} {t e size bytes : Nat} {z : Value} (E : Elem P t e size bytes z) (base : Nat) (s x : Operand)
    (ho : o.op = .call { callee := .builtin .append, args := #[s, x], argTypes := #[t, t] }) (hgd : o.guard = none)
    (A0 : Option Addr) (n c0 : Nat) (xs : List Value) (hs : a.eval s = .slice A0 n c0) (hown : Own w base e size A0 n c0 xs)
    (A : Option Addr) (m c : Nat) (news : List Value) (hx : a.eval x = .slice A m c) (hr : Sl w size A m c news) (h1 : ∀ u ∈ news, u.oneCell' = true)
    (hbytes : (n + m) * bytes ≤ 140737488355328) (hb1 : 0 < bytes) (hbase : base ≤ w.heap.size)
    (h : ∀ A' c' w', Own w' base e size A' (n + m) c' (xs ++ news) → w.grownBy w' (blk A0 c0) → ((A' = A0 ∧ c' = c0) ∨ (blk A' c' = some w.heap.size ∧ Ext w w')) → wpList P ops Q rest (a.put o.dst (.slice A' (n + m) c')) w') : wpList P ops Q (o :: rest) a w :=
  wpList_plain hgd fun _ hK => wp_append_two w E base s x ho A0 n c0 xs hs hown A m c news hx hr h1 hbytes hb1 hbase fun A' c' w' h2 h3 h4 => hK _ _ (h A' c' w' h2 h3 h4)

end Go.Proofs.Yteklohamkmiphaa
namespace Go.Proofs.Yteklohamkmiphaa
open Go.RowKit

/-! ### writes to some blocks -/
/-- w' is w but for the blocks that S tells, and new ones -/
structure Upd (S : Nat → Prop) (w w' : World) : Prop where
  os : w'.os = w.os
  tape : w'.tape = w.tape
  output : w'.output = w.output
  size : w.heap.size ≤ w'.heap.size
  block : ∀ k, k < w.heap.size → ¬ S k → w'.heap[k]? = w.heap[k]?
theorem Upd.refl (S : Nat → Prop) (w : World) : Upd S w w := ⟨rfl, rfl, rfl, Nat.le_refl _, fun _ _ _ => rfl⟩
theorem Upd.ext {S : Nat → Prop} {w w' : World} (x : Ext w w') : Upd S w w' := ⟨Below.os x, Below.tape x, Below.output x, Ext.size x, fun k hk _ => Below.block x k hk⟩
theorem Upd.mono {S T : Nat → Prop} {w w' : World} (h : Upd S w w') (hs : ∀ k, k < w.heap.size → S k → T k) : Upd T w w' := ⟨h.os, h.tape, h.output, h.size, fun k hk hn => h.block k hk (fun q => hn (hs k hk q))⟩
theorem Upd.trans {S : Nat → Prop} {a b c : World} (h : Upd S a b) (k : Upd S b c) : Upd S a c :=
  ⟨k.os.trans h.os, k.tape.trans h.tape, k.output.trans h.output, Nat.le_trans h.size k.size, fun q hq hn => (k.block q (Nat.lt_of_lt_of_le hq h.size) hn).trans (h.block q hq hn)⟩
theorem Upd.setCell {S : Nat → Prop} {a w : World} (h : Upd S a w) {p : Addr} (hp : S p.block ∨ a.heap.size ≤ p.block) (u : Value) : Upd S a (w.setCell p u) := by
  refine ⟨h.os, h.tape, h.output, by simpa using h.size, fun k hk hn => ?_⟩
  rw [Below.heap_setCell _ _ _ _ (fun e => by
    rcases hp with hp | hp
    · exact hn (e ▸ hp)
    · omega)]
  exact h.block k hk hn
theorem Upd.alloc {S : Nat → Prop} {a w : World} (h : Upd S a w) (o : Obj) : Upd S a (w.alloc o) := h.trans (Upd.ext ((Ext.refl w).alloc o))
theorem Upd.grown {S : Nat → Prop} {a w w' : World} {row : Option Nat} (h : Upd S a w) (g : w.grownBy w' row) (hr : ∀ k, row = some k → S k ∨ a.heap.size ≤ k) : Upd S a w' :=
  ⟨g.os.trans h.os, g.tape.trans h.tape, g.output.trans h.output, Nat.le_trans h.size g.size, fun k hk hn => (g.block k (Nat.lt_of_lt_of_le hk h.size) (fun e => by
    rcases hr k e.symm with q | q
    · exact hn q
    · omega)).trans (h.block k hk hn)⟩
theorem cell_of_heap {w w' : World} {p : Addr} (h : w'.heap[p.block]? = w.heap[p.block]?) : w'.cell? p = w.cell? p := by unfold World.cell?; rw [h]
theorem Upd.cell {S : Nat → Prop} {w w' : World} (h : Upd S w w') {p : Addr} {u : Value} (hn : ¬ S p.block) (hc : w.cell? p = some u) : w'.cell? p = some u :=
  (cell_of_heap (h.block p.block (World.block_lt_of_cell? w p hc) hn)).trans hc
theorem Sl.upd {S : Nat → Prop} {w w' : World} {size n c : Nat} {A : Option Addr} {xs : List Value} (h : Sl w size A n c xs) (x : Upd S w w') (hn : ∀ k, blk A c = some k → ¬ S k) : Sl w' size A n c xs := by
  refine ⟨h.1, h.2.1, h.2.2.1, h.2.2.2.1, fun h0 => ?_⟩
  obtain ⟨ad, rfl, hc⟩ := h.2.2.2.2 h0
  refine ⟨ad, rfl, fun j u hu => x.cell ?_ (hc j u hu)⟩
  rw [block_add]
  refine hn ad.block ?_
  have := h.2.1
  cases c with
  | zero => omega
  | succ c => rfl
theorem Own.upd {S : Nat → Prop} {w w' : World} {B size n c : Nat} {e : TypeId} {A : Option Addr} {xs : List Value} (h : Own w B e size A n c xs) (x : Upd S w w') (hn : ∀ k, blk A c = some k → ¬ S k) : Own w' B e size A n c xs := by
  refine ⟨h.1, ?_⟩
  rcases h.2 with hz | ⟨g, cur, rfl, hb, hg, rest⟩
  · exact .inl hz
  · cases c with
    | zero =>
      obtain ⟨h1, _⟩ := rest
      exact .inl ⟨rfl, by omega⟩
    | succ c =>
      refine .inr ⟨g, cur, rfl, hb, ?_, rest⟩
      rw [x.block g (Array.getElem?_eq_some_iff.1 hg).1 (hn g rfl)]
      exact hg
/-! ### lists of lists -/
/-- a slice's header -/
structure En where
  A : Option Addr
  n : Nat
  c : Nat
def En.v (x : En) : Value := .slice x.A x.n x.c
def En.b (x : En) : Option Nat := blk x.A x.c
def En.zero : En := ⟨none, 0, 0⟩
def ensC (L : List En) : List Value := L.map En.v
theorem ensC_append (L M : List En) : ensC (L ++ M) = ensC L ++ ensC M := List.map_append
def ena (L : List En) (i : Nat) : En := L.getD i En.zero
theorem ena_append_old {L : List En} {x : En} {i : Nat} (h : i < L.length) : ena (L ++ [x]) i = ena L i := by
  unfold ena
  rw [List.getD_eq_getElem?_getD, List.getElem?_append_left h, List.getD_eq_getElem?_getD]
theorem ena_append_new (L : List En) (x : En) : ena (L ++ [x]) L.length = x := by
  unfold ena
  rw [List.getD_eq_getElem?_getD, List.getElem?_append_right (Nat.le_refl _), Nat.sub_self]
  rfl
section
variable (mk : Int → Nat → List Value) (size : Nat)
/-- so many marks -/
def marks_ (i : Int) (n : Nat) : List Value := (List.range n).flatMap (mk i)
variable {mk size}
theorem marks_zero (i : Int) : marks_ mk i 0 = [] := rfl
theorem marks_succ (i : Int) (n : Nat) : marks_ mk i (n + 1) = marks_ mk i n ++ mk i n := by
  unfold marks_
  rw [List.range_succ, List.flatMap_append, List.flatMap_singleton]
theorem marks_len (hs : ∀ i k, (mk i k).length = size) (i : Int) : ∀ n, (marks_ mk i n).length = n * size
  | 0 => by simp [marks_]
  | n + 1 => by rw [marks_succ, List.length_append, marks_len hs i n, hs, Nat.succ_mul]
end
/-- the lists, each in a block of its own that lies from B on -/
structure Lists (w : World) (B : Nat) (e : TypeId) (size : Nat) (L : List En) (f : Nat → List Value) : Prop where
  own : ∀ i, i < L.length → Own w B e size (ena L i).A (ena L i).n (ena L i).c (f i)
  apart : ∀ i j, i < L.length → j < L.length → i ≠ j → ∀ k, (ena L i).b = some k → (ena L j).b ≠ some k
/-- the blocks that the lists lie in -/
def Foot (L : List En) (k : Nat) : Prop := ∃ i, i < L.length ∧ (ena L i).b = some k
theorem Lists.foot_lt {w : World} {B : Nat} {e : TypeId} {size : Nat} {L : List En} {f : Nat → List Value} (h : Lists w B e size L f) {k : Nat} (hk : Foot L k) : B ≤ k ∧ k < w.heap.size := by
  obtain ⟨i, hi, hb⟩ := hk
  exact (h.own i hi).lt k hb
theorem Lists.upd {S : Nat → Prop} {w w' : World} {B : Nat} {e : TypeId} {size : Nat} {L : List En} {f : Nat → List Value} (h : Lists w B e size L f) (x : Upd S w w') (hn : ∀ k, Foot L k → ¬ S k) : Lists w' B e size L f :=
  ⟨fun i hi => (h.own i hi).upd x (fun k hk => hn k ⟨i, hi, hk⟩), h.apart⟩
theorem Lists.nil (w : World) (B : Nat) (e : TypeId) (size : Nat) (f : Nat → List Value) : Lists w B e size [] f := ⟨fun i hi => by simp at hi, fun i j hi => by simp at hi⟩
/-! ### the first phase: marks are written -/
structure Ph1 (mk : Int → Nat → List Value) (w wr : World) (B : Nat) (e : TypeId) (size : Nat) (L : List En) (i : Nat) (f : Nat → List Value) : Prop where
  ls : Lists wr B e size L f
  done : ∀ j, j < i → j < L.length → f j = marks_ mk j (ena L j).n
  upd : Upd (Foot L) w wr
/-- within an entry -/
structure Ph1I (mk : Int → Nat → List Value) (w wr : World) (B : Nat) (e : TypeId) (size : Nat) (L : List En) (i k : Nat) (f : Nat → List Value) : Prop where
  ph : Ph1 mk w wr B e size L i f
  part : (f i).take (k * size) = marks_ mk i k
theorem Ph1.enter {mk : Int → Nat → List Value} {w wr : World} {B : Nat} {e : TypeId} {size : Nat} {L : List En} {i : Nat} {f : Nat → List Value} (h : Ph1 mk w wr B e size L i f) : Ph1I mk w wr B e size L i 0 f := ⟨h, by rw [Nat.zero_mul]; rfl⟩
theorem Ph1I.leave {mk : Int → Nat → List Value} {w wr : World} {B : Nat} {e : TypeId} {size : Nat} {L : List En} {i : Nat} {f : Nat → List Value} (h : Ph1I mk w wr B e size L i (ena L i).n f) (hi : i < L.length) : Ph1 mk w wr B e size L (i + 1) f := by
  refine ⟨h.ph.ls, fun j hj hjl => ?_, h.ph.upd⟩
  by_cases hij : j < i
  · exact h.ph.done j hij hjl
  · have : j = i := by omega
    subst this
    have hl := (h.ph.ls.own j hi).1
    have := h.part
    rwa [← hl, List.take_length] at this
/-- a store into one of the lists -/
theorem Lists.put {w : World} {B : Nat} {e : TypeId} {size : Nat} {L : List En} {f : Nat → List Value} (h : Lists w B e size L f) {i g : Nat} (hi : i < L.length) (hA : (ena L i).A = some ⟨g, 0, none⟩) (hc : 0 < (ena L i).c) (q : Nat) (u : Value) :
    Lists (w.setCell ⟨g, q, none⟩ u) B e size L (fun j => if j = i then (f i).set q u else f j) := by
  have hb : (ena L i).b = some g := by
    unfold En.b
    rw [hA]
    generalize (ena L i).c = c at hc
    cases c with
    | zero => omega
    | succ c => rfl
  refine ⟨fun j hj => ?_, h.apart⟩
  by_cases hji : j = i
  · subst hji
    rw [if_pos rfl]
    have o := h.own j hi
    rw [hA] at o ⊢
    exact o.put q u
  · rw [if_neg hji]
    exact (h.own j hj).far (p := ⟨g, q, none⟩) (fun e => h.apart i j hi hj (Ne.symm hji) g hb e) u
/-! ### the second phase: each grows -/
structure Ph2 (mk : Int → Nat → List Value) (w1 wr : World) (B : Nat) (e T : TypeId) (size : Nat) (L : List En) (i : Nat) (G : List En) (LA : Option Addr) (lc : Nat) : Prop where
  len : G.length = i
  lst : Own wr w1.heap.size T 1 LA i lc (ensC G)
  rest : ∀ j, i ≤ j → j < L.length → Own wr B e size (ena L j).A (ena L j).n (ena L j).c (marks_ mk j (ena L j).n)
  read : ∀ j, j < i → Sl wr size (ena L j).A (ena L j).n (ena L j).c (marks_ mk j (ena L j).n)
  long : ∀ j, j < i → (ena G j).n = (ena L j).n + 8 ∧ Own wr B e size (ena G j).A (ena G j).n (ena G j).c (marks_ mk j (ena L j).n ++ marks_ mk (-1 - j) 8)
  at_ : ∀ j, j < i → ∀ k, (ena G j).b = some k → (ena L j).b = some k ∨ (w1.heap.size ≤ k ∧ blk LA lc ≠ some k)
  foot : ∀ k, Foot L k → k < w1.heap.size
  apart : ∀ i j, i < L.length → j < L.length → i ≠ j → ∀ k, (ena L i).b = some k → (ena L j).b ≠ some k
  upd : Upd (Foot L) w1 wr
theorem Ph2.start {mk : Int → Nat → List Value} {w wr : World} {B : Nat} {e : TypeId} {size : Nat} {L : List En} {f : Nat → List Value} (T : TypeId) (h : Ph1 mk w wr B e size L L.length f) : Ph2 mk wr wr B e T size L 0 [] none 0 :=
  ⟨rfl, Own.nil _ _ _ _, fun j _ hj => by have := h.ls.own j hj; rwa [h.done j hj hj] at this, fun j hj => by omega, fun j hj => by omega, fun j hj => by omega, fun k hk => (h.ls.foot_lt hk).2, h.ls.apart, Upd.refl _ _⟩
/-- within an entry: x is being grown -/
structure Ph2I (mk : Int → Nat → List Value) (w2 wr : World) (B : Nat) (e : TypeId) (size : Nat) (L : List En) (i k : Nat) (A : Option Addr) (c : Nat) : Prop where
  own : Own wr B e size A ((ena L i).n + k) c (marks_ mk i (ena L i).n ++ marks_ mk (-1 - i) k)
  at_ : (A = (ena L i).A ∧ c = (ena L i).c) ∨ ∃ q, blk A c = some q ∧ w2.heap.size ≤ q
  read : Sl wr size (ena L i).A (ena L i).n (ena L i).c (marks_ mk i (ena L i).n)
  lt : ∀ q, (ena L i).b = some q → q < w2.heap.size
  upd : Upd (fun q => (ena L i).b = some q) w2 wr
theorem Ph2.enter {mk : Int → Nat → List Value} {w1 wr : World} {B : Nat} {e T : TypeId} {size : Nat} {L : List En} {i : Nat} {G : List En} {LA : Option Addr} {lc : Nat} (h : Ph2 mk w1 wr B e T size L i G LA lc) (hi : i < L.length) : Ph2I mk wr wr B e size L i 0 (ena L i).A (ena L i).c := by
  have o := h.rest i (Nat.le_refl _) hi
  exact ⟨by rw [marks_zero, List.append_nil]; exact o, .inl ⟨rfl, rfl⟩, o.sl, fun q hq => (o.lt q hq).2, Upd.refl _ _⟩
theorem Ph2I.step {mk : Int → Nat → List Value} {w2 wr w3 : World} {B : Nat} {e : TypeId} {size : Nat} {L : List En} {i k : Nat} {A A3 : Option Addr} {c c3 : Nat} (h : Ph2I mk w2 wr B e size L i k A c) (hs : ∀ i k, (mk i k).length = size) (ob : Obj)
    (o3 : Own w3 B e size A3 ((ena L i).n + k + 1) c3 (marks_ mk i (ena L i).n ++ marks_ mk (-1 - i) k ++ mk (-1 - i) k)) (g3 : (wr.alloc ob).grownBy w3 (blk A c)) (x3 : (A3 = A ∧ c3 = c) ∨ (blk A3 c3 = some (wr.alloc ob).heap.size ∧ Ext (wr.alloc ob) w3)) : Ph2I mk w2 w3 B e size L i (k + 1) A3 c3 := by
  have hsz : w2.heap.size ≤ (wr.alloc ob).heap.size := Nat.le_trans h.upd.size ((Ext.refl wr).alloc ob).size
  have hin : ∀ q, blk A c = some q → (ena L i).b = some q ∨ w2.heap.size ≤ q := fun q hq => by
    rcases h.at_ with ⟨rfl, rfl⟩ | ⟨q', h1, h2⟩
    · exact .inl hq
    · rw [h1] at hq; injection hq with hq; exact .inr (by omega)
  refine ⟨by rw [marks_succ, ← List.append_assoc]; exact o3, ?_, ?_, h.lt, (h.upd.alloc ob).grown g3 hin⟩
  · rcases x3 with ⟨rfl, rfl⟩ | ⟨h1, _⟩
    · exact h.at_
    · exact .inr ⟨_, h1, hsz⟩
  · have key : A3 = (ena L i).A → c3 = (ena L i).c → Sl w3 size (ena L i).A (ena L i).n (ena L i).c (marks_ mk i (ena L i).n) := fun ea ec => by
      have := Sl.take (k := (ena L i).n) o3.sl (by omega)
      rw [List.append_assoc, List.take_left' (marks_len hs i _), ea, ec] at this
      exact this
    rcases x3 with ⟨rfl, rfl⟩ | ⟨h1, x⟩
    · rcases h.at_ with ⟨ea, ec⟩ | ⟨q', h1, h2⟩
      · exact key ea ec
      · refine Sl.upd (S := fun q => blk A3 c3 = some q) (h.read.ext ((Ext.refl wr).alloc ob)) ((Upd.refl _ _).grown g3 (fun k hk => .inl hk)) (fun q hq hq2 => ?_)
        rw [h1] at hq2
        injection hq2 with hq2
        have := h.lt q hq
        omega
    · exact (h.read.ext ((Ext.refl wr).alloc ob)).ext x
/-- the entry is done: it is put to the long ones -/
theorem Ph2.next {mk : Int → Nat → List Value} {w1 w2 wr w4 : World} {B : Nat} {e T : TypeId} {size : Nat} {L : List En} {i : Nat} {G : List En} {LA LA4 : Option Addr} {lc lc4 : Nat} {A : Option Addr} {c : Nat} (h : Ph2 mk w1 w2 B e T size L i G LA lc) (hi : i < L.length) (hx : Ph2I mk w2 wr B e size L i 8 A c) (ob : Obj)
    (o4 : Own w4 w1.heap.size T 1 LA4 (i + 1) lc4 (ensC G ++ [.slice A ((ena L i).n + 8) c])) (g4 : (wr.alloc ob).grownBy w4 (blk LA lc)) (x4 : (LA4 = LA ∧ lc4 = lc) ∨ (blk LA4 lc4 = some (wr.alloc ob).heap.size ∧ Ext (wr.alloc ob) w4)) : Ph2 mk w1 w4 B e T size L (i + 1) (G ++ [⟨A, (ena L i).n + 8, c⟩]) LA4 lc4 := by
  have hfi : ∀ q, (ena L i).b = some q → Foot L q := fun q hq => ⟨i, hi, hq⟩
  -- from w2 to w4 only entry i's block, and the long ones' list, have turned
  have hlt : ∀ q, blk LA lc = some q → w1.heap.size ≤ q ∧ q < w2.heap.size := fun q hq => h.lst.lt q hq
  have u4 : Upd (fun q => (ena L i).b = some q ∨ blk LA lc = some q) w2 w4 := ((hx.upd.mono (fun k _ q => Or.inl q)).alloc ob).grown g4 (fun k hk => .inl (.inr hk))
  have u5 : Upd (fun q => blk LA lc = some q) wr w4 := ((Upd.refl _ _).alloc ob).grown g4 (fun k hk => .inl hk)
  have nl : ∀ q, Foot L q → blk LA lc ≠ some q := fun q hq e1 => by have := h.foot q hq; have := (hlt q e1).1; omega
  have ni : ∀ j, j < L.length → j ≠ i → ∀ q, (ena L j).b = some q → ¬ ((ena L i).b = some q ∨ blk LA lc = some q) := fun j hj hji q hq e1 => by
    rcases e1 with e1 | e1
    · exact h.apart j i hj hi hji q hq e1
    · exact nl q ⟨j, hj, hq⟩ e1
  have hgl := h.len
  have hxb : ∀ q, blk A c = some q → (ena L i).b = some q ∨ w2.heap.size ≤ q := fun q hq => by
    rcases hx.at_ with ⟨rfl, rfl⟩ | ⟨q', h1, h2⟩
    · exact .inl hq
    · rw [h1] at hq; injection hq with hq; exact .inr (by omega)
  have hll : ∀ q, blk LA4 lc4 = some q → blk LA lc = some q ∨ wr.heap.size ≤ q := fun q hq => by
    rcases x4 with ⟨rfl, rfl⟩ | ⟨h1, _⟩
    · exact .inl hq
    · rw [h1] at hq; injection hq with hq; have := ((Ext.refl wr).alloc ob).size; exact .inr (by omega)
  refine ⟨by rw [List.length_append, hgl]; rfl, by rw [ensC_append]; exact o4, fun j hj hjl => (h.rest j (by omega) hjl).upd u4 (ni j hjl (by omega)), fun j hj => ?_, fun j hj => ?_, fun j hj q hq => ?_, h.foot, h.apart, ?_⟩
  · by_cases hji : j < i
    · exact (h.read j hji).upd u4 (ni j (by omega) (by omega))
    · obtain rfl : j = i := by omega
      exact hx.read.upd u5 (fun q hq => nl q (hfi q hq))
  · by_cases hji : j < i
    · rw [ena_append_old (by omega)]
      obtain ⟨h1, h2⟩ := h.long j hji
      refine ⟨h1, h2.upd u4 (fun q hq e1 => ?_)⟩
      rcases h.at_ j hji q hq with h3 | ⟨h3, h4⟩
      · exact ni j (by omega) (by omega) q h3 e1
      · rcases e1 with e1 | e1
        · have := h.foot q (hfi q e1); omega
        · exact h4 e1
    · obtain rfl : j = i := by omega
      have e1 : ena (G ++ [⟨A, (ena L j).n + 8, c⟩]) j = ⟨A, (ena L j).n + 8, c⟩ := by rw [← hgl]; exact ena_append_new G _
      rw [e1]
      refine ⟨rfl, hx.own.upd u5 (fun q hq e2 => ?_)⟩
      rcases hxb q hq with h3 | h3
      · exact nl q (hfi q h3) e2
      · have := (hlt q e2).2; omega
  · by_cases hji : j < i
    · rw [ena_append_old (by omega)] at hq
      rcases h.at_ j hji q hq with h3 | ⟨h3, h4⟩
      · exact .inl h3
      · refine .inr ⟨h3, fun e1 => ?_⟩
        rcases hll q e1 with h5 | h5
        · exact h4 h5
        · have := ((h.long j hji).2.lt q hq).2
          have := hx.upd.size
          omega
    · obtain rfl : j = i := by omega
      have e1 : ena (G ++ [⟨A, (ena L j).n + 8, c⟩]) j = ⟨A, (ena L j).n + 8, c⟩ := by rw [← hgl]; exact ena_append_new G _
      rw [e1] at hq
      rcases hxb q hq with h3 | h3
      · exact .inl h3
      · refine .inr ⟨Nat.le_trans h.upd.size h3, fun e2 => ?_⟩
        rcases hll q e2 with h5 | h5
        · have := (hlt q h5).2; omega
        · have := (hx.own.lt q hq).2; omega
  · have hd : ∀ q, q < w2.heap.size → (ena L i).b = some q → Foot L q := fun q _ hq => hfi q hq
    exact (h.upd.trans ((hx.upd.mono hd).alloc ob)).grown g4 (fun q hq => .inr (hlt q hq).1)
/-! ### reading elements -/
theorem addr_off (ad : Addr) (j q : Nat) (hq : 0 < q) : ad.add (j + q) = ⟨(ad.add j).block, (ad.add j).off + q, none⟩ := by
  rw [← add_add']
  unfold Addr.add
  rw [if_neg (by omega)]
end Go.Proofs.Yteklohamkmiphaa
namespace Go.Proofs.Yteklohamkmiphaa
open Go.RowKit

section
variable {α : Type} (enc : α → List Value) (k : Nat) (hk : ∀ x, (enc x).length = k)
include hk
theorem els_len : ∀ L : List α, (L.flatMap enc).length = L.length * k
  | [] => by simp
  | x :: l => by rw [List.flatMap_cons, List.length_append, hk, els_len l, List.length_cons, Nat.add_mul]; omega
theorem els_get (z : α) : ∀ (L : List α) (i j : Nat), i < L.length → j < k → (L.flatMap enc)[i * k + j]? = (enc (L.getD i z))[j]?
  | [], i, j, h, _ => absurd h (Nat.not_lt_zero _)
  | d :: l, 0, j, _, hj => by
    rw [List.flatMap_cons, Nat.zero_mul, Nat.zero_add, List.getElem?_append_left (by rw [hk]; exact hj)]
    rfl
  | d :: l, i + 1, j, h, hj => by
    rw [List.flatMap_cons, List.getElem?_append_right (by rw [hk, Nat.add_mul]; omega), show (i + 1) * k + j - (enc d).length = i * k + j by rw [hk, Nat.add_mul]; omega]
    exact els_get z l i j (Nat.lt_of_succ_lt_succ h) hj
theorem els_take : ∀ (L : List α) (m : Nat), (L.flatMap enc).take (m * k) = (L.take m).flatMap enc
  | [], m => by simp
  | x :: L, 0 => by simp
  | x :: L, m + 1 => by
    rw [List.flatMap_cons, List.take_succ_cons, List.flatMap_cons, List.take_append, hk, show (m + 1) * k - k = m * k by rw [Nat.add_mul]; omega, els_take L m, List.take_of_length_le (by rw [hk, Nat.add_mul]; omega)]
/-- the cells of the i-th -/
theorem els_at (z : α) {w : World} {A : Option Addr} {c n : Nat} {L : List α} (h : Sl w k A n c (L.flatMap enc)) (hn : n = L.length) {i : Nat} (hi : i < L.length) (k0 : 0 < k) :
    ∃ ad, A = some ad ∧ (∀ u, (enc (L.getD i z))[0]? = some u → w.cell? (ad.add (i * k)) = some u) ∧ ∀ q u, (enc (L.getD i z))[q + 1]? = some u → w.cell? ⟨(ad.add (i * k)).block, (ad.add (i * k)).off + (q + 1), none⟩ = some u := by
  obtain ⟨ad, e, hc⟩ := h.2.2.2.2 (by omega)
  refine ⟨ad, e, fun u hu => hc _ _ (by have := els_get enc k hk z L i 0 hi k0; rw [Nat.add_zero] at this; rw [this]; exact hu), fun q u hu => ?_⟩
  rw [← addr_off _ _ (q + 1) (by omega)]
  have hq : q + 1 < k := by
    have := (List.getElem?_eq_some_iff.1 hu).1
    rw [hk] at this; exact this
  exact hc _ _ (by rw [els_get enc k hk z L i (q + 1) hi hq]; exact hu)
end
theorem els_one {α : Type} {enc : α → List Value} (h : ∀ x, ∀ u ∈ enc x, u.oneCell' = true) (L : List α) : ∀ u ∈ L.flatMap enc, u.oneCell' = true := by
  intro u hu
  obtain ⟨d, _, g⟩ := List.mem_flatMap.1 hu
  exact h d u g
theorem getD_mem' {α : Type} {L : List α} {i : Nat} (z : α) (h : i < L.length) : L.getD i z ∈ L := by
  rw [List.getD_eq_getElem?_getD, List.getElem?_eq_getElem h]
  exact List.getElem_mem h
end Go.Proofs.Yteklohamkmiphaa
namespace Go.Proofs.Yteklohamkmiphaa

section
variable {P W : Type}

/-- a move: along an edge, or by a way -/
inductive Mv (P W : Type) where
  | e (o q : P)
  | w (x : W)
deriving DecidableEq

/-- a graph as the queue sees it -/
structure Net (P W : Type) where
  start : P
  d0 : Nat
  dep : P → Nat
  win : W → P
  wout : W → P
  kp : W → Nat
  add : W → Nat
  ent : W → Nat → Nat

/-- what a way comes to: up to which counter it keeps them, and what it adds, or sets -/
structure Lab where
  k : Nat
  v : Nat → Nat

/-- never behind, up to a counter -/
def Lab.le (d : Nat) (a b : Lab) : Prop := ∀ j, j ≤ d → a.v j ≤ b.v j ∧ (j ≤ a.k → j ≤ b.k)

theorem Lab.le_refl (d : Nat) (a : Lab) : Lab.le d a a := fun _ _ => ⟨Nat.le_refl _, id⟩
theorem Lab.le_trans {d : Nat} {a b c : Lab} (h : Lab.le d a b) (g : Lab.le d b c) : Lab.le d a c := fun j hj => ⟨Nat.le_trans (h j hj).1 (g j hj).1, fun x => (g j hj).2 ((h j hj).2 x)⟩
theorem Lab.le_mono {d e : Nat} {a b : Lab} (h : Lab.le d a b) (he : e ≤ d) : Lab.le e a b := fun j hj => h j (Nat.le_trans hj he)

variable (N : Net P W)

def Net.app (x : W) (l : Lab) : Lab := ⟨min l.k (N.kp x), fun j => if j < N.kp x then l.v j else if j = N.kp x then l.v j + N.add x else N.ent x j⟩
def Net.lab : List (Mv P W) → Lab
  | [] => ⟨N.d0, fun _ => 0⟩
  | .e _ _ :: t => Net.lab t
  | .w x :: t => N.app x (Net.lab t)
def Net.endp : List (Mv P W) → P
  | [] => N.start
  | .e _ q :: _ => q
  | .w x :: _ => N.wout x
def Net.src : Mv P W → P
  | .e o _ => o
  | .w x => N.win x
/-- how far a move keeps -/
def Net.kpm : Mv P W → Nat
  | .e _ _ => 9
  | .w x => N.kp x

/-- a run: its entries, and when each came -/
structure Run where
  E : List (Mv P W) → Prop
  tm : List (Mv P W) → Nat
  st : Prop
  tl : ∀ m t, E (m :: t) → E t ∧ tm t < tm (m :: t) ∧ N.src m = N.endp t
  inj : ∀ l m, E l → E m → tm l = tm m → l = m
  un : ∀ l m, E l → E m → (st ∨ l ≠ []) → N.endp l = N.endp m → tm l < tm m → ¬ Lab.le (N.dep (N.endp l)) (N.lab l) (N.lab m)
  aw : ∀ x y u, E x → E y → N.endp x = N.endp y → tm x < tm y → E (.w u :: y) → ¬ Lab.le (N.kp u) (N.lab x) (N.lab y)
  ed : ∀ x y o q, E x → E y → N.endp x = N.endp y → tm x < tm y → E (.e o q :: y) → ∃ z, E z ∧ (st ∨ z ≠ []) ∧ tm z < tm (.e o q :: y) ∧ N.endp z = q ∧ Lab.le (N.dep q) (N.lab z) (N.lab x)
  kw : ∀ u y, E (.w u :: y) → N.kp u ≤ N.dep (N.win u) ∧ N.kp u ≤ 3
  zero : ∀ u y, E (.w u :: y) → N.kp u = 0 → N.add u = 0
  d3 : ∀ p, N.dep p ≤ 3

/-- what is left behind the last ways that keep so far -/
def Net.base (i : Nat) : List (Mv P W) → List (Mv P W)
  | [] => []
  | m :: t => if i ≤ N.kpm m then Net.base i t else m :: t
/-- the ways that keep just so far, since then -/
def Net.S (i : Nat) : List (Mv P W) → List W
  | [] => []
  | .e _ _ :: t => if i ≤ 9 then Net.S i t else []
  | .w x :: t => if i < N.kp x then Net.S i t else if i = N.kp x then x :: Net.S i t else []

theorem Net.base_ge {i : Nat} {m : Mv P W} (t : List (Mv P W)) (h : i ≤ N.kpm m) : N.base i (m :: t) = N.base i t := by simp only [Net.base, if_pos h]
theorem Net.base_lt {i : Nat} {m : Mv P W} (t : List (Mv P W)) (h : ¬ i ≤ N.kpm m) : N.base i (m :: t) = m :: t := by simp only [Net.base, if_neg h]
theorem Net.base_e {i : Nat} (o q : P) (t : List (Mv P W)) (h : i ≤ 9) : N.base i (.e o q :: t) = N.base i t := N.base_ge t (m := .e o q) h
theorem Net.base_w {i : Nat} (x : W) (t : List (Mv P W)) (h : i ≤ N.kp x) : N.base i (.w x :: t) = N.base i t := N.base_ge t (m := .w x) h
theorem Net.base_n {i : Nat} (x : W) (t : List (Mv P W)) (h : ¬ i ≤ N.kp x) : N.base i (.w x :: t) = .w x :: t := N.base_lt t (m := .w x) h
theorem Net.S_e {i : Nat} (o q : P) (t : List (Mv P W)) (h : i ≤ 9) : N.S i (.e o q :: t) = N.S i t := by simp only [Net.S, if_pos h]
theorem Net.S_gt {i : Nat} (x : W) (t : List (Mv P W)) (h : i < N.kp x) : N.S i (.w x :: t) = N.S i t := by simp only [Net.S, if_pos h]
theorem Net.S_eq {i : Nat} (x : W) (t : List (Mv P W)) (h : N.kp x = i) : N.S i (.w x :: t) = x :: N.S i t := by simp only [Net.S, if_neg (show ¬ i < N.kp x by omega), if_pos h.symm]
theorem Net.S_lt {i : Nat} (x : W) (t : List (Mv P W)) (h : N.kp x < i) : N.S i (.w x :: t) = [] := by simp only [Net.S, if_neg (show ¬ i < N.kp x by omega), if_neg (show ¬ i = N.kp x by omega)]

theorem Net.lab_base (i : Nat) (hi : i ≤ 9) : ∀ l : List (Mv P W), (∀ j, j < i → (N.lab l).v j = (N.lab (N.base i l)).v j) ∧ (N.lab l).v i = (N.lab (N.base i l)).v i + ((N.S i l).map N.add).sum ∧ (∀ j, j ≤ i → (j ≤ (N.lab l).k ↔ j ≤ (N.lab (N.base i l)).k))
  | [] => by simp [Net.base, Net.S]
  | .e o q :: t => by
    have h := lab_base i hi t
    rw [N.base_e o q t hi, N.S_e o q t hi]
    exact h
  | .w x :: t => by
    have h := lab_base i hi t
    rcases Nat.lt_trichotomy i (N.kp x) with h1 | h1 | h1
    · rw [N.base_w x t (by omega), N.S_gt x t h1]
      simp only [Net.lab, Net.app]
      refine ⟨fun j hj => ?_, ?_, fun j hj => ?_⟩
      · rw [if_pos (by omega)]; exact h.1 j hj
      · rw [if_pos h1]; exact h.2.1
      · rw [← h.2.2 j hj]; omega
    · rw [N.base_w x t (by omega), N.S_eq x t h1.symm]
      simp only [Net.lab, Net.app, List.map_cons, List.sum_cons]
      refine ⟨fun j hj => ?_, ?_, fun j hj => ?_⟩
      · rw [if_pos (by omega)]; exact h.1 j hj
      · rw [if_neg (by omega), if_pos h1, h.2.1]; omega
      · rw [← h.2.2 j hj]; omega
    · rw [N.base_n x t (by omega), N.S_lt x t h1]
      simp

theorem Net.base_base (i j : Nat) (h : i ≤ j) : ∀ l : List (Mv P W), N.base i (N.base j l) = N.base i l
  | [] => rfl
  | m :: t => by
    by_cases h1 : j ≤ N.kpm m
    · rw [N.base_ge t h1, N.base_ge t (Nat.le_trans h h1)]; exact base_base i j h t
    · rw [N.base_lt t h1]

theorem Net.S_base (i j : Nat) (h : i < j) (hj : j ≤ 9) : ∀ l : List (Mv P W), N.S i (N.base j l) = N.S i l
  | [] => rfl
  | .e o q :: t => by
    rw [N.base_e o q t hj, N.S_e o q t (by omega)]; exact S_base i j h hj t
  | .w x :: t => by
    by_cases h1 : j ≤ N.kp x
    · rw [N.base_w x t h1, N.S_gt x t (by omega)]; exact S_base i j h hj t
    · rw [N.base_n x t h1]

theorem Net.base_suffix (i : Nat) : ∀ l : List (Mv P W), N.base i l <:+ l
  | [] => List.suffix_refl _
  | m :: t => by
    by_cases h1 : i ≤ N.kpm m
    · rw [N.base_ge t h1]; exact (base_suffix i t).trans (List.suffix_cons m t)
    · rw [N.base_lt t h1]; exact List.suffix_refl _

theorem Net.S_kp (i : Nat) : ∀ (l : List (Mv P W)) (x : W), x ∈ N.S i l → N.kp x = i
  | [], x, h => by simp [Net.S] at h
  | .e o q :: t, x, h => by
    simp only [Net.S] at h
    split at h
    · exact S_kp i t x h
    · simp at h
  | .w y :: t, x, h => by
    rcases Nat.lt_trichotomy i (N.kp y) with h1 | h1 | h1
    · rw [N.S_gt y t h1] at h; exact S_kp i t x h
    · rw [N.S_eq y t h1.symm] at h
      rcases List.mem_cons.1 h with rfl | h
      · exact h1.symm
      · exact S_kp i t x h
    · rw [N.S_lt y t h1] at h; simp at h

/-- where a way of these stands: its entry -/
theorem Net.S_at (i : Nat) (hi : i ≤ 9) : ∀ (l : List (Mv P W)) (x : W), x ∈ N.S i l → ∃ r, (.w x :: r) <:+ l ∧ N.base i (.w x :: r) = N.base i l ∧ N.S i (.w x :: r) <:+ N.S i l ∧ N.S i (.w x :: r) = x :: N.S i r
  | [], x, h => by simp [Net.S] at h
  | .e o q :: t, x, h => by
    rw [N.S_e o q t hi] at h
    obtain ⟨r, h1, h2, h3, h4⟩ := S_at i hi t x h
    exact ⟨r, h1.trans (List.suffix_cons _ _), by rw [h2, N.base_e o q t hi], by rw [N.S_e o q t hi]; exact h3, h4⟩
  | .w y :: t, x, h => by
    rcases Nat.lt_trichotomy i (N.kp y) with h1 | h1 | h1
    · rw [N.S_gt y t h1] at h
      obtain ⟨r, g1, g2, g3, g4⟩ := S_at i hi t x h
      exact ⟨r, g1.trans (List.suffix_cons _ _), by rw [g2, N.base_w y t (by omega)], by rw [N.S_gt y t h1]; exact g3, g4⟩
    · rw [N.S_eq y t h1.symm] at h
      rcases List.mem_cons.1 h with rfl | h
      · exact ⟨t, List.suffix_refl _, rfl, List.suffix_refl _, N.S_eq x t h1.symm⟩
      · obtain ⟨r, g1, g2, g3, g4⟩ := S_at i hi t x h
        exact ⟨r, g1.trans (List.suffix_cons _ _), by rw [g2, N.base_w y t (by omega)], by rw [N.S_eq y t h1.symm]; exact g3.trans (List.suffix_cons _ _), g4⟩
    · rw [N.S_lt y t h1] at h; simp at h

variable {N}
theorem Run.suffix (R : Run N) : ∀ {l t : List (Mv P W)}, R.E l → t <:+ l → R.E t ∧ R.tm t ≤ R.tm l ∧ (t ≠ l → R.tm t < R.tm l)
  | [], t, h, hs => by
    have : t = [] := List.suffix_nil.1 hs
    subst this; exact ⟨h, Nat.le_refl _, fun x => absurd rfl x⟩
  | m :: l, t, h, hs => by
    rcases List.suffix_cons_iff.1 hs with rfl | hs
    · exact ⟨h, Nat.le_refl _, fun x => absurd rfl x⟩
    · obtain ⟨h1, h2, _⟩ := R.tl m l h
      obtain ⟨g1, g2, _⟩ := Run.suffix R h1 hs
      exact ⟨g1, by omega, fun _ => by omega⟩

/-- behind one way from one base, with no more of the others: never behind -/
theorem Net.lab_le (N : Net P W) (i : Nat) (hi : i ≤ 9) (u : W) (r s : List (Mv P W)) (hu : N.kp u = i) (hb : N.base i (.w u :: r) = N.base i (.w u :: s)) (hs : ((N.S i (.w u :: r)).map N.add).sum ≤ ((N.S i (.w u :: s)).map N.add).sum) (d : Nat) :
    Lab.le d (N.lab (.w u :: r)) (N.lab (.w u :: s)) := by
  have h1 := N.lab_base i hi (.w u :: r)
  have h2 := N.lab_base i hi (.w u :: s)
  intro j hj
  rcases Nat.lt_trichotomy j i with h | h | h
  · refine ⟨by rw [h1.1 j h, h2.1 j h, hb]; exact Nat.le_refl _, fun x => ?_⟩
    rw [h2.2.2 j (by omega), ← hb, ← h1.2.2 j (by omega)]; exact x
  · subst h
    refine ⟨by rw [h1.2.1, h2.2.1, hb]; omega, fun x => ?_⟩
    rw [h2.2.2 j (by omega), ← hb, ← h1.2.2 j (by omega)]; exact x
  · refine ⟨?_, fun x => ?_⟩
    · simp only [Net.lab, Net.app, hu, if_neg (show ¬ j < i by omega), if_neg (show ¬ j = i by omega)]; exact Nat.le_refl _
    · simp only [Net.lab, Net.app, hu] at x ⊢; omega

theorem Run.nodup (R : Run N) (i : Nat) (hi : i ≤ 9) : ∀ {l : List (Mv P W)}, R.E l → (N.S i l).Nodup
  | [], _ => by simp [Net.S]
  | .e o q :: t, h => by
    rw [N.S_e o q t hi]; exact Run.nodup R i hi (R.tl _ _ h).1
  | .w x :: t, h => by
    rcases Nat.lt_trichotomy i (N.kp x) with h1 | h1 | h1
    · rw [N.S_gt x t h1]; exact Run.nodup R i hi (R.tl _ _ h).1
    · rw [N.S_eq x t h1.symm]
      refine List.nodup_cons.2 ⟨fun hm => ?_, Run.nodup R i hi (R.tl _ _ h).1⟩
      obtain ⟨r, g1, g2, g3, g4⟩ := N.S_at i hi t x hm
      have g := R.suffix (R.tl _ _ h).1 g1
      have g5 := (R.tl _ _ h).2.1
      refine R.un _ _ g.1 h (.inr (by simp)) rfl (by omega) (N.lab_le i hi x r t h1.symm (by rw [g2, N.base_w x t (by omega)]) ?_ _)
      rw [N.S_eq x t h1.symm]
      obtain ⟨c, hc⟩ := g3
      rw [← hc]; simp only [List.map_cons, List.map_append, List.sum_cons, List.sum_append]; omega
    · rw [N.S_lt x t h1]; exact List.nodup_nil

theorem perm_sum {l m : List W} (f : W → Nat) (h : l.Perm m) : (l.map f).sum = (m.map f).sum := (h.map f).sum_nat

theorem perm_of_mem {l m : List W} (hl : l.Nodup) (hm : m.Nodup) (h : ∀ x, x ∈ l ↔ x ∈ m) : l.Perm m := (List.perm_ext_iff_of_nodup hl hm).2 h

theorem Net.head_base (N : Net P W) (i : Nat) (hi : i < 9) {l : List (Mv P W)} (h : N.base (i + 1) l = l) : (N.S i l = [] ∧ N.base i l = l) ∨ ∃ u t, l = .w u :: t ∧ N.kp u = i := by
  rcases l with _ | ⟨m, t⟩
  · exact .inl ⟨rfl, rfl⟩
  · have hm : ¬ i + 1 ≤ N.kpm m := by
      intro hm
      rw [N.base_ge t hm] at h
      have := (N.base_suffix (i + 1) t).length_le
      rw [h] at this
      simp at this
      omega
    cases m with
    | e o q => simp only [Net.kpm] at hm; omega
    | w x =>
      simp only [Net.kpm] at hm
      by_cases hx : N.kp x = i
      · exact .inr ⟨x, t, rfl, hx⟩
      · exact .inl ⟨N.S_lt x t (by omega), N.base_n x t (by omega)⟩

/-- two entries behind ways that keep so far at most, of one base and the same ways since: the same entry -/
theorem Run.uniq (R : Run N) (i : Nat) (hi : i < 9) {l m : List (Mv P W)} (hl : R.E l) (hm : R.E m) (bl : N.base (i + 1) l = l) (bm : N.base (i + 1) m = m)
    (hb : N.base i l = N.base i m) (hs : ∀ x, x ∈ N.S i l ↔ x ∈ N.S i m) : l = m := by
  have nl := R.nodup i (by omega) hl
  have nm := R.nodup i (by omega) hm
  have hp := perm_sum N.add (perm_of_mem nl nm hs)
  rcases N.head_base i hi bl with ⟨l1, l2⟩ | ⟨u, r, rfl, hu⟩
  · rcases N.head_base i hi bm with ⟨m1, m2⟩ | ⟨v, s, rfl, hv⟩
    · rw [← l2, ← m2]; exact hb
    · exfalso
      have : v ∈ N.S i l := (hs v).2 (by rw [N.S_eq _ _ hv]; exact List.mem_cons_self)
      rw [l1] at this; simp at this
  · rcases N.head_base i hi bm with ⟨m1, m2⟩ | ⟨v, s, rfl, hv⟩
    · exfalso
      have : u ∈ N.S i m := (hs u).1 (by rw [N.S_eq _ _ hu]; exact List.mem_cons_self)
      rw [m1] at this; simp at this
    · by_cases huv : u = v
      · subst huv
        have c1 := N.lab_le i (by omega) u r s hu hb (by rw [hp]; exact Nat.le_refl _) (N.dep (N.wout u))
        have c2 := N.lab_le i (by omega) u s r hu hb.symm (by rw [hp]; exact Nat.le_refl _) (N.dep (N.wout u))
        rcases Nat.lt_trichotomy (R.tm (.w u :: r)) (R.tm (.w u :: s)) with h | h | h
        · exact absurd c1 (R.un _ _ hl hm (.inr (by simp)) rfl h)
        · exact R.inj _ _ hl hm h
        · exact absurd c2 (R.un _ _ hm hl (.inr (by simp)) rfl h)
      · exfalso
        -- of two with different last ways each would come ahead of the other one
        have key : ∀ (u v : W) (r s : List (Mv P W)), R.E (.w u :: r) → R.E (.w v :: s) → N.kp u = i → N.kp v = i → N.base i (.w u :: r) = N.base i (.w v :: s) → (∀ x, x ∈ N.S i (.w u :: r) ↔ x ∈ N.S i (.w v :: s)) →
            ((N.S i (.w u :: r)).map N.add).sum = ((N.S i (.w v :: s)).map N.add).sum → u ≠ v → R.tm (.w u :: r) < R.tm (.w v :: s) := by
          intro u v r s h1 h2 hu hv hb hs hp huv
          have hmem : u ∈ N.S i (.w v :: s) := (hs u).1 (by rw [N.S_eq _ _ hu]; exact List.mem_cons_self)
          obtain ⟨t, t1, t2, t3, t4⟩ := N.S_at i (by omega) _ u hmem
          have gt := R.suffix h2 t1
          have ne : (.w u :: t : List (Mv P W)) ≠ .w v :: s := by intro h; injection h with h _; injection h with h; exact huv h
          have lt := gt.2.2 ne
          have c := N.lab_le i (by omega) u t r hu (by rw [t2, hb]) (by
            rw [hp]; obtain ⟨c, hc⟩ := t3
            rw [← hc, List.map_append, List.sum_append]; omega) (N.dep (N.wout u))
          rcases Nat.lt_trichotomy (R.tm (.w u :: r)) (R.tm (.w u :: t)) with h | h | h
          · omega
          · exfalso
            have := R.inj _ _ h1 gt.1 h
            -- the later way stands in the elder entry too: twice
            have hv1 : v ∈ N.S i (.w u :: t) := by rw [← this]; exact (hs v).2 (by rw [N.S_eq _ _ hv]; exact List.mem_cons_self)
            have hv2 : N.S i (.w v :: s) = v :: N.S i s := N.S_eq _ _ hv
            have nd := R.nodup i (by omega) h2
            rw [hv2] at nd t3
            rcases List.suffix_cons_iff.1 t3 with h5 | h5
            · rw [t4] at h5; injection h5 with h5 _; exact huv h5
            · exact (List.nodup_cons.1 nd).1 (h5.subset hv1)
          · exact absurd c (R.un _ _ gt.1 h1 (.inr (by simp)) rfl h)
        have k1 := key u v r s hl hm hu hv hb hs hp huv
        have k2 := key v u s r hm hl hv hu hb.symm (fun x => (hs x).symm) hp.symm (Ne.symm huv)
        omega
end
end Go.Proofs.Yteklohamkmiphaa
namespace Go.Proofs.Yteklohamkmiphaa

section count
variable {α β : Type} [DecidableEq β]

theorem count_by (f : α → β) (n : Nat) : ∀ (O : List β) (L : List α), (∀ x ∈ L, f x ∈ O) → (∀ b ∈ O, (L.filter (fun x => f x = b)).length ≤ n) → L.length ≤ O.length * n
  | [], L, h, _ => by
    have : L = [] := List.eq_nil_iff_forall_not_mem.2 fun x hx => by simpa using h x hx
    subst this; simp
  | b :: O, L, h, g => by
    have h1 : L.length = (L.filter (fun x => f x = b)).length + (L.filter (fun x => ! decide (f x = b))).length := by
      have := List.length_eq_countP_add_countP (l := L) (fun x => decide (f x = b))
      rw [List.countP_eq_length_filter, List.countP_eq_length_filter] at this
      simpa using this
    have h2 := g b List.mem_cons_self
    have h3 := count_by f n O (L.filter (fun x => ! decide (f x = b))) (fun x hx => by
      have hx := List.mem_filter.1 hx
      rcases List.mem_cons.1 (h x hx.1) with e | e
      · simp [e] at hx
      · exact e) (fun c hc => by
      refine Nat.le_trans ?_ (g c (List.mem_cons_of_mem _ hc))
      rw [List.filter_filter]
      rw [← List.countP_eq_length_filter, ← List.countP_eq_length_filter]
      exact List.countP_mono_left fun x _ hx => by simp at hx; simp [hx.1])
    rw [List.length_cons, Nat.add_mul, Nat.one_mul]; omega

def prodL : List Nat → Nat
  | [] => 1
  | a :: l => a * prodL l
/-- functions that fix what they are asked of, each with so many answers -/
theorem count_prod : ∀ (fs : List ((α → β) × List β)) (L : List α), L.Nodup → (∀ x ∈ L, ∀ f ∈ fs, f.1 x ∈ f.2) → (∀ x ∈ L, ∀ y ∈ L, (∀ f ∈ fs, f.1 x = f.1 y) → x = y) → L.length ≤ prodL (fs.map fun f => f.2.length)
  | [], L, nd, _, h => by
    rcases L with _ | ⟨a, _ | ⟨b, l⟩⟩
    · simp [prodL]
    · simp [prodL]
    · exact absurd (h a (by simp) b (by simp) (by simp)) (by simp at nd; exact fun e => nd.1.1 e)
  | f :: fs, L, nd, m, h => by
    refine count_by f.1 (prodL (fs.map fun f => f.2.length)) f.2 L (fun x hx => m x hx f List.mem_cons_self) fun b _ => ?_
    refine count_prod fs _ (nd.filter _) (fun x hx g hg => m x (List.mem_filter.1 hx).1 g (List.mem_cons_of_mem _ hg)) fun x hx y hy hxy => ?_
    have hx := List.mem_filter.1 hx
    have hy := List.mem_filter.1 hy
    refine h x hx.1 y hy.1 fun g hg => ?_
    rcases List.mem_cons.1 hg with rfl | hg
    · have a := of_decide_eq_true hx.2; have b := of_decide_eq_true hy.2; rw [a, b]
    · exact hxy g hg
end count

section
variable {P W : Type} {N : Net P W}

/-- only one edge leads to it, and it is not where one begins -/
def Run.Single (R : Run N) (o q : P) : Prop := q ≠ N.start ∧ ∀ m t, R.E (m :: t) → N.endp (m :: t) = q → m = .e o q

theorem Net.S_two (N : Net P W) (i : Nat) (hi : i ≤ 9) {l : List (Mv P W)} {x y : W} (hx : x ∈ N.S i l) (hy : y ∈ N.S i l) (h : x ≠ y) :
    (∃ s, (.w x :: s) <:+ l ∧ y ∈ N.S i s) ∨ (∃ s, (.w y :: s) <:+ l ∧ x ∈ N.S i s) := by
  obtain ⟨s, a1, a2, a3, a4⟩ := N.S_at i hi l x hx
  obtain ⟨r, b1, b2, b3, b4⟩ := N.S_at i hi l y hy
  rw [a4] at a3
  rw [b4] at b3
  rcases List.suffix_or_suffix_of_suffix a3 b3 with c | c
  · right; refine ⟨r, b1, ?_⟩
    rcases List.mem_cons.1 (c.subset List.mem_cons_self) with e | e
    · exact absurd e h
    · exact e
  · left; refine ⟨s, a1, ?_⟩
    rcases List.mem_cons.1 (c.subset List.mem_cons_self) with e | e
    · exact absurd e.symm h
    · exact e

theorem Run.no_two (R : Run N) {i : Nat} (hi : i ≤ 3) {x y : W} {s : List (Mv P W)} (h : R.E (.w x :: s)) (kx : N.kp x = i) (hy : y ∈ N.S i s) (hw : N.win x = N.win y ∨ ∃ o, R.Single o (N.win x) ∧ R.Single o (N.win y)) : False := by
  obtain ⟨r, b1, b2, b3, b4⟩ := N.S_at i (by omega) s y hy
  have ky := N.S_kp i s y hy
  obtain ⟨es, ts, xs⟩ := R.tl _ _ h
  have er := R.suffix es b1
  obtain ⟨er1, tr, xr⟩ := R.tl _ _ er.1
  -- up to this counter the elder one is never behind
  have le : Lab.le i (N.lab r) (N.lab s) := by
    have h1 := N.lab_base i (by omega) r
    have h2 := N.lab_base i (by omega) s
    have hb : N.base i r = N.base i s := by rw [← b2, N.base_w y r (by omega)]
    have hsum : ((N.S i r).map N.add).sum ≤ ((N.S i s).map N.add).sum := by
      rw [b4] at b3
      obtain ⟨c, hc⟩ := b3
      rw [← hc]; simp only [List.map_append, List.map_cons, List.sum_append, List.sum_cons]; omega
    intro j hj
    refine ⟨?_, fun g => ?_⟩
    · rcases Nat.lt_or_ge j i with g | g
      · rw [h1.1 j g, h2.1 j g, hb]; exact Nat.le_refl _
      · have : j = i := by omega
        subst this
        rw [h1.2.1, h2.2.1, hb]; omega
    · rw [h2.2.2 j hj, ← hb, ← h1.2.2 j hj]; exact g
  rcases hw with hw | ⟨o, sx, sy⟩
  · exact R.aw r s x er1 es (by rw [← xr, ← xs]; simp only [Net.src]; exact hw.symm) (by omega) h (kx ▸ le)
  · -- both come from one output
    cases r with
    | nil => exact sy.1 (by simpa [Net.src, Net.endp] using xr)
    | cons m r1 =>
    have em := sy.2 m r1 er1 (by rw [← xr]; rfl)
    subst em
    cases s with
    | nil => simp [Net.S] at hy
    | cons n s1 =>
    have en := sx.2 n s1 es (by rw [← xs]; rfl)
    subst en
    obtain ⟨fs1, ts1, ys1⟩ := R.tl _ _ es
    obtain ⟨fr1, tr1, yr1⟩ := R.tl _ _ er1
    have lt : R.tm r1 < R.tm s1 := by
      rcases List.suffix_cons_iff.1 b1 with e | e
      · injection e with e _; exact absurd e (by simp)
      · have := R.suffix fs1 e
        omega
    obtain ⟨z, z1, _, z2, z3, z4⟩ := R.ed r1 s1 o (N.win x) fr1 fs1 (by rw [← yr1, ← ys1]; rfl) lt es
    refine R.aw z _ x z1 es (by rw [z3, ← xs]; rfl) z2 h ?_
    have kd := (R.kw x _ h).1
    have le' : Lab.le i (N.lab r1) (N.lab s1) := le
    rw [kx] at kd ⊢
    exact Lab.le_trans (Lab.le_mono z4 kd) le'

theorem Run.one_key (R : Run N) (key : W → P) (hk : ∀ x y, key x = key y → N.win x = N.win y ∨ ∃ o, R.Single o (N.win x) ∧ R.Single o (N.win y)) {i : Nat} (hi : i ≤ 3) {l : List (Mv P W)} (h : R.E l) {x y : W} (hx : x ∈ N.S i l) (hy : y ∈ N.S i l) (e : key x = key y) : x = y := by
  refine Classical.byContradiction fun ne => ?_
  rcases N.S_two i (by omega) hx hy ne with ⟨s, h1, h2⟩ | ⟨s, h1, h2⟩
  · exact R.no_two hi (R.suffix h h1).1 (N.S_kp i l x hx) h2 (hk x y e)
  · exact R.no_two hi (R.suffix h h1).1 (N.S_kp i l y hy) h2 (hk y x e.symm)

/-- the first counter stays -/
theorem Run.v0 (R : Run N) : ∀ {l : List (Mv P W)}, R.E l → (N.lab l).v 0 = 0
  | [], _ => rfl
  | .e o q :: t, h => by simp only [Net.lab]; exact Run.v0 R (R.tl _ _ h).1
  | .w x :: t, h => by
    have ih := Run.v0 R (R.tl _ _ h).1
    simp only [Net.lab, Net.app]
    split
    · exact ih
    · split
      · rename_i h1; rw [ih, R.zero x t h h1.symm]
      · omega

theorem Run.base_zero (R : Run N) {x : W} {r s : List (Mv P W)} (h : R.E (.w x :: r)) (g : R.E (.w x :: s)) (h0 : N.kp x = 0) : (.w x :: r : List (Mv P W)) = .w x :: s := by
  have c : ∀ {r s : List (Mv P W)}, R.E (.w x :: r) → R.E (.w x :: s) → Lab.le (N.dep (N.wout x)) (N.lab (.w x :: r)) (N.lab (.w x :: s)) := by
    intro r s h g j hj
    have a := R.v0 h; have b := R.v0 g
    by_cases hz : j = 0
    · subst hz; exact ⟨by rw [a]; omega, fun _ => Nat.zero_le _⟩
    · refine ⟨?_, fun e => ?_⟩
      · simp only [Net.lab, Net.app, h0, if_neg (show ¬ j < 0 by omega), if_neg hz]; exact Nat.le_refl _
      · simp only [Net.lab, Net.app, h0] at e; omega
  rcases Nat.lt_trichotomy (R.tm (.w x :: r)) (R.tm (.w x :: s)) with k | k | k
  · exact absurd (c h g) (R.un _ _ h g (.inr (by simp)) rfl k)
  · exact R.inj _ _ h g k
  · exact absurd (c g h) (R.un _ _ g h (.inr (by simp)) rfl k)

theorem Run.same_base1 (R : Run N) {l m : List (Mv P W)} (hl : R.E l) (hm : R.E m) (h : (N.base 1 l).head? = (N.base 1 m).head?) : N.base 1 l = N.base 1 m := by
  have el := (R.suffix hl (N.base_suffix 1 l)).1
  have em := (R.suffix hm (N.base_suffix 1 m)).1
  have bl := N.base_base 1 1 (Nat.le_refl _) l
  have bm := N.base_base 1 1 (Nat.le_refl _) m
  rcases N.head_base 0 (by omega) bl with ⟨_, b⟩ | ⟨u, r, e, ku⟩
  · have : N.base 1 l = [] := by
      cases hc : N.base 1 l with
      | nil => rfl
      | cons a t => rw [hc] at b; rw [N.base_ge t (Nat.zero_le _)] at b; have := (N.base_suffix 0 t).length_le; rw [b] at this; simp at this; omega
    rw [this] at h ⊢
    cases hc : N.base 1 m with
    | nil => rfl
    | cons a t => rw [hc] at h; simp at h
  · rw [e] at h el ⊢
    cases hc : N.base 1 m with
    | nil => rw [hc] at h; simp at h
    | cons a t =>
      rw [hc] at h em
      simp only [List.head?_cons, Option.some.injEq] at h
      subst h
      exact R.base_zero el em ku

/-- the ways that one begins anew with, and the same sets since: the same base -/
theorem Run.same_base (R : Run N) {l m : List (Mv P W)} (hl : R.E l) (hm : R.E m) (h : (N.base 1 l).head? = (N.base 1 m).head?) : ∀ i, 1 ≤ i → i ≤ 8 → (∀ j, 1 ≤ j → j < i → ∀ x, x ∈ N.S j l ↔ x ∈ N.S j m) → N.base i l = N.base i m
  | 0, h1, _, _ => by omega
  | 1, _, _, _ => R.same_base1 hl hm h
  | i + 2, _, h8, hs => by
    have ih := Run.same_base R hl hm h (i + 1) (by omega) (by omega) (fun j a b => hs j a (by omega))
    have el := (R.suffix hl (N.base_suffix (i + 2) l)).1
    have em := (R.suffix hm (N.base_suffix (i + 2) m)).1
    refine R.uniq (i + 1) (by omega) el em (N.base_base _ _ (Nat.le_refl _) l) (N.base_base _ _ (Nat.le_refl _) m) ?_ ?_
    · rw [N.base_base _ _ (by omega), N.base_base _ _ (by omega)]; exact ih
    · intro x; rw [N.S_base _ _ (by omega) (by omega), N.S_base _ _ (by omega) (by omega)]; exact hs (i + 1) (by omega) (by omega) x
end
end Go.Proofs.Yteklohamkmiphaa
namespace Go.Proofs.Yteklohamkmiphaa

section
variable {P W : Type} [DecidableEq P] {N : Net P W}

/-- which way of a key is among these -/
def Net.sig (N : Net P W) (key : W → P) (i : Nat) (k : P) (l : List (Mv P W)) : List (Mv P W) := match (N.S i l).find? (fun x => decide (key x = k)) with | some x => [.w x] | none => []
def Net.sigO (N : Net P W) (ws : List W) (key : W → P) (i : Nat) (k : P) : List (List (Mv P W)) := [] :: (ws.filter (fun x => decide (N.kp x = i) && decide (key x = k))).map (fun x => [.w x])
def Net.root (N : Net P W) (l : List (Mv P W)) : List (Mv P W) := match (N.base 1 l).head? with | some m => [m] | none => []
def Net.rootO (N : Net P W) (ws : List W) : List (List (Mv P W)) := [] :: (ws.filter (fun x => decide (N.kp x = 0))).map (fun x => [.w x])

/-- what is known of a run's ways -/
structure Run.Ways (R : Run N) (ws : List W) (keys : List P) (key : W → P) : Prop where
  wm : ∀ x t, R.E (.w x :: t) → x ∈ ws
  wk : ∀ x, x ∈ ws → key x ∈ keys
  wt : ∀ x y, key x = key y → N.win x = N.win y ∨ ∃ o, R.Single o (N.win x) ∧ R.Single o (N.win y)

variable {R : Run N} {ws : List W} {keys : List P} {key : W → P}

omit [DecidableEq P] in
theorem Run.Ways.S_mem (K : R.Ways ws keys key) {i : Nat} (hi : i ≤ 9) {l : List (Mv P W)} (h : R.E l) {x : W} (hx : x ∈ N.S i l) : x ∈ ws := by
  obtain ⟨r, h1, _⟩ := N.S_at i hi l x hx
  exact K.wm x r (R.suffix h h1).1

theorem Run.Ways.sig_mem (K : R.Ways ws keys key) {i : Nat} (hi : i ≤ 9) (k : P) {l : List (Mv P W)} (h : R.E l) : N.sig key i k l ∈ N.sigO ws key i k := by
  unfold Net.sig Net.sigO
  split
  · rename_i x hx
    refine List.mem_cons_of_mem _ (List.mem_map.2 ⟨x, List.mem_filter.2 ⟨K.S_mem hi h (List.mem_of_find?_eq_some hx), ?_⟩, rfl⟩)
    have a := List.find?_some hx
    have b := N.S_kp i l x (List.mem_of_find?_eq_some hx)
    simp at a ⊢
    exact ⟨b, a⟩
  · exact List.mem_cons_self

omit [DecidableEq P] in
theorem Run.Ways.root_mem (K : R.Ways ws keys key) {l : List (Mv P W)} (h : R.E l) : N.root l ∈ N.rootO ws := by
  unfold Net.root Net.rootO
  split
  · rename_i m hm
    have e := (R.suffix h (N.base_suffix 1 l)).1
    rcases N.head_base 0 (by omega) (N.base_base 1 1 (Nat.le_refl _) l) with ⟨_, b⟩ | ⟨u, r, c, ku⟩
    · exfalso
      cases hc : N.base 1 l with
      | nil => rw [hc] at hm; simp at hm
      | cons a t => rw [hc] at b; rw [N.base_ge t (Nat.zero_le _)] at b; have := (N.base_suffix 0 t).length_le; rw [b] at this; simp at this; omega
    · rw [c] at hm e
      simp at hm
      subst hm
      exact List.mem_cons_of_mem _ (List.mem_map.2 ⟨u, List.mem_filter.2 ⟨K.wm u r e, by simp [ku]⟩, rfl⟩)
  · exact List.mem_cons_self

omit [DecidableEq P] in
theorem root_eq {l m : List (Mv P W)} (h : N.root l = N.root m) : (N.base 1 l).head? = (N.base 1 m).head? := by
  unfold Net.root at h
  cases h1 : (N.base 1 l).head? <;> cases h2 : (N.base 1 m).head? <;> simp [h1, h2] at h ⊢
  exact h

theorem Run.Ways.sig_eq (K : R.Ways ws keys key) {i : Nat} (hi : i ≤ 3) {l m : List (Mv P W)} (hl : R.E l) (hm : R.E m) (h : ∀ k ∈ keys, N.sig key i k l = N.sig key i k m) : ∀ x, x ∈ N.S i l ↔ x ∈ N.S i m := by
  have c : ∀ {l m : List (Mv P W)}, R.E l → R.E m → (∀ k ∈ keys, N.sig key i k l = N.sig key i k m) → ∀ x, x ∈ N.S i l → x ∈ N.S i m := by
    intro l m hl hm h x hx
    have hk := h (key x) (K.wk x (K.S_mem (by omega) hl hx))
    have f1 : (N.S i l).find? (fun y => decide (key y = key x)) = some x := by
      cases hf : (N.S i l).find? (fun y => decide (key y = key x)) with
      | none => have := List.find?_eq_none.1 hf x hx; simp at this
      | some y =>
        have a := List.find?_some hf
        simp at a
        rw [R.one_key key K.wt hi hl (List.mem_of_find?_eq_some hf) hx a]
    unfold Net.sig at hk
    rw [f1] at hk
    cases hf : (N.S i m).find? (fun y => decide (key y = key x)) with
    | none => rw [hf] at hk; simp at hk
    | some y =>
      rw [hf] at hk
      simp at hk
      subst hk
      exact List.mem_of_find?_eq_some hf
  exact fun x => ⟨c hl hm h x, c hm hl (fun k hk => (h k hk).symm) x⟩

/-- the first bound's factors -/
def Net.fX (N : Net P W) (ws : List W) (key : W → P) (keys : List P) : List ((List (Mv P W) → List (Mv P W)) × List (List (Mv P W))) :=
  (N.root, N.rootO ws) :: keys.flatMap (fun k => [(N.sig key 1 k, N.sigO ws key 1 k), (N.sig key 2 k, N.sigO ws key 2 k), (N.sig key 3 k, N.sigO ws key 3 k)])

theorem Run.Ways.boundX [DecidableEq W] (K : R.Ways ws keys key) (L : List (List (Mv P W))) (nd : L.Nodup) (h : ∀ l ∈ L, R.E l ∧ N.base 4 l = l) : L.length ≤ prodL ((N.fX ws key keys).map fun f => f.2.length) := by
  refine count_prod _ L nd (fun l hl f hf => ?_) fun l hl m hm e => ?_
  · rcases List.mem_cons.1 hf with rfl | hf
    · exact K.root_mem (h l hl).1
    · obtain ⟨k, _, hf⟩ := List.mem_flatMap.1 hf
      simp only [List.mem_cons, List.not_mem_nil, or_false] at hf
      rcases hf with rfl | rfl | rfl
      · exact K.sig_mem (by omega) k (h l hl).1
      · exact K.sig_mem (by omega) k (h l hl).1
      · exact K.sig_mem (by omega) k (h l hl).1
  · have r := root_eq (e _ List.mem_cons_self)
    have s : ∀ j, 1 ≤ j → j ≤ 3 → ∀ x, x ∈ N.S j l ↔ x ∈ N.S j m := by
      intro j j1 j3
      refine K.sig_eq j3 (h l hl).1 (h m hm).1 fun k hk => ?_
      have g : ∀ f, f ∈ [(N.sig key 1 k, N.sigO ws key 1 k), (N.sig key 2 k, N.sigO ws key 2 k), (N.sig key 3 k, N.sigO ws key 3 k)] → f.1 l = f.1 m := fun f hf => e f (List.mem_cons_of_mem _ (List.mem_flatMap.2 ⟨k, hk, hf⟩))
      have : j = 1 ∨ j = 2 ∨ j = 3 := by omega
      rcases this with rfl | rfl | rfl
      · exact g (N.sig key 1 k, N.sigO ws key 1 k) (by simp)
      · exact g (N.sig key 2 k, N.sigO ws key 2 k) (by simp)
      · exact g (N.sig key 3 k, N.sigO ws key 3 k) (by simp)
    have b := R.same_base (h l hl).1 (h m hm).1 r 4 (by omega) (by omega) fun j a b => s j a (by omega)
    rw [(h l hl).2, (h m hm).2] at b
    exact b

/-! ## the last part as a walk -/

/-- the move by which a place was left since all but the last counters were touched -/
def Net.ch (N : Net P W) : List (Mv P W) → P → Option (Mv P W)
  | [], _ => none
  | m :: t, p => if 3 ≤ N.kpm m then (if N.src m = p then some m else Net.ch N t p) else none

omit [DecidableEq P] in
theorem Net.base_mid (N : Net P W) (i : Nat) : ∀ {l t : List (Mv P W)}, t <:+ l → N.base i l <:+ t → N.base i t = N.base i l
  | [], t, h, _ => by rw [List.suffix_nil.1 h]
  | m :: l, t, h, g => by
    rcases List.suffix_cons_iff.1 h with rfl | h
    · rfl
    · by_cases hm : i ≤ N.kpm m
      · rw [N.base_ge l hm] at g ⊢; exact base_mid N i h g
      · rw [N.base_lt l hm] at g
        have a := g.length_le; have b := h.length_le; simp at a; omega

omit [DecidableEq P] in
theorem Net.S_mid (N : Net P W) (i : Nat) (hi : i ≤ 9) : ∀ {l t : List (Mv P W)}, t <:+ l → N.base i l <:+ t → N.S i t <:+ N.S i l
  | [], t, h, _ => by rw [List.suffix_nil.1 h]; exact List.suffix_refl _
  | m :: l, t, h, g => by
    rcases List.suffix_cons_iff.1 h with rfl | h
    · exact List.suffix_refl _
    · by_cases hm : i ≤ N.kpm m
      · rw [N.base_ge l hm] at g
        have ih := S_mid N i hi h g
        cases m with
        | e o q => rw [N.S_e o q l hi]; exact ih
        | w x =>
          simp only [Net.kpm] at hm
          rcases Nat.lt_or_ge i (N.kp x) with c | c
          · rw [N.S_gt x l c]; exact ih
          · rw [N.S_eq x l (by omega)]; exact ih.trans (List.suffix_cons _ _)
      · rw [N.base_lt l hm] at g
        have a := g.length_le; have b := h.length_le; simp at a; omega

omit [DecidableEq P] in
/-- along the last part what one comes to again is never ahead -/
theorem Run.again (_ : Run N) {l t : List (Mv P W)} (h : t <:+ l) (g : N.base 3 l <:+ t) (d : Nat) (hd : d ≤ 3) : Lab.le d (N.lab t) (N.lab l) := by
  have b := N.base_mid 3 h g
  have c := N.S_mid 3 (by omega) h g
  have h1 := N.lab_base 3 (by omega) t
  have h2 := N.lab_base 3 (by omega) l
  have hs : ((N.S 3 t).map N.add).sum ≤ ((N.S 3 l).map N.add).sum := by
    obtain ⟨a, ha⟩ := c
    rw [← ha, List.map_append, List.sum_append]; omega
  intro j hj
  refine ⟨?_, fun x => ?_⟩
  · rcases Nat.lt_or_ge j 3 with k | k
    · rw [h1.1 j k, h2.1 j k, b]; exact Nat.le_refl _
    · have : j = 3 := by omega
      subst this
      rw [h1.2.1, h2.2.1, b]; omega
  · rw [h2.2.2 j (by omega), ← b, ← h1.2.2 j (by omega)]; exact x

omit [DecidableEq P] in
/-- along the last part each place is left but once -/
theorem Run.once (R : Run N) {n : Mv P W} {l t : List (Mv P W)} (hn : R.E (n :: l)) (h : t <:+ l) (ne : t ≠ l) (g : N.base 3 l <:+ t) : N.endp t ≠ N.endp l := by
  intro e
  have hl := (R.tl _ _ hn).1
  have s := R.suffix hl h
  by_cases ht : t = []
  · subst ht
    have g3 : N.base 3 l <:+ [] := g
    cases n with
    | w x => exact R.aw [] l x s.1 hl e (s.2.2 ne) hn (R.again h g3 _ (R.kw x l hn).2)
    | e o q =>
      obtain ⟨z, z1, z2, z3, z4, z5⟩ := R.ed [] l o q s.1 hl e (s.2.2 ne) hn
      refine R.un z (.e o q :: l) z1 hn z2 z4 z3 ?_
      rw [z4]
      exact Lab.le_trans z5 (R.again h g3 _ (R.d3 q))
  · exact R.un t l s.1 hl (.inr ht) e (s.2.2 ne) (R.again h g _ (R.d3 _))

theorem Run.ch_at (R : Run N) : ∀ {l : List (Mv P W)} {m : Mv P W} {t : List (Mv P W)}, R.E l → (m :: t) <:+ l → N.base 3 l <:+ t → N.ch l (N.endp t) = some m
  | [], m, t, _, h, _ => by have := List.suffix_nil.1 h; simp at this
  | n :: l, m, t, hl, h, g => by
    obtain ⟨el, _, xl⟩ := R.tl _ _ hl
    have lt : t.length < (n :: l).length := by have := h.length_le; simp at this ⊢; omega
    have kn : 3 ≤ N.kpm n := by
      refine Classical.byContradiction fun k => ?_
      rw [N.base_lt l k] at g
      have := g.length_le; omega
    rw [N.base_ge l kn] at g
    simp only [Net.ch, if_pos kn]
    rcases List.suffix_cons_iff.1 h with e | h
    · injection e with e1 e2
      subst e1; subst e2
      rw [if_pos xl]
    · have ne : N.endp t ≠ N.endp l := R.once hl ((List.suffix_cons m t).trans h) (fun e => by subst e; have := h.length_le; simp at this; omega) g
      rw [if_neg (fun e => ne (by rw [← e, xl]))]
      exact Run.ch_at R el h g

theorem split_at {α : Type} [DecidableEq α] : ∀ {l m z : List α}, z <:+ l → z <:+ m → l.length = m.length → l ≠ m → ∃ a b t, (a :: t) <:+ l ∧ (b :: t) <:+ m ∧ a ≠ b ∧ z <:+ t := by
  intro l m z
  induction l generalizing m with
  | nil => intro _ _ h ne; have : m = [] := List.length_eq_zero_iff.1 h.symm; subst this; exact absurd rfl ne
  | cons a l ih =>
    intro h1 h2 hl ne
    cases m with
    | nil => simp at hl
    | cons b m =>
      simp at hl
      by_cases e : l = m
      · subst e
        have hab : a ≠ b := fun e => ne (by rw [e])
        refine ⟨a, b, l, List.suffix_refl _, List.suffix_refl _, hab, ?_⟩
        rcases List.suffix_cons_iff.1 h1 with e1 | e1
        · rcases List.suffix_cons_iff.1 h2 with e2 | e2
          · rw [e1] at e2; injection e2 with e2 _; exact absurd e2 hab
          · exact e2
        · exact e1
      · have q1 : z <:+ l := by
          rcases List.suffix_cons_iff.1 h1 with e1 | e1
          · exfalso
            subst e1
            have := h2.eq_of_length (by simp [hl])
            exact ne this
          · exact e1
        have q2 : z <:+ m := by
          rcases List.suffix_cons_iff.1 h2 with e1 | e1
          · exfalso
            subst e1
            have := h1.eq_of_length (by simp [hl])
            exact ne this.symm
          · exact e1
        obtain ⟨c, d, t, h3, h4, h5, h6⟩ := ih q1 q2 hl e
        exact ⟨c, d, t, h3.trans (List.suffix_cons _ _), h4.trans (List.suffix_cons _ _), h5, h6⟩
end
end Go.Proofs.Yteklohamkmiphaa
