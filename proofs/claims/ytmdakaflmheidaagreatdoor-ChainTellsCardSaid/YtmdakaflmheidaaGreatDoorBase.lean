/- General words on worlds, slices and lists that all the walks of this seat use. Conditions: none; each lemma states its own. -/
import Derived.WalkKit
import Derived.Deep.QuietTactic
import Derived.BigQuiet
import Derived.Lib.Hide
import Derived.Deep.AppendLies
import Derived.Deep.Draws
import Derived.Deep.RegionHeld3
import Derived.Deep.DrawnRows
import Derived.Deep.RegionLaw
import Derived.StillTailTactics
import Derived.WalkLawsBesides
import Derived.WalkSpells
import Derived.Outline
import Derived.Handy
import Derived.Deep.DeepCutAuto
namespace Go.Proofs.YtmdakaflmheidaaGreatDoor
open Go.RowKit

/-! ### worlds -/
/-- w' is w with new blocks, at most -/
def Ext (w w' : World) : Prop := Below w.heap.size w w'
theorem Ext.refl (w : World) : Ext w w := Below.refl _ _
theorem Ext.size {w w' : World} (h : Ext w w') : w.heap.size ≤ w'.heap.size := Below.size h
theorem Ext.trans {a b c : World} (h : Ext a b) (k : Ext b c) : Ext a c := Below.trans h (Below.mono k h.size)
theorem Ext.drewN {a w : World} (h : Ext a w) (n : Nat) : Ext a (w.drewN n) := h.trans ⟨rfl, rfl, rfl, Nat.le_refl _, fun _ _ => rfl⟩
theorem Ext.drew {a w : World} (h : Ext a w) : Ext a w.drew := h.trans ⟨rfl, rfl, rfl, Nat.le_refl _, fun _ _ => rfl⟩
theorem Ext.alloc {a w : World} (h : Ext a w) (o : Obj) : Ext a (w.alloc o) := Below.alloc h h.size o
theorem Ext.set {a w : World} (h : Ext a w) {p : Addr} (hp : a.heap.size ≤ p.block) (u : Value) : Ext a (w.setCell p u) := Below.setCell h hp u
theorem Ext.grown {a w w' : World} {row : Option Nat} (h : Ext a w) (hg : w.grownBy w' row) (hr : ∀ k, row = some k → a.heap.size ≤ k) : Ext a w' := Below.grown h hg h.size hr
theorem Ext.cell {w w' : World} (h : Ext w w') {p : Addr} {u : Value} (hc : w.cell? p = some u) : w'.cell? p = some u :=
  (Below.cell h (World.block_lt_of_cell? w p hc)).trans hc
theorem Ext.heap {w w' : World} (h : Ext w w') {k : Nat} {o : Obj} (hc : w.heap[k]? = some o) : w'.heap[k]? = some o :=
  (Below.block h k (Array.getElem?_eq_some_iff.1 hc).1).trans hc
theorem drewN_drewN' (w : World) (a b : Nat) : (w.drewN a).drewN b = w.drewN (a + b) := World.drewN_drewN _ _ _

theorem add_add' (a : Addr) (i j : Nat) : (a.add i).add j = a.add (i + j) := by
  unfold Addr.add
  by_cases hi : i = 0 <;> by_cases hj : j = 0 <;> simp [hi, hj, Nat.add_assoc]
theorem block_add (a : Addr) (n : Nat) : (a.add n).block = a.block := by unfold Addr.add; split <;> rfl

/-! ### slices that are read -/
/-- the slice '.slice A n c' of elements of so many cells holds the cells xs -/
def Sl (w : World) (size : Nat) (A : Option Addr) (n c : Nat) (xs : List Value) : Prop :=
  xs.length = n * size ∧ n ≤ c ∧ c ≤ maxLen ∧ (A = none → c = 0) ∧ (0 < n → ∃ ad, A = some ad ∧ ∀ j u, xs[j]? = some u → w.cell? (ad.add j) = some u)

theorem Sl.ext {w w' : World} {size n c : Nat} {A : Option Addr} {xs : List Value} (h : Sl w size A n c xs) (e : Ext w w') : Sl w' size A n c xs :=
  ⟨h.1, h.2.1, h.2.2.1, h.2.2.2.1, fun hn => by obtain ⟨ad, h1, h2⟩ := h.2.2.2.2 hn; exact ⟨ad, h1, fun j u hu => e.cell (h2 j u hu)⟩⟩
theorem Sl.drewN {w : World} {size n c : Nat} {A : Option Addr} {xs : List Value} (h : Sl w size A n c xs) (k : Nat) : Sl (w.drewN k) size A n c xs := h
theorem Sl.drew {w : World} {size n c : Nat} {A : Option Addr} {xs : List Value} (h : Sl w size A n c xs) : Sl w.drew size A n c xs := h
theorem Sl.nil (w : World) (size : Nat) : Sl w size none 0 0 [] := ⟨by simp, Nat.le_refl _, Nat.zero_le _, fun _ => rfl, fun h => absurd h (by omega)⟩
theorem Sl.le {w : World} {size n c : Nat} {A : Option Addr} {xs : List Value} (h : Sl w size A n c xs) : n ≤ 9223372036854775807 := by
  have := h.2.1; have := h.2.2.1; unfold maxLen at *; omega
theorem Sl.cap {w : World} {size n c : Nat} {A : Option Addr} {xs : List Value} (h : Sl w size A n c xs) : n ≤ c ∧ c ≤ 9223372036854775807 := by
  have := h.2.1; have := h.2.2.1; unfold maxLen at *; omega
/-- 's[:k]' -/
theorem Sl.take {w : World} {size n c k : Nat} {A : Option Addr} {xs : List Value} (h : Sl w size A n c xs) (hk : k ≤ n) : Sl w size A k c (xs.take (k * size)) := by
  obtain ⟨h1, h2, h3, h4, h5⟩ := h
  refine ⟨?_, by omega, h3, h4, fun hn => ?_⟩
  · rw [List.length_take, h1]; exact Nat.min_eq_left (Nat.mul_le_mul_right _ hk)
  · obtain ⟨ad, e, hc⟩ := h5 (by omega)
    refine ⟨ad, e, fun j u hu => hc j u ?_⟩
    rw [List.getElem?_take] at hu
    split at hu
    · exact hu
    · cases hu
/-- 's[k:]' -/
theorem Sl.drop {w : World} {size n c k : Nat} {A : Option Addr} {xs : List Value} (h : Sl w size A n c xs) (hk : k ≤ n) :
    Sl w size (if c = k then A else A.map (·.add (k * size))) (n - k) (c - k) (xs.drop (k * size)) := by
  obtain ⟨h1, h2, h3, h4, h5⟩ := h
  refine ⟨by rw [List.length_drop, h1, Nat.sub_mul], by omega, by omega, fun hA => ?_, fun hn => ?_⟩
  · split at hA
    · omega
    · cases A with
      | none => have := h4 rfl; omega
      | some a => simp at hA
  · obtain ⟨ad, e, hc⟩ := h5 (by omega)
    subst e
    rw [if_neg (by omega)]
    refine ⟨_, rfl, fun j u hu => ?_⟩
    rw [add_add']
    exact hc _ u (by rw [← hu, List.getElem?_drop])

/-! ### slices that the call itself has made -/
/-- the slice '.slice A n c' (elements of type e, so many cells each) owns the cells xs: it has no room at all, or lies at the head of a block from 'base' on -/
def Own (w : World) (base : Nat) (e : TypeId) (size : Nat) (A : Option Addr) (n c : Nat) (xs : List Value) : Prop :=
  xs.length = n * size ∧
  ((c = 0 ∧ n = 0) ∨
   ∃ g cur, A = some ⟨g, 0, none⟩ ∧ base ≤ g ∧ w.heap[g]? = some (.cells cur e (0, 0)) ∧ n ≤ c ∧ c ≤ maxLen ∧ cur.size = c * size ∧ cur.toList.take (n * size) = xs)
/-- the block that may be written through it -/
def blk : Option Addr → Nat → Option Nat
  | some a, _ + 1 => some a.block
  | _, _ => none
theorem blk_zero (A : Option Addr) : blk A 0 = none := by cases A <;> rfl

theorem Own.nil (w : World) (base : Nat) (e : TypeId) (size : Nat) : Own w base e size none 0 0 [] := ⟨by simp, .inl ⟨rfl, rfl⟩⟩
theorem Own.empty (w : World) (base : Nat) (e : TypeId) (size : Nat) (A : Option Addr) : Own w base e size A 0 0 [] := ⟨by simp, .inl ⟨rfl, rfl⟩⟩
theorem Own.of_row {w : World} {base : Nat} {e : TypeId} {size : Nat} {v : Value} {n : Nat} {xs : List Value} (h : w.ownsRow base e size v n xs) : ∃ A c, v = .slice A n c ∧ Own w base e size A n c xs := by
  rcases h.2 with ⟨rfl, rfl⟩ | ⟨g, cap, cur, rfl, r⟩
  · exact ⟨none, 0, rfl, h.1, .inl ⟨rfl, rfl⟩⟩
  · exact ⟨_, cap, rfl, h.1, .inr ⟨g, cur, rfl, r⟩⟩
section
variable {w w' : World} {base base' : Nat} {e : TypeId} {size : Nat} {A : Option Addr} {n c : Nat} {xs : List Value}
theorem Own.le (h : Own w base e size A n c xs) : n ≤ c ∧ c ≤ 9223372036854775807 := by
  rcases h.2 with ⟨h1, h2⟩ | ⟨g, cur, _, _, _, h1, h2, _⟩
  · omega
  · unfold maxLen at h2; omega
theorem Own.mono (h : Own w base e size A n c xs) (hb : base' ≤ base) : Own w base' e size A n c xs := by
  refine ⟨h.1, ?_⟩
  rcases h.2 with h2 | ⟨g, cur, hv, hg, r⟩
  · exact .inl h2
  · exact .inr ⟨g, cur, hv, by omega, r⟩
theorem Own.lt (h : Own w base e size A n c xs) : ∀ k, blk A c = some k → base ≤ k ∧ k < w.heap.size := by
  intro k hk
  rcases h.2 with ⟨rfl, _⟩ | ⟨g, cur, rfl, hb, hg, _⟩
  · simp [blk_zero] at hk
  · cases c with
    | zero => simp [blk] at hk
    | succ c =>
      simp [blk] at hk
      subst hk
      exact ⟨hb, (Array.getElem?_eq_some_iff.1 hg).1⟩
/-- it shares no block with what lies below its base -/
theorem Own.ne (h : Own w base e size A n c xs) {k : Nat} (hk : k < base) : blk A c ≠ some k := fun e => by have := (h.lt k e).1; omega
theorem Own.kept {row : Option Nat} (h : Own w base e size A n c xs) (hg : w.grownBy w' row) (hne : blk A c = none ∨ blk A c ≠ row) : Own w' base e size A n c xs := by
  refine ⟨h.1, ?_⟩
  rcases h.2 with hn | ⟨g, cur, rfl, hb, hgg, rest⟩
  · exact .inl hn
  · cases c with
    | zero =>
      obtain ⟨h1, _⟩ := rest
      exact .inl ⟨rfl, by omega⟩
    | succ c =>
      refine .inr ⟨g, cur, rfl, hb, ?_, rest⟩
      rw [hg.block g (Array.getElem?_eq_some_iff.1 hgg).1 (by simpa [blk] using hne)]
      exact hgg
theorem Own.ext (h : Own w base e size A n c xs) (x : Ext w w') : Own w' base e size A n c xs := by
  refine ⟨h.1, ?_⟩
  rcases h.2 with hn | ⟨g, cur, rfl, hb, hgg, rest⟩
  · exact .inl hn
  · exact .inr ⟨g, cur, rfl, hb, x.heap hgg, rest⟩
theorem Own.drewN (h : Own w base e size A n c xs) (k : Nat) : Own (w.drewN k) base e size A n c xs := h
theorem Own.drew (h : Own w base e size A n c xs) : Own w.drew base e size A n c xs := h
theorem Own.alloc (h : Own w base e size A n c xs) (o : Obj) : Own (w.alloc o) base e size A n c xs := h.ext ((Ext.refl w).alloc o)
/-- a store elsewhere -/
theorem Own.far (h : Own w base e size A n c xs) {p : Addr} (hp : blk A c ≠ some p.block) (u : Value) : Own (w.setCell p u) base e size A n c xs := by
  refine ⟨h.1, ?_⟩
  rcases h.2 with hn | ⟨g, cur, rfl, hb, hgg, rest⟩
  · exact .inl hn
  · cases c with
    | zero =>
      obtain ⟨h1, _⟩ := rest
      exact .inl ⟨rfl, by omega⟩
    | succ c =>
      refine .inr ⟨g, cur, rfl, hb, ?_, rest⟩
      rw [Below.heap_setCell _ _ _ _ (by intro e; exact hp (by simp [blk, e]))]
      exact hgg
/-- it is read as any slice -/
theorem Own.sl (h : Own w base e size A n c xs) : Sl w size A n c xs := by
  obtain ⟨h1, h2⟩ := h
  rcases h2 with ⟨rfl, rfl⟩ | ⟨g, cur, rfl, hb, hg, hnc, hcm, hcs, htake⟩
  · have : xs = [] := List.eq_nil_of_length_eq_zero (by simpa using h1)
    subst this
    exact ⟨by simp, Nat.le_refl _, Nat.zero_le _, fun _ => rfl, fun h => absurd h (by omega)⟩
  · refine ⟨h1, hnc, hcm, (fun h => nomatch h), fun _ => ⟨_, rfl, fun j u hu => ?_⟩⟩
    have hadd : (⟨g, 0, none⟩ : Addr).add j = ⟨g, j, none⟩ := by unfold Addr.add; split <;> simp_all
    rw [hadd, cell_of_row w g j cur e (0, 0) hg]
    rw [← htake, List.getElem?_take] at hu
    split at hu
    · simpa using hu
    · cases hu
end

theorem Own.form {w : World} {base : Nat} {e : TypeId} {size : Nat} {A : Option Addr} {n c : Nat} {xs : List Value} (h : Own w base e size A n c xs) (hn : 0 < n) :
    ∃ g, A = some ⟨g, 0, none⟩ ∧ blk A c = some g ∧ base ≤ g ∧ g < w.heap.size ∧ (∀ j u, xs[j]? = some u → w.cell? ⟨g, j, none⟩ = some u) ∧ ∀ j, w.frozen? ⟨g, j, none⟩ = false := by
  obtain ⟨h1, h2⟩ := h
  rcases h2 with ⟨rfl, rfl⟩ | ⟨g, cur, rfl, hb, hg, hnc, hcm, hcs, htake⟩
  · omega
  · obtain ⟨c, rfl⟩ : ∃ k, c = k + 1 := ⟨c - 1, by omega⟩
    refine ⟨g, rfl, rfl, hb, (Array.getElem?_eq_some_iff.1 hg).1, fun j u hu => ?_, fun j => by simp [World.frozen?, hg]⟩
    rw [cell_of_row w g j cur e (0, 0) hg]
    rw [← htake, List.getElem?_take] at hu
    split at hu
    · simpa using hu
    · cases hu
theorem Own.put {w : World} {base : Nat} {e : TypeId} {size g n c : Nat} {xs : List Value} (h : Own w base e size (some ⟨g, 0, none⟩) n c xs) (k : Nat) (u : Value) : Own (w.setCell ⟨g, k, none⟩ u) base e size (some ⟨g, 0, none⟩) n c (xs.set k u) := by
  obtain ⟨h1, h2⟩ := h
  refine ⟨by simpa using h1, ?_⟩
  rcases h2 with h2 | ⟨g', cur, e', hb, hg, hnc, hcm, hcs, htake⟩
  · exact .inl h2
  · cases e'
    refine .inr ⟨g, cur.setIfInBounds k u, rfl, hb, ?_, hnc, hcm, by simpa using hcs, ?_⟩
    · simp [World.setCell, Array.getElem?_modify, hg]
    · rw [Array.toList_setIfInBounds, ← htake, List.take_set]

/-! ### blocks that are known whole -/
def Bk (w : World) (g : Nat) (t : TypeId) (cs : Array Value) : Prop := w.heap[g]? = some (.cells cs t (0, 0))
theorem Bk.lt {w : World} {g : Nat} {t : TypeId} {cs : Array Value} (h : Bk w g t cs) : g < w.heap.size := (Array.getElem?_eq_some_iff.1 h).1
theorem Bk.cell {w : World} {g : Nat} {t : TypeId} {cs : Array Value} (h : Bk w g t cs) (i : Nat) : w.cell? ⟨g, i, none⟩ = cs[i]? := cell_of_row w g i cs t (0, 0) h
theorem Bk.free {w : World} {g : Nat} {t : TypeId} {cs : Array Value} (h : Bk w g t cs) (i : Nat) : w.frozen? ⟨g, i, none⟩ = false := by
  unfold Bk at h
  simp [World.frozen?, h]
theorem Bk.new (w : World) (t : TypeId) (cs : Array Value) : Bk (w.alloc (.cells cs t)) w.heap.size t cs := heap_alloc_new w _
theorem Bk.at {w : World} {g : Nat} {t : TypeId} {cs : Array Value} (hg : g = w.heap.size) : Bk (w.alloc (.cells cs t)) g t cs := hg ▸ heap_alloc_new w _
theorem Bk.drewN {w : World} {g : Nat} {t : TypeId} {cs : Array Value} (h : Bk w g t cs) (n : Nat) : Bk (w.drewN n) g t cs := h
theorem Bk.drew {w : World} {g : Nat} {t : TypeId} {cs : Array Value} (h : Bk w g t cs) : Bk w.drew g t cs := h
theorem Bk.alloc {w : World} {g : Nat} {t : TypeId} {cs : Array Value} (h : Bk w g t cs) (o : Obj) : Bk (w.alloc o) g t cs := (Below.heap_alloc w o g h.lt).trans h
theorem Bk.set {w : World} {g : Nat} {t : TypeId} {cs : Array Value} (h : Bk w g t cs) (i : Nat) (u : Value) : Bk (w.setCell ⟨g, i, none⟩ u) g t (cs.setIfInBounds i u) := by
  unfold Bk at h ⊢
  simp [World.setCell, Array.getElem?_modify, h]
theorem Bk.far {w : World} {g : Nat} {t : TypeId} {cs : Array Value} (h : Bk w g t cs) {p : Addr} (hp : g ≠ p.block) (u : Value) : Bk (w.setCell p u) g t cs := (Below.heap_setCell w p u g hp).trans h
theorem Bk.ext {w w' : World} {g : Nat} {t : TypeId} {cs : Array Value} (h : Bk w g t cs) (x : Ext w w') : Bk w' g t cs := x.heap h
theorem Bk.below {w w' : World} {B g : Nat} {t : TypeId} {cs : Array Value} (h : Bk w g t cs) (hb : Below B w w') (hg : g < B) : Bk w' g t cs := (hb.block g hg).trans h
theorem Bk.grown {w w' : World} {g : Nat} {t : TypeId} {cs : Array Value} {row : Option Nat} (h : Bk w g t cs) (hb : w.grownBy w' row) (hg : row ≠ some g) : Bk w' g t cs := (hb.block g h.lt (Ne.symm hg)).trans h
theorem cell_below {w w' : World} {B : Nat} (hb : Below B w w') {p : Addr} {u : Value} (hc : w.cell? p = some u) (hp : p.block < B) : w'.cell? p = some u := (hb.cell hp).trans hc
theorem cell_grown {w w' : World} {row : Option Nat} (hb : w.grownBy w' row) {p : Addr} {u : Value} (hc : w.cell? p = some u) (hp : row ≠ some p.block) : w'.cell? p = some u := hb.cell hc (Ne.symm hp)

/-- a struct of two cells that is stored -/
theorem Bk.set2 {w : World} {g : Nat} {t : TypeId} {a b : Value} (h : Bk w g t #[a, b]) (u v : Value) :
    ((w.setCell ⟨g, 0, none⟩ u).setCell ⟨g, 1, none⟩ v).cell? ⟨g, 0, none⟩ = some u ∧ ((w.setCell ⟨g, 0, none⟩ u).setCell ⟨g, 1, none⟩ v).cell? ⟨g, 1, none⟩ = some v := by
  have bb := (h.set 0 u).set 1 v
  exact ⟨bb.cell 0, bb.cell 1⟩
theorem Bk.set3 {w : World} {g : Nat} {t : TypeId} {a b c : Value} (h : Bk w g t #[a, b, c]) (u v x : Value) :
    (((w.setCell ⟨g, 0, none⟩ u).setCell ⟨g, 1, none⟩ v).setCell ⟨g, 2, none⟩ x).cell? ⟨g, 0, none⟩ = some u ∧ (((w.setCell ⟨g, 0, none⟩ u).setCell ⟨g, 1, none⟩ v).setCell ⟨g, 2, none⟩ x).cell? ⟨g, 1, none⟩ = some v ∧
      (((w.setCell ⟨g, 0, none⟩ u).setCell ⟨g, 1, none⟩ v).setCell ⟨g, 2, none⟩ x).cell? ⟨g, 2, none⟩ = some x := by
  have bb := ((h.set 0 u).set 1 v).set 2 x
  exact ⟨bb.cell 0, bb.cell 1, bb.cell 2⟩

/-! ### append -/
/-- what the table of types says of a slice type t with elements e -/
structure Elem (P : Program) (t e size bytes : Nat) (z : Value) : Prop where
  under : P.underlying t = some (.slice e)
  info : (P.info? e).map (fun i => (i.zero, i.size, i.bytes)) = some (some z, size, bytes)
  zsize : z.cells.size = size
  pos : 0 < size

theorem run_append_nothing {P : Program} (w : World) {t ty e size bytes : Nat} {z : Value} (E : Elem P t e size bytes z) (A : Option Addr) (n c : Nat) (hn : n ≤ c) (B : Option Addr) (c' : Nat) :
    (Builtin.append_ #[t, t] ty #[.slice A n c, .slice B 0 c']).run P w = .ok (.slice A n c) w := by
  obtain ⟨i, hi, hz, hs, hb⟩ := info_parts E.info
  cases A <;> cases B <;> simp [Builtin.append_, run_underlying E.under, sizeOf, typeInfo, hi, Builtin.lenOf, Builtin.firstCells, hn, storeCells, loadCells, loadCellsFrom]

theorem run_append_gen {P : Program} (w : World) {t ty e size bytes : Nat} {z : Value} (E : Elem P t e size bytes z) (base : Nat)
    (A0 : Option Addr) (n c0 : Nat) (xs : List Value) (hown : Own w base e size A0 n c0 xs)
    (A : Option Addr) (m c : Nat) (news : List Value) (hr : Sl w size A m c news) (h1 : ∀ u ∈ news, u.oneCell' = true)
    (hbytes : (n + m) * bytes ≤ 140737488355328) (hb1 : 0 < bytes) (hbase : base ≤ w.heap.size) :
    ∃ A' c' w', (Builtin.append_ #[t, t] ty #[.slice A0 n c0, .slice A m c]).run P w = .ok (.slice A' (n + m) c') w' ∧ Own w' base e size A' (n + m) c' (xs ++ news) ∧ w.grownBy w' (blk A0 c0) ∧
      (blk A' c' = blk A0 c0 ∨ blk A' c' = some w.heap.size) := by
  obtain ⟨i, hi, hz, hs, hby⟩ := info_parts E.info
  have h63 : n + m ≤ maxLen := by
    have : n + m ≤ (n + m) * bytes := Nat.le_mul_of_pos_right _ hb1
    unfold maxLen; omega
  rcases Nat.eq_zero_or_pos m with hm | hm
  · subst hm
    have hnews : news = [] := List.eq_nil_of_length_eq_zero (by simpa using hr.1)
    subst hnews
    exact ⟨_, _, w, run_append_nothing w E A0 n c0 hown.le.1 A c, by simpa using hown, World.grownBy.refl w _, .inl rfl⟩
  · obtain ⟨ad, rfl, hcells⟩ := hr.2.2.2.2 hm
    rcases hown.2 with ⟨rfl, rfl⟩ | ⟨g, cur, rfl, hb, hg, hnc, hcm, hcs, htake⟩
    · have hx : xs = [] := List.eq_nil_of_length_eq_zero (by simpa using hown.1)
      subst hx
      have hge := grownCap_ge w (0 + m) 0 e
      have hcm : grownCap w (0 + m) 0 e ≤ maxLen := grownCap_le_maxLen w (0 + m) 0 e h63
      obtain ⟨kk, hk⟩ : ∃ k, grownCap w (0 + m) 0 e = k + 1 := ⟨_, (Nat.succ_pred_eq_of_pos (by omega)).symm⟩
      have hfin : Own (w.drew.alloc (.cells ((#[] : Array Value) ++ news.toArray ++ Builtin.zeroCells z.cells (grownCap w (0 + m) 0 e - (0 + m))) e)) base e size (some ⟨w.heap.size, 0, none⟩) (0 + m) (grownCap w (0 + m) 0 e) ([] ++ news) := by
        refine ⟨by simpa using hr.1, .inr ⟨w.heap.size, _, rfl, hbase, heap_alloc_new w.drew _, hge, hcm, ?_, ?_⟩⟩
        · simp only [Array.size_append, List.size_toArray, size_zeroCells, E.zsize, hr.1, List.length_nil, Nat.zero_add, ← Nat.add_mul]
          congr 1
          simp only [Nat.zero_add] at hge
          omega
        · have hlen : ([] ++ news).length = (0 + m) * size := by simpa using hr.1
          simp only [Array.toList_append, List.append_assoc]
          rw [← List.append_assoc, ← hlen]
          exact List.take_left
      cases A0 with
      | none =>
        have hr2 := run_append_nil (P := P) w t ty e i z E.under hi hz ad m c news (by rw [hs]; exact hr.1) hcells hm (by unfold maxLen at h63; omega) (by rw [hby]; simp only [Nat.zero_add] at hbytes; omega)
        simp only [Nat.zero_add, List.nil_append, Array.empty_append] at hfin hk ⊢
        refine ⟨_, _, _, hr2, hfin, ⟨rfl, rfl, rfl, by simp, fun k hk _ => Below.heap_alloc w.drew _ k hk⟩, .inr ?_⟩
        rw [hk]; rfl
      | some b =>
        have hr2 := run_append_grow (P := P) w t ty e i z E.under hi hz b 0 0 [] (by simp) (by simp) ad m c news (by rw [hs]; exact hr.1) hcells (by omega) (by unfold maxLen at h63; omega) (by rw [hby]; exact growslice_fits (by omega) hbytes)
        refine ⟨_, _, _, hr2, hfin, ⟨rfl, rfl, rfl, by simp, fun k hk _ => Below.heap_alloc w.drew _ k hk⟩, .inr ?_⟩
        rw [hk]; rfl
    · have hown' : w.ownsRow base e size (.slice (some ⟨g, 0, none⟩) n c0) n xs := ⟨hown.1, .inr ⟨g, c0, cur, rfl, hb, hg, hnc, hcm, hcs, htake⟩⟩
      have hlen : (xs ++ news).length = (n + m) * size := by rw [List.length_append, hown.1, hr.1, Nat.add_mul]
      by_cases hroom : n + m ≤ c0
      · have hfit : n * i.size + news.length ≤ cur.size := by rw [hr.1, hcs, hs, ← Nat.add_mul]; exact Nat.mul_le_mul_right _ hroom
        have hr2 := run_append_room (P := P) w t ty e i E.under hi g n c0 cur hg ad m c news (by rw [hs]; exact hr.1) hcells h1 hroom hfit
        refine ⟨_, _, _, hr2, ⟨hlen, .inr ⟨g, _, rfl, hb, setRow_heap w g cur _ e _ hg, hroom, hcm, ?_, ?_⟩⟩, ⟨rfl, rfl, rfl, by simp, fun k _ hk => setRow_other w g k _ (fun e' => hk (by
          obtain ⟨c1, rfl⟩ : ∃ c1, c0 = c1 + 1 := ⟨c0 - 1, by omega⟩
          simp [blk, e']))⟩, .inl rfl⟩
        · simp only [List.size_toArray, List.length_append, List.length_take, List.length_drop, Array.length_toList]
          omega
        · rw [hs, htake, ← hlen]
          exact List.take_left
      · have holds : ∀ j u, xs[j]? = some u → w.cell? ((⟨g, 0, none⟩ : Addr).add j) = some u := hown'.cells (g := g) rfl
        have hr2 := run_append_grow (P := P) w t ty e i z E.under hi hz ⟨g, 0, none⟩ n c0 xs (by rw [hs]; exact hown.1) holds ad m c news (by rw [hs]; exact hr.1) hcells (by omega) (by unfold maxLen at h63; omega) (by rw [hby]; exact growslice_fits (by omega) hbytes)
        have hge := grownCap_ge w (n + m) c0 e
        have hcm : grownCap w (n + m) c0 e ≤ maxLen := grownCap_le_maxLen w (n + m) c0 e h63
        refine ⟨_, _, _, hr2, ⟨hlen, .inr ⟨w.heap.size, _, rfl, hbase, heap_alloc_new w.drew _, hge, hcm, ?_, ?_⟩⟩, ⟨rfl, rfl, rfl, by simp, fun k hk _ => Below.heap_alloc w.drew _ k hk⟩, .inr ?_⟩
        · simp only [Array.size_append, List.size_toArray, size_zeroCells, E.zsize, hr.1, hown.1, ← Nat.add_mul]
          congr 1
          omega
        · simp only [Array.toList_append, List.append_assoc]
          rw [← List.append_assoc, ← hlen]
          exact List.take_left
        · obtain ⟨kk, hk⟩ : ∃ k, grownCap w (n + m) c0 e = k + 1 := ⟨_, (Nat.succ_pred_eq_of_pos (by omega)).symm⟩
          rw [hk]; rfl

theorem wp_append_gen {P : Program} (w : World) {o : Oper} {a : Act} {K : Act → World → Prop} {Q : Exit → Act → World → Prop} {t e size bytes : Nat} {z : Value} (E : Elem P t e size bytes z) (base : Nat) (s x : Operand)
    (ho : o.op = .call { callee := .builtin .append, args := #[s, x], argTypes := #[t, t] })
    (A0 : Option Addr) (n c0 : Nat) (xs : List Value) (hs : a.eval s = .slice A0 n c0) (hown : Own w base e size A0 n c0 xs)
    (A : Option Addr) (m c : Nat) (news : List Value) (hx : a.eval x = .slice A m c) (hr : Sl w size A m c news) (h1 : ∀ u ∈ news, u.oneCell' = true)
    (hbytes : (n + m) * bytes ≤ 140737488355328) (hb1 : 0 < bytes) (hbase : base ≤ w.heap.size)
    (h : ∀ A' c' w', Own w' base e size A' (n + m) c' (xs ++ news) → w.grownBy w' (blk A0 c0) → (blk A' c' = blk A0 c0 ∨ blk A' c' = some w.heap.size) → K (a.put o.dst (.slice A' (n + m) c')) w') : o.wp P a w K Q := by
  obtain ⟨A', c', w', hrun, h2, h3, h4⟩ := run_append_gen (P := P) (ty := o.type) w E base A0 n c0 xs hown A m c news hr h1 hbytes hb1 hbase
  unfold Oper.wp execOp
  simp only [ho, resolve, invoke, builtin, Sem.run_bind, Sem.run_pure, Result.andThen_ok, List.map_toArray, List.map_cons, List.map_nil, hs, hx, hrun]
  exact h A' c' w' h2 h3 h4

/-- append, in a plain region -/
theorem wpList_append_gen {P : Program} (w : World) {ops : Array Oper} {rest : List Oper} {o : Oper} {a : Act} {Q : Exit → Act → World → Prop} {t e size bytes : Nat} {z : Value} (E : Elem P t e size bytes z) (base : Nat) (s x : Operand)
    (ho : o.op = .call { callee := .builtin .append, args := #[s, x], argTypes := #[t, t] }) (hgd : o.guard = none)
    (A0 : Option Addr) (n c0 : Nat) (xs : List Value) (hs : a.eval s = .slice A0 n c0) (hown : Own w base e size A0 n c0 xs)
    (A : Option Addr) (m c : Nat) (news : List Value) (hx : a.eval x = .slice A m c) (hr : Sl w size A m c news) (h1 : ∀ u ∈ news, u.oneCell' = true)
    (hbytes : (n + m) * bytes ≤ 140737488355328) (hb1 : 0 < bytes) (hbase : base ≤ w.heap.size)
    (h : ∀ A' c' w', Own w' base e size A' (n + m) c' (xs ++ news) → w.grownBy w' (blk A0 c0) → (blk A' c' = blk A0 c0 ∨ blk A' c' = some w.heap.size) → wpList P ops Q rest (a.put o.dst (.slice A' (n + m) c')) w') : wpList P ops Q (o :: rest) a w :=
  wpList_plain hgd fun _ hK => wp_append_gen w E base s x ho A0 n c0 xs hs hown A m c news hx hr h1 hbytes hb1 hbase fun A' c' w' h2 h3 h4 => hK _ _ (h A' c' w' h2 h3 h4)

/-- append, at a step of a region that draws its order -/
theorem step_append_gen {P : Program} (w : World) {ops : Array Oper} {o : Oper} {a : Act} {K : Act → World → Prop} {Q : Exit → Act → World → Prop} {F : Prop} {t e size bytes : Nat} {z : Value} (E : Elem P t e size bytes z) (base : Nat) (s x : Operand)
    (ho : o.op = .call { callee := .builtin .append, args := #[s, x], argTypes := #[t, t] }) (hgd : o.guard = none)
    (A0 : Option Addr) (n c0 : Nat) (xs : List Value) (hs : a.eval s = .slice A0 n c0) (hown : Own w base e size A0 n c0 xs)
    (A : Option Addr) (m c : Nat) (news : List Value) (hx : a.eval x = .slice A m c) (hr : Sl w size A m c news) (h1 : ∀ u ∈ news, u.oneCell' = true)
    (hbytes : (n + m) * bytes ≤ 140737488355328) (hb1 : 0 < bytes) (hbase : base ≤ w.heap.size)
    (h : ∀ A' c' w', Own w' base e size A' (n + m) c' (xs ++ news) → w.grownBy w' (blk A0 c0) → (blk A' c' = blk A0 c0 ∨ blk A' c' = some w.heap.size) → K (a.put o.dst (.slice A' (n + m) c')) w') :
    if Region.wanted o (yielded ops a.tmps) = true then Oper.wp P o a w K Q else F := by
  have hw : Region.wanted o (yielded ops a.tmps) = true := by simp [Region.wanted, hgd]
  rw [if_pos hw]
  exact wp_append_gen w E base s x ho A0 n c0 xs hs hown A m c news hx hr h1 hbytes hb1 hbase h

/-- a block just made, read as a slice of one element -/
theorem Sl.one (w : World) (cs : Array Value) (t : TypeId) (size : Nat) (hs : cs.size = size) : Sl (w.alloc (.cells cs t)) size (some ⟨w.heap.size, 0, none⟩) 1 1 cs.toList := by
  refine ⟨by simp [hs], Nat.le_refl _, by unfold maxLen; omega, (fun h => nomatch h), fun _ => ⟨_, rfl, fun j u hu => ?_⟩⟩
  have hadd : (⟨w.heap.size, 0, none⟩ : Addr).add j = ⟨w.heap.size, j, none⟩ := by unfold Addr.add; split <;> simp_all
  rw [hadd, cell_of_row _ w.heap.size j cs t (0, 0) (heap_alloc_new w _)]
  simpa using hu

/-! ### ends -/
theorem ret_bool {a b : Bool} (h : a = b) : Ending.returned (.bool a) = Ending.returned (.bool b) := by rw [h]
theorem ret_int {k : IntKind} {a b : Int} (h : a = b) : Ending.returned (.int k a) = Ending.returned (.int k b) := by rw [h]

/-! ### lists of numbers -/
def U32 (l : List Int) : Prop := ∀ x ∈ l, 0 ≤ x ∧ x ≤ 4294967295
def wds (l : List Int) : List Value := l.map (Value.int .u32)
theorem wds_one (l : List Int) : ∀ u ∈ wds l, u.oneCell' = true := by
  intro u hu
  obtain ⟨x, _, rfl⟩ := List.mem_map.1 hu
  rfl
theorem wds_append (a b : List Int) : wds a ++ wds b = wds (a ++ b) := by simp [wds]
theorem wds_take (l : List Int) (k : Nat) : (wds l).take k = wds (l.take k) := by simp [wds]
theorem wds_drop (l : List Int) (k : Nat) : (wds l).drop k = wds (l.drop k) := by simp [wds]
theorem wds_len (l : List Int) : (wds l).length = l.length := by simp [wds]
theorem Sl.wlen {w : World} {n c : Nat} {A : Option Addr} {l : List Int} (h : Sl w 1 A n c (wds l)) : l.length = n := by simpa [wds] using h.1
theorem Sl.word {w : World} {n c : Nat} {A : Option Addr} {l : List Int} (h : Sl w 1 A n c (wds l)) {k : Nat} (hk : k < n) :
    ∃ ad, A = some ad ∧ w.cell? (ad.add k) = some (.int .u32 (l.getD k 0)) ∧ ad.block < w.heap.size := by
  obtain ⟨ad, h1, h2⟩ := h.2.2.2.2 (by omega)
  have hl := h.wlen
  have hc := h2 k (.int .u32 (l.getD k 0)) ?_
  · exact ⟨ad, h1, hc, by simpa [block_add] using World.block_lt_of_cell? w _ hc⟩
  simp [wds, List.getElem?_map, List.getD_eq_getElem?_getD, List.getElem?_eq_getElem (show k < l.length by omega)]
theorem U32.getD {l : List Int} (h : U32 l) (k : Nat) : 0 ≤ l.getD k 0 ∧ l.getD k 0 ≤ 4294967295 := by
  rw [List.getD_eq_getElem?_getD]
  by_cases hk : k < l.length
  · rw [List.getElem?_eq_getElem hk]; exact h _ (List.getElem_mem hk)
  · rw [List.getElem?_eq_none (by omega)]; simp
theorem U32.at {l : List Int} (h : U32 l) (k : Nat) : 0 ≤ l[k]?.getD 0 ∧ l[k]?.getD 0 ≤ 4294967295 := by
  have := h.getD k
  rwa [List.getD_eq_getElem?_getD] at this
theorem wds_set_last (l : List Int) (K : Nat) (v : Int) (h0 : 0 < K) (h : K ≤ l.length) : (wds (l.take K)).set (K - 1) (.int .u32 v) = wds (l.take (K - 1) ++ [v]) := by
  obtain ⟨k, rfl⟩ : ∃ k, K = k + 1 := ⟨K - 1, by omega⟩
  rw [List.take_succ_eq_append_getElem (by omega)]
  simp only [wds, Nat.add_sub_cancel, List.map_append, List.map_cons, List.map_nil]
  have : (List.map (Value.int IntKind.u32) (List.take k l)).length = k := by simp; omega
  rw [List.set_append_right _ _ (by omega), this]
  simp
theorem take_succ_getD (l : List Int) (k : Nat) (h : k < l.length) : l.take (k + 1) = l.take k ++ [l.getD k 0] := by
  rw [List.take_succ_eq_append_getElem h, List.getD_eq_getElem?_getD, List.getElem?_eq_getElem h]; rfl

end Go.Proofs.YtmdakaflmheidaaGreatDoor
