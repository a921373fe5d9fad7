/- The Book's lists: what it means that each has memory of its own; what stays under writes to some blocks. penstockref00's own functions at no lists at all. penstock/penstockref00.ownRow: it says so of lists that have memory of their own. penstock/penstockref00.ownCounteds: it says so of lists that have memory of their own. penstock/penstockref00.ownBytes: it says so of lists that have memory of their own. penstockref00.Book: Row, Bytes, Counteds. penstockref00.Book: Counteds, Own. Conditions: each theorem states its own. -/
import Derived.Test.YtngeioghihbkeaaDoorTwo
import Derived.Test.YtngeioghihbkeaaDoorBytes
import Derived.Test.YtngeioghihbkeaaDoorRowL
import Derived.Deep.LoopGhost
import Derived.Test.YtngeioghihbkeaaDoorSumAll
namespace Go.Proofs.YtngeioghihbkeaaDoor
open Go.RowKit

/-! ### writes to some blocks -/
/-- w' is w but for the blocks that S tells, and new ones -/
structure Upd (S : Nat → Prop) (w w' : World) : Prop where
  os : w'.os = w.os
  tape : w'.tape = w.tape
  output : w'.output = w.output
  size : w.heap.size ≤ w'.heap.size
  block : ∀ k, k < w.heap.size → ¬ S k → w'.heap[k]? = w.heap[k]?
theorem Upd.refl (S : Nat → Prop) (w : World) : Upd S w w := ⟨rfl, rfl, rfl, Nat.le_refl _, fun _ _ _ => rfl⟩
theorem Upd.ext {S : Nat → Prop} {w w' : World} (x : Ext w w') : Upd S w w' := ⟨Below.os x, Below.tape x, Below.output x, Ext.size x, fun k hk _ => Below.block x k hk⟩
theorem Upd.mono {S T : Nat → Prop} {w w' : World} (h : Upd S w w') (hs : ∀ k, k < w.heap.size → S k → T k) : Upd T w w' := ⟨h.os, h.tape, h.output, h.size, fun k hk hn => h.block k hk (fun q => hn (hs k hk q))⟩
theorem Upd.trans {S : Nat → Prop} {a b c : World} (h : Upd S a b) (k : Upd S b c) : Upd S a c :=
  ⟨k.os.trans h.os, k.tape.trans h.tape, k.output.trans h.output, Nat.le_trans h.size k.size, fun q hq hn => (k.block q (Nat.lt_of_lt_of_le hq h.size) hn).trans (h.block q hq hn)⟩
theorem Upd.setCell {S : Nat → Prop} {a w : World} (h : Upd S a w) {p : Addr} (hp : S p.block ∨ a.heap.size ≤ p.block) (u : Value) : Upd S a (w.setCell p u) := by
  refine ⟨h.os, h.tape, h.output, by simpa using h.size, fun k hk hn => ?_⟩
  rw [Below.heap_setCell _ _ _ _ (fun e => by
    rcases hp with hp | hp
    · exact hn (e ▸ hp)
    · omega)]
  exact h.block k hk hn
theorem Upd.alloc {S : Nat → Prop} {a w : World} (h : Upd S a w) (o : Obj) : Upd S a (w.alloc o) := h.trans (Upd.ext ((Ext.refl w).alloc o))
theorem Upd.grown {S : Nat → Prop} {a w w' : World} {row : Option Nat} (h : Upd S a w) (g : w.grownBy w' row) (hr : ∀ k, row = some k → S k ∨ a.heap.size ≤ k) : Upd S a w' :=
  ⟨g.os.trans h.os, g.tape.trans h.tape, g.output.trans h.output, Nat.le_trans h.size g.size, fun k hk hn => (g.block k (Nat.lt_of_lt_of_le hk h.size) (fun e => by
    rcases hr k e.symm with q | q
    · exact hn q
    · omega)).trans (h.block k hk hn)⟩
theorem cell_of_heap {w w' : World} {p : Addr} (h : w'.heap[p.block]? = w.heap[p.block]?) : w'.cell? p = w.cell? p := by unfold World.cell?; rw [h]
theorem Upd.cell {S : Nat → Prop} {w w' : World} (h : Upd S w w') {p : Addr} {u : Value} (hn : ¬ S p.block) (hc : w.cell? p = some u) : w'.cell? p = some u :=
  (cell_of_heap (h.block p.block (World.block_lt_of_cell? w p hc) hn)).trans hc
theorem Sl.upd {S : Nat → Prop} {w w' : World} {size n c : Nat} {A : Option Addr} {xs : List Value} (h : Sl w size A n c xs) (x : Upd S w w') (hn : ∀ k, blk A c = some k → ¬ S k) : Sl w' size A n c xs := by
  refine ⟨h.1, h.2.1, h.2.2.1, h.2.2.2.1, fun h0 => ?_⟩
  obtain ⟨ad, rfl, hc⟩ := h.2.2.2.2 h0
  refine ⟨ad, rfl, fun j u hu => x.cell ?_ (hc j u hu)⟩
  rw [block_add]
  refine hn ad.block ?_
  have := h.2.1
  cases c with
  | zero => omega
  | succ c => rfl
theorem Own.upd {S : Nat → Prop} {w w' : World} {B size n c : Nat} {e : TypeId} {A : Option Addr} {xs : List Value} (h : Own w B e size A n c xs) (x : Upd S w w') (hn : ∀ k, blk A c = some k → ¬ S k) : Own w' B e size A n c xs := by
  refine ⟨h.1, ?_⟩
  rcases h.2 with hz | ⟨g, cur, rfl, hb, hg, rest⟩
  · exact .inl hz
  · cases c with
    | zero =>
      obtain ⟨h1, _⟩ := rest
      exact .inl ⟨rfl, by omega⟩
    | succ c =>
      refine .inr ⟨g, cur, rfl, hb, ?_, rest⟩
      rw [x.block g (Array.getElem?_eq_some_iff.1 hg).1 (hn g rfl)]
      exact hg
/-! ### lists of lists -/
/-- a slice's header -/
structure En where
  A : Option Addr
  n : Nat
  c : Nat
def En.v (x : En) : Value := .slice x.A x.n x.c
def En.b (x : En) : Option Nat := blk x.A x.c
def En.zero : En := ⟨none, 0, 0⟩
def ensC (L : List En) : List Value := L.map En.v
theorem ensC_len (L : List En) : (ensC L).length = L.length := List.length_map ..
theorem ensC_one (L : List En) : ∀ u ∈ ensC L, u.oneCell' = true := fun u hu => by obtain ⟨x, _, rfl⟩ := List.mem_map.1 hu; rfl
theorem ensC_append (L M : List En) : ensC (L ++ M) = ensC L ++ ensC M := List.map_append
def ena (L : List En) (i : Nat) : En := L.getD i En.zero
theorem ensC_at {L : List En} {i : Nat} (h : i < L.length) : (ensC L)[i]? = some (ena L i).v := by
  unfold ensC ena
  rw [List.getElem?_map, List.getD_eq_getElem?_getD, List.getElem?_eq_getElem h]
  rfl
theorem ens_cell {w : World} {A : Option Addr} {n c : Nat} {L : List En} (h : Sl w 1 A n c (ensC L)) {i : Nat} (hi : i < n) : ∃ ad, A = some ad ∧ w.cell? (ad.add i) = some (ena L i).v := by
  have hl := h.1
  rw [ensC_len, Nat.mul_one] at hl
  obtain ⟨ad, e, hc⟩ := h.2.2.2.2 (by omega)
  exact ⟨ad, e, hc i _ (ensC_at (by omega))⟩
theorem ena_append_old {L : List En} {x : En} {i : Nat} (h : i < L.length) : ena (L ++ [x]) i = ena L i := by
  unfold ena
  rw [List.getD_eq_getElem?_getD, List.getElem?_append_left h, List.getD_eq_getElem?_getD]
theorem ena_append_new (L : List En) (x : En) : ena (L ++ [x]) L.length = x := by
  unfold ena
  rw [List.getD_eq_getElem?_getD, List.getElem?_append_right (Nat.le_refl _), Nat.sub_self]
  rfl
section
variable (mk : Int → Nat → List Value) (size : Nat)
/-- so many marks -/
def marks_ (i : Int) (n : Nat) : List Value := (List.range n).flatMap (mk i)
variable {mk size}
theorem marks_zero (i : Int) : marks_ mk i 0 = [] := rfl
theorem marks_succ (i : Int) (n : Nat) : marks_ mk i (n + 1) = marks_ mk i n ++ mk i n := by
  unfold marks_
  rw [List.range_succ, List.flatMap_append, List.flatMap_singleton]
theorem marks_len (hs : ∀ i k, (mk i k).length = size) (i : Int) : ∀ n, (marks_ mk i n).length = n * size
  | 0 => by simp [marks_]
  | n + 1 => by rw [marks_succ, List.length_append, marks_len hs i n, hs, Nat.succ_mul]
theorem marks_at' (hs : ∀ i k, (mk i k).length = size) (i : Int) {q : Nat} (hq : q < size) : ∀ (n k : Nat), k < n → (marks_ mk i n)[k * size + q]? = (mk i k)[q]?
  | 0, k, h => by omega
  | n + 1, k, h => by
    rw [marks_succ]
    by_cases hk : k < n
    · rw [List.getElem?_append_left, marks_at' hs i hq n k hk]
      rw [marks_len hs]
      have : (k + 1) * size ≤ n * size := Nat.mul_le_mul_right _ hk
      rw [Nat.succ_mul] at this
      omega
    · have e : k = n := by omega
      subst e
      rw [List.getElem?_append_right (by rw [marks_len hs]; omega), marks_len hs, Nat.add_sub_cancel_left]
end
/-- the lists, each in a block of its own that lies from B on -/
structure Lists (w : World) (B : Nat) (e : TypeId) (size : Nat) (L : List En) (f : Nat → List Value) : Prop where
  own : ∀ i, i < L.length → Own w B e size (ena L i).A (ena L i).n (ena L i).c (f i)
  apart : ∀ i j, i < L.length → j < L.length → i ≠ j → ∀ k, (ena L i).b = some k → (ena L j).b ≠ some k
/-- the blocks that the lists lie in -/
def Foot (L : List En) (k : Nat) : Prop := ∃ i, i < L.length ∧ (ena L i).b = some k
theorem Lists.foot_lt {w : World} {B : Nat} {e : TypeId} {size : Nat} {L : List En} {f : Nat → List Value} (h : Lists w B e size L f) {k : Nat} (hk : Foot L k) : B ≤ k ∧ k < w.heap.size := by
  obtain ⟨i, hi, hb⟩ := hk
  exact (h.own i hi).lt k hb
theorem Lists.upd {S : Nat → Prop} {w w' : World} {B : Nat} {e : TypeId} {size : Nat} {L : List En} {f : Nat → List Value} (h : Lists w B e size L f) (x : Upd S w w') (hn : ∀ k, Foot L k → ¬ S k) : Lists w' B e size L f :=
  ⟨fun i hi => (h.own i hi).upd x (fun k hk => hn k ⟨i, hi, hk⟩), h.apart⟩
theorem Lists.nil (w : World) (B : Nat) (e : TypeId) (size : Nat) (f : Nat → List Value) : Lists w B e size [] f := ⟨fun i hi => by simp at hi, fun i j hi => by simp at hi⟩
/-! ### the first phase: marks are written -/
structure Ph1 (mk : Int → Nat → List Value) (w wr : World) (B : Nat) (e : TypeId) (size : Nat) (L : List En) (i : Nat) (f : Nat → List Value) : Prop where
  ls : Lists wr B e size L f
  done : ∀ j, j < i → j < L.length → f j = marks_ mk j (ena L j).n
  upd : Upd (Foot L) w wr
/-- within an entry -/
structure Ph1I (mk : Int → Nat → List Value) (w wr : World) (B : Nat) (e : TypeId) (size : Nat) (L : List En) (i k : Nat) (f : Nat → List Value) : Prop where
  ph : Ph1 mk w wr B e size L i f
  part : (f i).take (k * size) = marks_ mk i k
theorem Ph1.enter {mk : Int → Nat → List Value} {w wr : World} {B : Nat} {e : TypeId} {size : Nat} {L : List En} {i : Nat} {f : Nat → List Value} (h : Ph1 mk w wr B e size L i f) : Ph1I mk w wr B e size L i 0 f := ⟨h, by rw [Nat.zero_mul]; rfl⟩
theorem Ph1I.leave {mk : Int → Nat → List Value} {w wr : World} {B : Nat} {e : TypeId} {size : Nat} {L : List En} {i : Nat} {f : Nat → List Value} (h : Ph1I mk w wr B e size L i (ena L i).n f) (hi : i < L.length) : Ph1 mk w wr B e size L (i + 1) f := by
  refine ⟨h.ph.ls, fun j hj hjl => ?_, h.ph.upd⟩
  by_cases hij : j < i
  · exact h.ph.done j hij hjl
  · have : j = i := by omega
    subst this
    have hl := (h.ph.ls.own j hi).1
    have := h.part
    rwa [← hl, List.take_length] at this
/-- a store into one of the lists -/
theorem Lists.put {w : World} {B : Nat} {e : TypeId} {size : Nat} {L : List En} {f : Nat → List Value} (h : Lists w B e size L f) {i g : Nat} (hi : i < L.length) (hA : (ena L i).A = some ⟨g, 0, none⟩) (hc : 0 < (ena L i).c) (q : Nat) (u : Value) :
    Lists (w.setCell ⟨g, q, none⟩ u) B e size L (fun j => if j = i then (f i).set q u else f j) := by
  have hb : (ena L i).b = some g := by
    unfold En.b
    rw [hA]
    generalize (ena L i).c = c at hc
    cases c with
    | zero => omega
    | succ c => rfl
  refine ⟨fun j hj => ?_, h.apart⟩
  by_cases hji : j = i
  · subst hji
    rw [if_pos rfl]
    have o := h.own j hi
    rw [hA] at o ⊢
    exact o.put q u
  · rw [if_neg hji]
    exact (h.own j hj).far (p := ⟨g, q, none⟩) (fun e => h.apart i j hi hj (Ne.symm hji) g hb e) u
theorem set_take {xs : List Value} {k : Nat} (h : k < xs.length) (u : Value) : (xs.set k u).take (k + 1) = xs.take k ++ [u] := by
  rw [List.take_succ_eq_append_getElem (by rw [List.length_set]; exact h), List.take_set_of_le (Nat.le_refl k), List.getElem_set_self]
theorem Ph1I.put1 {mk : Int → Nat → List Value} {w wr : World} {B : Nat} {e : TypeId} {L : List En} {i k g : Nat} {f : Nat → List Value} (h : Ph1I mk w wr B e 1 L i k f) (hi : i < L.length) (hk : k < (ena L i).n) (hA : (ena L i).A = some ⟨g, 0, none⟩) (hm : (ena L i).b = some g) {u : Value} (hu : mk i k = [u]) :
    ∃ f', Ph1I mk w (wr.setCell ⟨g, k, none⟩ u) B e 1 L i (k + 1) f' := by
  have hl := (h.ph.ls.own i hi).1
  have hc : 0 < (ena L i).c := by have := (h.ph.ls.own i hi).le.1; omega
  refine ⟨_, ⟨h.ph.ls.put hi hA hc k u, fun j hj hjl => ?_, h.ph.upd.setCell (.inl ⟨i, hi, hm⟩) u⟩, ?_⟩
  · rw [if_neg (by omega)]
    exact h.ph.done j hj hjl
  · rw [if_pos rfl, Nat.mul_one, set_take (by rw [hl]; omega), marks_succ, hu]
    have := h.part
    rw [Nat.mul_one] at this
    rw [this]
theorem Ph1I.put2 {mk : Int → Nat → List Value} {w wr : World} {B : Nat} {e : TypeId} {L : List En} {i k g : Nat} {f : Nat → List Value} (h : Ph1I mk w wr B e 2 L i k f) (hi : i < L.length) (hk : k < (ena L i).n) (hA : (ena L i).A = some ⟨g, 0, none⟩) (hm : (ena L i).b = some g) {u v : Value} (hu : mk i k = [u, v]) :
    ∃ f', Ph1I mk w ((wr.setCell ⟨g, k * 2, none⟩ u).setCell ⟨g, k * 2 + 1, none⟩ v) B e 2 L i (k + 1) f' := by
  have hl := (h.ph.ls.own i hi).1
  have hc : 0 < (ena L i).c := by have := (h.ph.ls.own i hi).le.1; omega
  refine ⟨_, ⟨(h.ph.ls.put hi hA hc (k * 2) u).put hi hA hc (k * 2 + 1) v, fun j hj hjl => ?_, (h.ph.upd.setCell (.inl ⟨i, hi, hm⟩) u).setCell (.inl ⟨i, hi, hm⟩) v⟩, ?_⟩
  · rw [if_neg (by omega), if_neg (by omega)]
    exact h.ph.done j hj hjl
  · rw [if_pos rfl, if_pos rfl, show (k + 1) * 2 = k * 2 + 1 + 1 by omega, set_take (by rw [List.length_set, hl]; omega), set_take (by rw [hl]; omega), h.part, marks_succ, hu, List.append_assoc]
    rfl
theorem Ph1I.put4 {mk : Int → Nat → List Value} {w wr : World} {B : Nat} {e : TypeId} {L : List En} {i k g : Nat} {f : Nat → List Value} (h : Ph1I mk w wr B e 4 L i k f) (hi : i < L.length) (hk : k < (ena L i).n) (hA : (ena L i).A = some ⟨g, 0, none⟩) (hm : (ena L i).b = some g) {u v x y : Value} (hu : mk i k = [u, v, x, y]) :
    ∃ f', Ph1I mk w ((((wr.setCell ⟨g, k * 4, none⟩ u).setCell ⟨g, k * 4 + 1, none⟩ v).setCell ⟨g, k * 4 + 2, none⟩ x).setCell ⟨g, k * 4 + 3, none⟩ y) B e 4 L i (k + 1) f' := by
  have hl := (h.ph.ls.own i hi).1
  have hc : 0 < (ena L i).c := by have := (h.ph.ls.own i hi).le.1; omega
  refine ⟨_, ⟨(((h.ph.ls.put hi hA hc (k * 4) u).put hi hA hc (k * 4 + 1) v).put hi hA hc (k * 4 + 2) x).put hi hA hc (k * 4 + 3) y, fun j hj hjl => ?_, (((h.ph.upd.setCell (.inl ⟨i, hi, hm⟩) u).setCell (.inl ⟨i, hi, hm⟩) v).setCell (.inl ⟨i, hi, hm⟩) x).setCell (.inl ⟨i, hi, hm⟩) y⟩, ?_⟩
  · rw [if_neg (by omega), if_neg (by omega), if_neg (by omega), if_neg (by omega)]
    exact h.ph.done j hj hjl
  · simp only [↓reduceIte]
    rw [show (k + 1) * 4 = k * 4 + 3 + 1 by omega, set_take (by simp only [List.length_set, hl]; omega), set_take (by simp only [List.length_set, hl]; omega), set_take (by simp only [List.length_set, hl]; omega), set_take (by rw [hl]; omega), h.part, marks_succ, hu]
    simp
/-! ### the second phase: each grows -/
structure Ph2 (mk : Int → Nat → List Value) (w1 wr : World) (B : Nat) (e T : TypeId) (size : Nat) (L : List En) (i : Nat) (G : List En) (LA : Option Addr) (lc : Nat) : Prop where
  len : G.length = i
  lst : Own wr w1.heap.size T 1 LA i lc (ensC G)
  rest : ∀ j, i ≤ j → j < L.length → Own wr B e size (ena L j).A (ena L j).n (ena L j).c (marks_ mk j (ena L j).n)
  read : ∀ j, j < i → Sl wr size (ena L j).A (ena L j).n (ena L j).c (marks_ mk j (ena L j).n)
  long : ∀ j, j < i → (ena G j).n = (ena L j).n + 8 ∧ Own wr B e size (ena G j).A (ena G j).n (ena G j).c (marks_ mk j (ena L j).n ++ marks_ mk (-1 - j) 8)
  at_ : ∀ j, j < i → ∀ k, (ena G j).b = some k → (ena L j).b = some k ∨ (w1.heap.size ≤ k ∧ blk LA lc ≠ some k)
  foot : ∀ k, Foot L k → k < w1.heap.size
  apart : ∀ i j, i < L.length → j < L.length → i ≠ j → ∀ k, (ena L i).b = some k → (ena L j).b ≠ some k
  upd : Upd (Foot L) w1 wr
theorem Ph2.start {mk : Int → Nat → List Value} {w wr : World} {B : Nat} {e : TypeId} {size : Nat} {L : List En} {f : Nat → List Value} (T : TypeId) (h : Ph1 mk w wr B e size L L.length f) : Ph2 mk wr wr B e T size L 0 [] none 0 :=
  ⟨rfl, Own.nil _ _ _ _, fun j _ hj => by have := h.ls.own j hj; rwa [h.done j hj hj] at this, fun j hj => by omega, fun j hj => by omega, fun j hj => by omega, fun k hk => (h.ls.foot_lt hk).2, h.ls.apart, Upd.refl _ _⟩
/-- within an entry: x is being grown -/
structure Ph2I (mk : Int → Nat → List Value) (w2 wr : World) (B : Nat) (e : TypeId) (size : Nat) (L : List En) (i k : Nat) (A : Option Addr) (c : Nat) : Prop where
  own : Own wr B e size A ((ena L i).n + k) c (marks_ mk i (ena L i).n ++ marks_ mk (-1 - i) k)
  at_ : (A = (ena L i).A ∧ c = (ena L i).c) ∨ ∃ q, blk A c = some q ∧ w2.heap.size ≤ q
  read : Sl wr size (ena L i).A (ena L i).n (ena L i).c (marks_ mk i (ena L i).n)
  lt : ∀ q, (ena L i).b = some q → q < w2.heap.size
  upd : Upd (fun q => (ena L i).b = some q) w2 wr
theorem Ph2.enter {mk : Int → Nat → List Value} {w1 wr : World} {B : Nat} {e T : TypeId} {size : Nat} {L : List En} {i : Nat} {G : List En} {LA : Option Addr} {lc : Nat} (h : Ph2 mk w1 wr B e T size L i G LA lc) (hi : i < L.length) : Ph2I mk wr wr B e size L i 0 (ena L i).A (ena L i).c := by
  have o := h.rest i (Nat.le_refl _) hi
  exact ⟨by rw [marks_zero, List.append_nil]; exact o, .inl ⟨rfl, rfl⟩, o.sl, fun q hq => (o.lt q hq).2, Upd.refl _ _⟩
theorem Ph2I.step {mk : Int → Nat → List Value} {w2 wr w3 : World} {B : Nat} {e : TypeId} {size : Nat} {L : List En} {i k : Nat} {A A3 : Option Addr} {c c3 : Nat} (h : Ph2I mk w2 wr B e size L i k A c) (hs : ∀ i k, (mk i k).length = size) (ob : Obj)
    (o3 : Own w3 B e size A3 ((ena L i).n + k + 1) c3 (marks_ mk i (ena L i).n ++ marks_ mk (-1 - i) k ++ mk (-1 - i) k)) (g3 : (wr.alloc ob).grownBy w3 (blk A c)) (x3 : (A3 = A ∧ c3 = c) ∨ (blk A3 c3 = some (wr.alloc ob).heap.size ∧ Ext (wr.alloc ob) w3)) : Ph2I mk w2 w3 B e size L i (k + 1) A3 c3 := by
  have hsz : w2.heap.size ≤ (wr.alloc ob).heap.size := Nat.le_trans h.upd.size ((Ext.refl wr).alloc ob).size
  have hin : ∀ q, blk A c = some q → (ena L i).b = some q ∨ w2.heap.size ≤ q := fun q hq => by
    rcases h.at_ with ⟨rfl, rfl⟩ | ⟨q', h1, h2⟩
    · exact .inl hq
    · rw [h1] at hq; injection hq with hq; exact .inr (by omega)
  refine ⟨by rw [marks_succ, ← List.append_assoc]; exact o3, ?_, ?_, h.lt, (h.upd.alloc ob).grown g3 hin⟩
  · rcases x3 with ⟨rfl, rfl⟩ | ⟨h1, _⟩
    · exact h.at_
    · exact .inr ⟨_, h1, hsz⟩
  · have key : A3 = (ena L i).A → c3 = (ena L i).c → Sl w3 size (ena L i).A (ena L i).n (ena L i).c (marks_ mk i (ena L i).n) := fun ea ec => by
      have := Sl.take (k := (ena L i).n) o3.sl (by omega)
      rw [List.append_assoc, List.take_left' (marks_len hs i _), ea, ec] at this
      exact this
    rcases x3 with ⟨rfl, rfl⟩ | ⟨h1, x⟩
    · rcases h.at_ with ⟨ea, ec⟩ | ⟨q', h1, h2⟩
      · exact key ea ec
      · refine Sl.upd (S := fun q => blk A3 c3 = some q) (h.read.ext ((Ext.refl wr).alloc ob)) ((Upd.refl _ _).grown g3 (fun k hk => .inl hk)) (fun q hq hq2 => ?_)
        rw [h1] at hq2
        injection hq2 with hq2
        have := h.lt q hq
        omega
    · exact (h.read.ext ((Ext.refl wr).alloc ob)).ext x
/-- the entry is done: it is put to the long ones -/
theorem Ph2.next {mk : Int → Nat → List Value} {w1 w2 wr w4 : World} {B : Nat} {e T : TypeId} {size : Nat} {L : List En} {i : Nat} {G : List En} {LA LA4 : Option Addr} {lc lc4 : Nat} {A : Option Addr} {c : Nat} (h : Ph2 mk w1 w2 B e T size L i G LA lc) (hi : i < L.length) (hx : Ph2I mk w2 wr B e size L i 8 A c) (ob : Obj)
    (o4 : Own w4 w1.heap.size T 1 LA4 (i + 1) lc4 (ensC G ++ [.slice A ((ena L i).n + 8) c])) (g4 : (wr.alloc ob).grownBy w4 (blk LA lc)) (x4 : (LA4 = LA ∧ lc4 = lc) ∨ (blk LA4 lc4 = some (wr.alloc ob).heap.size ∧ Ext (wr.alloc ob) w4)) : Ph2 mk w1 w4 B e T size L (i + 1) (G ++ [⟨A, (ena L i).n + 8, c⟩]) LA4 lc4 := by
  have hfi : ∀ q, (ena L i).b = some q → Foot L q := fun q hq => ⟨i, hi, hq⟩
  -- from w2 to w4 only entry i's block, and the long ones' list, have turned
  have hlt : ∀ q, blk LA lc = some q → w1.heap.size ≤ q ∧ q < w2.heap.size := fun q hq => h.lst.lt q hq
  have u4 : Upd (fun q => (ena L i).b = some q ∨ blk LA lc = some q) w2 w4 := ((hx.upd.mono (fun k _ q => Or.inl q)).alloc ob).grown g4 (fun k hk => .inl (.inr hk))
  have u5 : Upd (fun q => blk LA lc = some q) wr w4 := ((Upd.refl _ _).alloc ob).grown g4 (fun k hk => .inl hk)
  have nl : ∀ q, Foot L q → blk LA lc ≠ some q := fun q hq e1 => by have := h.foot q hq; have := (hlt q e1).1; omega
  have ni : ∀ j, j < L.length → j ≠ i → ∀ q, (ena L j).b = some q → ¬ ((ena L i).b = some q ∨ blk LA lc = some q) := fun j hj hji q hq e1 => by
    rcases e1 with e1 | e1
    · exact h.apart j i hj hi hji q hq e1
    · exact nl q ⟨j, hj, hq⟩ e1
  have hgl := h.len
  have hxb : ∀ q, blk A c = some q → (ena L i).b = some q ∨ w2.heap.size ≤ q := fun q hq => by
    rcases hx.at_ with ⟨rfl, rfl⟩ | ⟨q', h1, h2⟩
    · exact .inl hq
    · rw [h1] at hq; injection hq with hq; exact .inr (by omega)
  have hll : ∀ q, blk LA4 lc4 = some q → blk LA lc = some q ∨ wr.heap.size ≤ q := fun q hq => by
    rcases x4 with ⟨rfl, rfl⟩ | ⟨h1, _⟩
    · exact .inl hq
    · rw [h1] at hq; injection hq with hq; have := ((Ext.refl wr).alloc ob).size; exact .inr (by omega)
  refine ⟨by rw [List.length_append, hgl]; rfl, by rw [ensC_append]; exact o4, fun j hj hjl => (h.rest j (by omega) hjl).upd u4 (ni j hjl (by omega)), fun j hj => ?_, fun j hj => ?_, fun j hj q hq => ?_, h.foot, h.apart, ?_⟩
  · by_cases hji : j < i
    · exact (h.read j hji).upd u4 (ni j (by omega) (by omega))
    · obtain rfl : j = i := by omega
      exact hx.read.upd u5 (fun q hq => nl q (hfi q hq))
  · by_cases hji : j < i
    · rw [ena_append_old (by omega)]
      obtain ⟨h1, h2⟩ := h.long j hji
      refine ⟨h1, h2.upd u4 (fun q hq e1 => ?_)⟩
      rcases h.at_ j hji q hq with h3 | ⟨h3, h4⟩
      · exact ni j (by omega) (by omega) q h3 e1
      · rcases e1 with e1 | e1
        · have := h.foot q (hfi q e1); omega
        · exact h4 e1
    · obtain rfl : j = i := by omega
      have e1 : ena (G ++ [⟨A, (ena L j).n + 8, c⟩]) j = ⟨A, (ena L j).n + 8, c⟩ := by rw [← hgl]; exact ena_append_new G _
      rw [e1]
      refine ⟨rfl, hx.own.upd u5 (fun q hq e2 => ?_)⟩
      rcases hxb q hq with h3 | h3
      · exact nl q (hfi q h3) e2
      · have := (hlt q e2).2; omega
  · by_cases hji : j < i
    · rw [ena_append_old (by omega)] at hq
      rcases h.at_ j hji q hq with h3 | ⟨h3, h4⟩
      · exact .inl h3
      · refine .inr ⟨h3, fun e1 => ?_⟩
        rcases hll q e1 with h5 | h5
        · exact h4 h5
        · have := ((h.long j hji).2.lt q hq).2
          have := hx.upd.size
          omega
    · obtain rfl : j = i := by omega
      have e1 : ena (G ++ [⟨A, (ena L j).n + 8, c⟩]) j = ⟨A, (ena L j).n + 8, c⟩ := by rw [← hgl]; exact ena_append_new G _
      rw [e1] at hq
      rcases hxb q hq with h3 | h3
      · exact .inl h3
      · refine .inr ⟨Nat.le_trans h.upd.size h3, fun e2 => ?_⟩
        rcases hll q e2 with h5 | h5
        · have := (hlt q h5).2; omega
        · have := (hx.own.lt q hq).2; omega
  · have hd : ∀ q, q < w2.heap.size → (ena L i).b = some q → Foot L q := fun q _ hq => hfi q hq
    exact (h.upd.trans ((hx.upd.mono hd).alloc ob)).grown g4 (fun q hq => .inr (hlt q hq).1)
/-! ### reading elements -/
theorem addr_off (ad : Addr) (j q : Nat) (hq : 0 < q) : ad.add (j + q) = ⟨(ad.add j).block, (ad.add j).off + q, none⟩ := by
  rw [← add_add']
  unfold Addr.add
  rw [if_neg (by omega)]
theorem own_at1 {w : World} {n c : Nat} {A : Option Addr} {xs : List Value} (h : Sl w 1 A n c xs) {k : Nat} (hk : k < n) {l : List Value} {a : Value} (hl : l = [a]) (hx : ∀ q, q < 1 → xs[k * 1 + q]? = l[q]?) : ∃ ad, A = some ad ∧ w.cell? (ad.add k) = some a := by
  subst hl
  obtain ⟨ad, e, hc⟩ := h.2.2.2.2 (by omega)
  exact ⟨ad, e, hc k _ (by have := hx 0 (by omega); rwa [Nat.mul_one, Nat.add_zero] at this)⟩
theorem own_at2 {w : World} {n c : Nat} {A : Option Addr} {xs : List Value} (h : Sl w 2 A n c xs) {k : Nat} (hk : k < n) {l : List Value} {a b : Value} (hl : l = [a, b]) (hx : ∀ q, q < 2 → xs[k * 2 + q]? = l[q]?) :
    ∃ ad, A = some ad ∧ w.cell? (ad.add (k * 2)) = some a ∧ w.cell? ⟨(ad.add (k * 2)).block, (ad.add (k * 2)).off + 1, none⟩ = some b := by
  subst hl
  obtain ⟨ad, e, hc⟩ := h.2.2.2.2 (by omega)
  exact ⟨ad, e, hc _ _ (hx 0 (by omega)), by rw [← addr_off _ _ 1 (by omega)]; exact hc _ _ (hx 1 (by omega))⟩
theorem own_at4 {w : World} {n c : Nat} {A : Option Addr} {xs : List Value} (h : Sl w 4 A n c xs) {k : Nat} (hk : k < n) {l : List Value} {a b x y : Value} (hl : l = [a, b, x, y]) (hx : ∀ q, q < 4 → xs[k * 4 + q]? = l[q]?) :
    ∃ ad, A = some ad ∧ w.cell? (ad.add (k * 4)) = some a ∧ w.cell? ⟨(ad.add (k * 4)).block, (ad.add (k * 4)).off + 1, none⟩ = some b ∧ w.cell? ⟨(ad.add (k * 4)).block, (ad.add (k * 4)).off + 2, none⟩ = some x ∧ w.cell? ⟨(ad.add (k * 4)).block, (ad.add (k * 4)).off + 3, none⟩ = some y := by
  subst hl
  obtain ⟨ad, e, hc⟩ := h.2.2.2.2 (by omega)
  exact ⟨ad, e, hc _ _ (hx 0 (by omega)), by rw [← addr_off _ _ 1 (by omega)]; exact hc _ _ (hx 1 (by omega)), by rw [← addr_off _ _ 2 (by omega)]; exact hc _ _ (hx 2 (by omega)), by rw [← addr_off _ _ 3 (by omega)]; exact hc _ _ (hx 3 (by omega))⟩
end Go.Proofs.YtngeioghihbkeaaDoor
namespace Go.Proofs.YtngeioghihbkeaaDoor
open Go.RowKit

set_option maxRecDepth 100000 in
set_option maxHeartbeats 400000 in
theorem ownTexts_nil (w : World) : Calls Tryd.prog 70 #[.slice none 0 0] w fun e w' => e = .returned (.bool true) ∧ w = w' := by
  go_enter Tryd.func70, Tryd.ntmps70
  go_wp2
  refine wp_loop_rounds 1 ?_
  rw [rounds_succ]
  go_wp2
  refine wp_loop_rounds 1 ?_
  rw [rounds_succ]
  go_wp2
  refine wp_loop_rounds 1 ?_
  rw [rounds_succ]
  go_wp2
  go_ret
  exact ⟨rfl, rfl⟩
set_option maxRecDepth 100000 in
set_option maxHeartbeats 400000 in
theorem ownInts_nil (w : World) : Calls Tryd.prog 71 #[.slice none 0 0] w fun e w' => e = .returned (.bool true) ∧ w = w' := by
  go_enter Tryd.func71, Tryd.ntmps71
  go_wp2
  refine wp_loop_rounds 1 ?_
  rw [rounds_succ]
  go_wp2
  refine wp_loop_rounds 1 ?_
  rw [rounds_succ]
  go_wp2
  refine wp_loop_rounds 1 ?_
  rw [rounds_succ]
  go_wp2
  go_ret
  exact ⟨rfl, rfl⟩
set_option maxRecDepth 100000 in
set_option maxHeartbeats 400000 in
theorem ownWords_nil (w : World) : Calls Tryd.prog 72 #[.slice none 0 0] w fun e w' => e = .returned (.bool true) ∧ w = w' := by
  go_enter Tryd.func72, Tryd.ntmps72
  go_wp2
  refine wp_loop_rounds 1 ?_
  rw [rounds_succ]
  go_wp2
  refine wp_loop_rounds 1 ?_
  rw [rounds_succ]
  go_wp2
  refine wp_loop_rounds 1 ?_
  rw [rounds_succ]
  go_wp2
  go_ret
  exact ⟨rfl, rfl⟩
set_option maxRecDepth 100000 in
set_option maxHeartbeats 400000 in
theorem ownSorts_nil (w : World) : Calls Tryd.prog 74 #[.slice none 0 0] w fun e w' => e = .returned (.bool true) ∧ w = w' := by
  go_enter Tryd.func74, Tryd.ntmps74
  go_wp2
  refine wp_loop_rounds 1 ?_
  rw [rounds_succ]
  go_wp2
  refine wp_loop_rounds 1 ?_
  rw [rounds_succ]
  go_wp2
  refine wp_loop_rounds 1 ?_
  rw [rounds_succ]
  go_wp2
  go_ret
  exact ⟨rfl, rfl⟩
set_option maxRecDepth 100000 in
set_option maxHeartbeats 400000 in
theorem ownPairs_nil (w : World) : Calls Tryd.prog 75 #[.slice none 0 0] w fun e w' => e = .returned (.bool true) ∧ w = w' := by
  go_enter Tryd.func75, Tryd.ntmps75
  go_wp2
  refine wp_loop_rounds 1 ?_
  rw [rounds_succ]
  go_wp2
  refine wp_loop_rounds 1 ?_
  rw [rounds_succ]
  go_wp2
  refine wp_loop_rounds 1 ?_
  rw [rounds_succ]
  go_wp2
  go_ret
  exact ⟨rfl, rfl⟩
set_option maxRecDepth 100000 in
set_option maxHeartbeats 400000 in
theorem ownFaults_nil (w : World) : Calls Tryd.prog 76 #[.slice none 0 0] w fun e w' => e = .returned (.bool true) ∧ w = w' := by
  go_enter Tryd.func76, Tryd.ntmps76
  go_wp2
  refine wp_loop_rounds 1 ?_
  rw [rounds_succ]
  go_wp2
  refine wp_loop_rounds 1 ?_
  rw [rounds_succ]
  go_wp2
  refine wp_loop_rounds 1 ?_
  rw [rounds_succ]
  go_wp2
  go_ret
  exact ⟨rfl, rfl⟩
set_option maxRecDepth 100000 in
set_option maxHeartbeats 400000 in
theorem ownColumns_nil (w : World) : Calls Tryd.prog 77 #[.slice none 0 0] w fun e w' => e = .returned (.bool true) ∧ w = w' := by
  go_enter Tryd.func77, Tryd.ntmps77
  go_wp2
  refine wp_loop_rounds 1 ?_
  rw [rounds_succ]
  go_wp2
  refine wp_loop_rounds 1 ?_
  rw [rounds_succ]
  go_wp2
  refine wp_loop_rounds 1 ?_
  rw [rounds_succ]
  go_wp2
  go_ret
  exact ⟨rfl, rfl⟩
set_option maxRecDepth 100000 in
set_option maxHeartbeats 400000 in
theorem ownUpdates_nil (w : World) : Calls Tryd.prog 79 #[.slice none 0 0] w fun e w' => e = .returned (.bool true) ∧ w = w' := by
  go_enter Tryd.func79, Tryd.ntmps79
  go_wp2
  refine wp_loop_rounds 1 ?_
  rw [rounds_succ]
  go_wp2
  refine wp_loop_rounds 1 ?_
  rw [rounds_succ]
  go_wp2
  refine wp_loop_rounds 1 ?_
  rw [rounds_succ]
  go_wp2
  go_ret
  exact ⟨rfl, rfl⟩
set_option maxRecDepth 100000 in
set_option maxHeartbeats 400000 in
theorem ownTimes_nil (w : World) : Calls Tryd.prog 80 #[.slice none 0 0] w fun e w' => e = .returned (.bool true) ∧ w = w' := by
  go_enter Tryd.func80, Tryd.ntmps80
  go_wp2
  refine wp_loop_rounds 1 ?_
  rw [rounds_succ]
  go_wp2
  refine wp_loop_rounds 1 ?_
  rw [rounds_succ]
  go_wp2
  refine wp_loop_rounds 1 ?_
  rw [rounds_succ]
  go_wp2
  go_ret
  exact ⟨rfl, rfl⟩
set_option maxRecDepth 100000 in
set_option maxHeartbeats 400000 in
theorem ownExprs_nil (w : World) : Calls Tryd.prog 81 #[.slice none 0 0] w fun e w' => e = .returned (.bool true) ∧ w = w' := by
  go_enter Tryd.func81, Tryd.ntmps81
  go_wp2
  refine wp_loop_rounds 1 ?_
  rw [rounds_succ]
  go_wp2
  refine wp_loop_rounds 1 ?_
  rw [rounds_succ]
  go_wp2
  refine wp_loop_rounds 1 ?_
  rw [rounds_succ]
  go_wp2
  go_ret
  exact ⟨rfl, rfl⟩
set_option maxRecDepth 100000 in
set_option maxHeartbeats 400000 in
theorem ownRels_nil (w : World) : Calls Tryd.prog 82 #[.slice none 0 0] w fun e w' => e = .returned (.bool true) ∧ w = w' := by
  go_enter Tryd.func82, Tryd.ntmps82
  go_wp2
  refine wp_loop_rounds 1 ?_
  rw [rounds_succ]
  go_wp2
  refine wp_loop_rounds 1 ?_
  rw [rounds_succ]
  go_wp2
  refine wp_loop_rounds 1 ?_
  rw [rounds_succ]
  go_wp2
  go_ret
  exact ⟨rfl, rfl⟩
end Go.Proofs.YtngeioghihbkeaaDoor
namespace Go.Proofs.YtngeioghihbkeaaDoor
open Go.RowKit

def mkOwnRow (i : Int) (k : Nat) : List Value := [.int .u8 0, .bool false, .int .i64 (i * 1000 + (k : Int)), .string ⟨#[]⟩]
theorem mkOwnRow_len (i : Int) (k : Nat) : (mkOwnRow i k).length = 4 := rfl
theorem mkOwnRow_one (i : Int) (k : Nat) : ∀ u ∈ mkOwnRow i k, u.oneCell' = true := by intro u hu; simp [mkOwnRow] at hu; rcases hu with rfl | rfl | rfl | rfl <;> rfl
theorem elemL_OwnRow : Elem Tryd.prog 60 22 1 24 (.slice none 0 0) := ⟨by kernel_rfl, by kernel_rfl, rfl, by decide⟩
set_option maxRecDepth 100000 in
set_option maxHeartbeats 8000000 in
theorem ownRow_any (OA : Option Addr) (oc m B : Nat) (L : List En) (f : Nat → List Value) (w : World) (hm : Hid (m = L.length)) (hs : Hid (Sl w 1 OA m oc (ensC L))) (hl : Hid (Lists w B 91 4 L f)) (hf : Hid (∀ k, blk OA oc = some k → ¬ Foot L k ∧ k < w.heap.size)) (hm9 : m ≤ 10000) (hn : Hid (∀ i, i < L.length → (ena L i).n ≤ 1000000)) (hBw : Hid (B ≤ w.heap.size)) :
    Calls Tryd.prog 73 #[.slice OA m oc] w fun e w' => e = .returned (.bool true) ∧ Upd (Foot L) w w' := by
  have HP0 : Hid (Ph1 mkOwnRow w w B 91 4 L 0 f) := Lib.hid ⟨hl.out, fun j hj => by omega, Upd.refl _ _⟩
  have hcell : Hid (∀ (wr : World) (i : Nat), Upd (Foot L) w wr → i < m → ∃ ad, OA = some ad ∧ wr.cell? (ad.add i) = some (ena L i).v) := Lib.hid (fun wr i hu hi => ens_cell (hs.out.upd hu (fun k hk => (hf.out k hk).1)) hi)
  go_enter Tryd.func73, Tryd.ntmps73
  go_wp2
  go_loopg [3] m (fun z v wr => ∃ (i : Nat) (f : Nat → List Value), z = m - i ∧ i ≤ m ∧ v = .int .i64 i ∧ Hid (Ph1 mkOwnRow w wr B 91 4 L i f))
  case atStart => exact ⟨0, f, rfl, Nat.zero_le _, rfl, HP0⟩
  case round =>
    clear HP0
    obtain ⟨i, f, rfl, hi, rfl, HP⟩ := hrel
    obtain ⟨wo, hwo⟩ : ∃ wo : World, wo = wr := ⟨_, rfl⟩
    rw [← hwo] at HP ⊢
    clear hwo
    by_cases hlt : i < m
    · have hil : i < L.length := by rw [← hm.out]; exact hlt
      obtain ⟨ad, rfl, p0⟩ := hcell.out wo i HP.out.upd hlt
      have hn9 := hn.out i hil
      have HIL := Lib.hid hil
      obtain ⟨x, hx⟩ : ∃ x, ena L i = x := ⟨_, rfl⟩
      rw [hx] at p0 hn9
      obtain ⟨A, n, c⟩ := x
      have HXN : Hid ((ena L i).n = n) := Lib.hid (by rw [hx])
      have HX := Lib.hid hx
      clear hil hx
      replace p0 : wo.cell? (ad.add i) = some (.slice A n c) := p0
      replace hn9 : n ≤ 1000000 := hn9
      have HI := Lib.hid HP.out.enter
      go_wp2
      go_loopg [4] n (fun z v wi => ∃ (k : Nat) (f : Nat → List Value), z = n - k ∧ k ≤ n ∧ v = .int .i64 k ∧ Hid (Ph1I mkOwnRow w wi B 91 4 L i k f))
      case atStart => exact ⟨0, f, rfl, Nat.zero_le _, rfl, HI⟩
      case round =>
        clear HI
        obtain ⟨k, f, rfl, hk, rfl, HI⟩ := hrel
        obtain ⟨wi, hwi⟩ : ∃ wi : World, wi = wr := ⟨_, rfl⟩
        rw [← hwi] at HI ⊢
        clear hwi
        obtain ⟨ad2, e2, p1⟩ := hcell.out wi i HI.out.ph.upd hlt
        cases e2
        rw [HX.out] at p1
        replace p1 : wi.cell? (ad.add i) = some (.slice A n c) := p1
        by_cases hkn : k < n
        · have o1 := HI.out.ph.ls.own i HIL.out
          rw [HX.out] at o1
          obtain ⟨g, eA, hb, _, _, hc, hfz⟩ := o1.form (show 0 < n by omega)
          have hA : (ena L i).A = some ⟨g, 0, none⟩ := by rw [HX.out]; exact eA
          have hbm : (ena L i).b = some g := by unfold En.b; rw [HX.out]; exact hb
          have hfl : (f i).length = n * 4 := o1.1
          subst eA
          have q0 : wi.cell? ⟨g, k * 4, none⟩ = some ((f i)[k * 4]'(by omega)) := hc _ _ (List.getElem?_eq_getElem (by omega))
          have z0 := hfz (k * 4)
          have q1 : wi.cell? ⟨g, k * 4 + 1, none⟩ = some ((f i)[k * 4 + 1]'(by omega)) := hc _ _ (List.getElem?_eq_getElem (by omega))
          have z1 := hfz (k * 4 + 1)
          have q2 : wi.cell? ⟨g, k * 4 + 2, none⟩ = some ((f i)[k * 4 + 2]'(by omega)) := hc _ _ (List.getElem?_eq_getElem (by omega))
          have z2 := hfz (k * 4 + 2)
          have q3 : wi.cell? ⟨g, k * 4 + 3, none⟩ = some ((f i)[k * 4 + 3]'(by omega)) := hc _ _ (List.getElem?_eq_getElem (by omega))
          have z3 := hfz (k * 4 + 3)
          obtain ⟨f', hf'⟩ := HI.out.put4 HIL.out (by rw [HXN.out]; exact hkn) hA hbm (show mkOwnRow i k = [.int .u8 0, .bool false, .int .i64 ((i : Int) * 1000 + (k : Int)), .string ⟨#[]⟩] from rfl)
          have wz0 : IntKind.i64.wrap ((i : Int) * 1000) = (i : Int) * 1000 := by rw [IntKind.wrap_i64]; omega
          have wz1 : IntKind.i64.wrap ((i : Int) * 1000 + (k : Int)) = (i : Int) * 1000 + (k : Int) := by rw [IntKind.wrap_i64]; omega
          have HF := Lib.hid hf'
          clear hf' o1 hc hfz hb hA hbm
          go_wp2
          go_roundg (n - (k + 1))
          case measure => omega
          case rel => exact ⟨k + 1, f', rfl, by omega, by go_num, HF⟩
        · obtain rfl : k = n := by omega
          go_wp2
          go_roundg (m - (i + 1))
          case measure => omega
          case rel => exact ⟨i + 1, f, rfl, by omega, by go_num, Lib.hid ((show Ph1I mkOwnRow w wi B 91 4 L i (ena L i).n f from HXN.out ▸ HI.out).leave HIL.out)⟩
    · obtain rfl : i = m := by omega
      have HU1 := Lib.hid HP.out.upd
      have HQ0 : Hid (Ph2 mkOwnRow wo wo B 91 22 4 L 0 [] none 0) := Lib.hid (Ph2.start 22 (show Ph1 mkOwnRow w wo B 91 4 L L.length f from hm.out ▸ HP.out))
      have hcell2 : Hid (∀ (wr : World) (j : Nat), Upd (Foot L) wo wr → j < i → ∃ ad, OA = some ad ∧ wr.cell? (ad.add j) = some (ena L j).v) := Lib.hid (fun wr j hu hj => hcell.out wr j (HU1.out.trans hu) hj)
      clear HP
      go_wp2
      go_loopg [5, 6] i (fun z u v wr => ∃ (j : Nat) (G : List En) (LA : Option Addr) (lc : Nat), z = i - j ∧ j ≤ i ∧ v = .int .i64 j ∧ u = .slice LA j lc ∧ Hid (Ph2 mkOwnRow wo wr B 91 22 4 L j G LA lc))
      case atStart => exact ⟨0, [], none, 0, rfl, Nat.zero_le _, rfl, rfl, HQ0⟩
      case round =>
        clear HQ0
        obtain ⟨j, G, LA, lc, rfl, hj, rfl, rfl, HP⟩ := hrel
        obtain ⟨w2, hw2⟩ : ∃ w2 : World, w2 = wr := ⟨_, rfl⟩
        rw [← hw2] at HP ⊢
        clear hw2
        by_cases hlt2 : j < i
        · have hjl : j < L.length := by rw [← hm.out]; exact hlt2
          obtain ⟨ad, rfl, p0⟩ := hcell2.out w2 j HP.out.upd hlt2
          have hn9 := hn.out j hjl
          have HJL := Lib.hid hjl
          obtain ⟨x, hx⟩ : ∃ x, ena L j = x := ⟨_, rfl⟩
          rw [hx] at p0 hn9
          obtain ⟨A, n, c⟩ := x
          have HXN : Hid ((ena L j).n = n) := Lib.hid (by rw [hx])
          have HXA : Hid ((ena L j).A = A ∧ (ena L j).c = c) := Lib.hid (by rw [hx]; exact ⟨rfl, rfl⟩)
          clear hjl hx
          replace p0 : w2.cell? (ad.add j) = some (.slice A n c) := p0
          replace hn9 : n ≤ 1000000 := hn9
          have HI : Hid (Ph2I mkOwnRow w2 w2 B 91 4 L j 0 A c) := Lib.hid (by have := HP.out.enter HJL.out; rwa [HXA.out.1, HXA.out.2] at this)
          go_wp2
          go_loopg [7, 8] 8 (fun z u v wi => ∃ (k : Nat) (A' : Option Addr) (c' : Nat), z = 8 - k ∧ k ≤ 8 ∧ v = .int .i64 k ∧ u = .slice A' (n + k) c' ∧ Hid (Ph2I mkOwnRow w2 wi B 91 4 L j k A' c'))
          case atStart => exact ⟨0, A, c, rfl, Nat.zero_le _, rfl, rfl, HI⟩
          case round =>
            clear HI
            obtain ⟨k, A', c', rfl, hk, rfl, rfl, HI⟩ := hrel
            by_cases hk8 : k < 8
            · have wy : IntKind.i64.wrap (-1 - (j : Int)) = -1 - (j : Int) := by rw [IntKind.wrap_i64]; omega
              have wz0 : IntKind.i64.wrap ((-1 - (j : Int)) * 1000) = (-1 - (j : Int)) * 1000 := by rw [IntKind.wrap_i64]; omega
              have wz1 : IntKind.i64.wrap ((-1 - (j : Int)) * 1000 + (k : Int)) = (-1 - (j : Int)) * 1000 + (k : Int) := by rw [IntKind.wrap_i64]; omega
              have HO : Hid (Own wr B 91 4 A' (n + k) c' (marks_ mkOwnRow j (ena L j).n ++ marks_ mkOwnRow (-1 - j) k)) := Lib.hid (by have := HI.out.own; rwa [HXN.out] at this ⊢)
              have hB : B ≤ (wr.alloc (.cells (#[.int .u8 0, .bool false, .int .i64 ((-1 - (j : Int)) * 1000 + (k : Int)), .string ⟨#[]⟩] : Array Value) 91)).heap.size := by
                have h1 := HI.out.upd.size
                have h2 := ((Ext.refl wr).alloc (.cells (#[.int .u8 0, .bool false, .int .i64 ((-1 - (j : Int)) * 1000 + (k : Int)), .string ⟨#[]⟩] : Array Value) 91)).size
                have h3 := HP.out.upd.size
                have h4 := HU1.out.size
                have h5 := hBw.out
                omega
              go_wp2_with (at_builtin; go_loud (refine wpList_append_two _ elem_datum B _ _ rfl rfl A' (n + k) c' _ rfl (HO.out.alloc _) (some ⟨wr.heap.size, 0, none⟩) 1 1 (mkOwnRow (-1 - (j : Int)) k) rfl (Sl.one wr #[.int .u8 0, .bool false, .int .i64 ((-1 - (j : Int)) * 1000 + (k : Int)), .string ⟨#[]⟩] 91 4 rfl) (mkOwnRow_one _ _) (by omega) (by decide) hB ?_); intro A3 c3 w3 o3 g3 x3; have HN3 : Hid (Ph2I mkOwnRow w2 w3 B 91 4 L j (k + 1) A3 c3) := Lib.hid (HI.out.step mkOwnRow_len _ (by have := o3; rwa [← HXN.out] at this) g3 x3); clear o3 g3 x3)
              go_roundg (8 - (k + 1))
              case measure => omega
              case rel => exact ⟨k + 1, A3, c3, rfl, by omega, by go_num, rfl, HN3⟩
            · obtain rfl : k = 8 := by omega
              have hlst : ∀ wr : World, Ph2I mkOwnRow w2 wr B 91 4 L j 8 A' c' → Own wr wo.heap.size 22 1 LA j lc (ensC G) := fun wr h => HP.out.lst.upd h.upd (fun q hq e => by
                have h1 := HP.out.foot q ⟨j, HJL.out, e⟩
                have h2 := (HP.out.lst.lt q hq).1
                omega)
              go_wp2_with (at_builtin; go_loud (refine wpList_append_two _ elemL_OwnRow wo.heap.size _ _ rfl rfl LA j lc (ensC G) rfl ((hlst wr HI.out).alloc _) (some ⟨wr.heap.size, 0, none⟩) 1 1 [.slice A' (n + 8) c'] rfl (Sl.one wr #[.slice A' (n + 8) c'] 22 1 rfl) (ensC_one [⟨A', n + 8, c'⟩]) (by omega) (by decide) (by have h1 := HI.out.upd.size; have h2 := HP.out.upd.size; have h3 := ((Ext.refl wr).alloc (.cells (#[.slice A' (n + 8) c'] : Array Value) 22)).size; omega) ?_); intro LA4 lc4 w4 o4 g4 x4; have HN4 : Hid (Ph2 mkOwnRow wo w4 B 91 22 4 L (j + 1) (G ++ [⟨A', (ena L j).n + 8, c'⟩]) LA4 lc4) := Lib.hid (HP.out.next HJL.out HI.out _ (by have := o4; rwa [← HXN.out] at this) g4 x4); clear o4 g4 x4)
              go_roundg (i - (j + 1))
              case measure => omega
              case rel => exact ⟨j + 1, _, LA4, lc4, rfl, by omega, by go_num, rfl, HN4⟩
        · obtain rfl : j = i := by omega
          have hjm : j = L.length := hm.out
          have hG : ∀ t, t < j → ∃ ad, LA = some ad ∧ w2.cell? (ad.add t) = some (ena G t).v := fun t ht => ens_cell HP.out.lst.sl ht
          have HG := Lib.hid hG
          clear hG hjm
          go_wp2
          go_loopg [9] j (fun z v wr => ∃ t : Nat, z = j - t ∧ t ≤ j ∧ v = .int .i64 t ∧ Hid (wr = w2))
          case atStart => exact ⟨0, rfl, Nat.zero_le _, rfl, Lib.hid rfl⟩
          case round =>
            obtain ⟨t, rfl, ht, rfl, HW⟩ := hrel
            have hW := HW.out
            subst hW
            by_cases htj : t < j
            · have htl : t < L.length := by rw [← hm.out]; exact htj
              obtain ⟨ad, rfl, p0⟩ := hcell2.out wr t HP.out.upd htj
              obtain ⟨ad2, rfl, p1⟩ := HG.out t htj
              have hn9 := hn.out t htl
              have hrd := HP.out.read t htj
              obtain ⟨hln, hlo⟩ := HP.out.long t htj
              obtain ⟨x, hx⟩ : ∃ x, ena L t = x := ⟨_, rfl⟩
              obtain ⟨y, hy⟩ : ∃ y, ena G t = y := ⟨_, rfl⟩
              rw [hx] at p0 hn9 hrd hln hlo
              rw [hy] at p1 hln hlo
              obtain ⟨A, n, c⟩ := x
              obtain ⟨A2, n2, c2⟩ := y
              replace p0 : wr.cell? (ad.add t) = some (.slice A n c) := p0
              replace p1 : wr.cell? (ad2.add t) = some (.slice A2 n2 c2) := p1
              replace hn9 : n ≤ 1000000 := hn9
              obtain rfl : n2 = n + 8 := hln
              have HR : Hid (Sl wr 4 A n c (marks_ mkOwnRow t n)) := Lib.hid hrd
              have HLo : Hid (Sl wr 4 A2 (n + 8) c2 (marks_ mkOwnRow t n ++ marks_ mkOwnRow (-1 - t) 8)) := Lib.hid hlo.sl
              clear hrd hlo hx hy htl
              go_wp2
              go_loopg [11] n (fun z v wq => ∃ k : Nat, z = n - k ∧ k ≤ n ∧ v = .int .i64 k ∧ Hid (wq = wr))
              case atStart => exact ⟨0, rfl, Nat.zero_le _, rfl, Lib.hid rfl⟩
              case round =>
                obtain ⟨k, rfl, hk, rfl, HW2⟩ := hrel
                have hW2 := HW2.out
                subst hW2
                by_cases hkn : k < n
                · obtain ⟨ad3, rfl, r0, r1, r2, r3⟩ := own_at4 HR.out hkn (show mkOwnRow t k = [.int .u8 0, .bool false, .int .i64 ((t : Int) * 1000 + (k : Int)), .string ⟨#[]⟩] from rfl) (fun q hq => marks_at' mkOwnRow_len t hq n k hkn)
                  obtain ⟨ad4, rfl, l0, l1, l2, l3⟩ := own_at4 HLo.out (show k < n + 8 by omega) (show mkOwnRow t k = [.int .u8 0, .bool false, .int .i64 ((t : Int) * 1000 + (k : Int)), .string ⟨#[]⟩] from rfl) (fun q hq => by rw [List.getElem?_append_left (by rw [marks_len mkOwnRow_len]; have : (k + 1) * 4 ≤ n * 4 := Nat.mul_le_mul_right _ hkn; omega)]; exact marks_at' mkOwnRow_len t hq n k hkn)
                  have wz0 : IntKind.i64.wrap ((t : Int) * 1000) = (t : Int) * 1000 := by rw [IntKind.wrap_i64]; omega
                  have wz1 : IntKind.i64.wrap ((t : Int) * 1000 + (k : Int)) = (t : Int) * 1000 + (k : Int) := by rw [IntKind.wrap_i64]; omega
                  go_wp2
                  go_roundg (n - (k + 1))
                  case measure => omega
                  case rel => exact ⟨k + 1, rfl, by omega, by go_num, Lib.hid rfl⟩
                · obtain rfl : k = n := by omega
                  go_wp2
                  go_loopg [12] 8 (fun z v wq => ∃ q : Nat, z = 8 - q ∧ q ≤ 8 ∧ v = .int .i64 q ∧ Hid (wq = wr))
                  case atStart => exact ⟨0, rfl, Nat.zero_le _, rfl, Lib.hid rfl⟩
                  case round =>
                    obtain ⟨q, rfl, hq, rfl, HW3⟩ := hrel
                    have hW3 := HW3.out
                    subst hW3
                    by_cases hq8 : q < 8
                    · obtain ⟨ad4, rfl, l0, l1, l2, l3⟩ := own_at4 HLo.out (show k + q < k + 8 by omega) (show mkOwnRow (-1 - (t : Int)) q = [.int .u8 0, .bool false, .int .i64 ((-1 - (t : Int)) * 1000 + (q : Int)), .string ⟨#[]⟩] from rfl) (fun z hz => by rw [show (k + q) * 4 + z = (marks_ mkOwnRow (t : Int) k).length + (q * 4 + z) by rw [marks_len mkOwnRow_len, Nat.add_mul]; omega, List.getElem?_append_right (Nat.le_add_right _ _), Nat.add_sub_cancel_left]; exact marks_at' mkOwnRow_len _ hz 8 q hq8)
                      have wy : IntKind.i64.wrap (-1 - (t : Int)) = -1 - (t : Int) := by rw [IntKind.wrap_i64]; omega
                      have wz0 : IntKind.i64.wrap ((-1 - (t : Int)) * 1000) = (-1 - (t : Int)) * 1000 := by rw [IntKind.wrap_i64]; omega
                      have wz1 : IntKind.i64.wrap ((-1 - (t : Int)) * 1000 + (q : Int)) = (-1 - (t : Int)) * 1000 + (q : Int) := by rw [IntKind.wrap_i64]; omega
                      go_wp2
                      go_roundg (8 - (q + 1))
                      case measure => omega
                      case rel => exact ⟨q + 1, rfl, by omega, by go_num, Lib.hid rfl⟩
                    · obtain rfl : q = 8 := by omega
                      go_wp2
                      go_roundg (j - (t + 1))
                      case measure => omega
                      case rel => exact ⟨t + 1, rfl, by omega, by go_num, Lib.hid rfl⟩
            · obtain rfl : t = j := by omega
              go_wp2
              go_ret
              exact ⟨rfl, HU1.out.trans HP.out.upd⟩
end Go.Proofs.YtngeioghihbkeaaDoor
namespace Go.Proofs.YtngeioghihbkeaaDoor
open Go.RowKit

def mkOwnCts (i : Int) (k : Nat) : List Value := [.slice none 0 0, .int .i64 (i * 1000 + (k : Int))]
theorem mkOwnCts_len (i : Int) (k : Nat) : (mkOwnCts i k).length = 2 := rfl
theorem mkOwnCts_one (i : Int) (k : Nat) : ∀ u ∈ mkOwnCts i k, u.oneCell' = true := by intro u hu; simp [mkOwnCts] at hu; rcases hu with rfl | rfl <;> rfl
theorem elemL_OwnCts : Elem Tryd.prog 65 27 1 24 (.slice none 0 0) := ⟨by kernel_rfl, by kernel_rfl, rfl, by decide⟩
set_option maxRecDepth 100000 in
set_option maxHeartbeats 8000000 in
theorem ownCts_any (OA : Option Addr) (oc m B : Nat) (L : List En) (f : Nat → List Value) (w : World) (hm : Hid (m = L.length)) (hs : Hid (Sl w 1 OA m oc (ensC L))) (hl : Hid (Lists w B 32 2 L f)) (hf : Hid (∀ k, blk OA oc = some k → ¬ Foot L k ∧ k < w.heap.size)) (hm9 : m ≤ 10000) (hn : Hid (∀ i, i < L.length → (ena L i).n ≤ 1000000)) (hBw : Hid (B ≤ w.heap.size)) :
    Calls Tryd.prog 78 #[.slice OA m oc] w fun e w' => e = .returned (.bool true) ∧ Upd (Foot L) w w' := by
  have HP0 : Hid (Ph1 mkOwnCts w w B 32 2 L 0 f) := Lib.hid ⟨hl.out, fun j hj => by omega, Upd.refl _ _⟩
  have hcell : Hid (∀ (wr : World) (i : Nat), Upd (Foot L) w wr → i < m → ∃ ad, OA = some ad ∧ wr.cell? (ad.add i) = some (ena L i).v) := Lib.hid (fun wr i hu hi => ens_cell (hs.out.upd hu (fun k hk => (hf.out k hk).1)) hi)
  go_enter Tryd.func78, Tryd.ntmps78
  go_wp2
  go_loopg [3] m (fun z v wr => ∃ (i : Nat) (f : Nat → List Value), z = m - i ∧ i ≤ m ∧ v = .int .i64 i ∧ Hid (Ph1 mkOwnCts w wr B 32 2 L i f))
  case atStart => exact ⟨0, f, rfl, Nat.zero_le _, rfl, HP0⟩
  case round =>
    clear HP0
    obtain ⟨i, f, rfl, hi, rfl, HP⟩ := hrel
    obtain ⟨wo, hwo⟩ : ∃ wo : World, wo = wr := ⟨_, rfl⟩
    rw [← hwo] at HP ⊢
    clear hwo
    by_cases hlt : i < m
    · have hil : i < L.length := by rw [← hm.out]; exact hlt
      obtain ⟨ad, rfl, p0⟩ := hcell.out wo i HP.out.upd hlt
      have hn9 := hn.out i hil
      have HIL := Lib.hid hil
      obtain ⟨x, hx⟩ : ∃ x, ena L i = x := ⟨_, rfl⟩
      rw [hx] at p0 hn9
      obtain ⟨A, n, c⟩ := x
      have HXN : Hid ((ena L i).n = n) := Lib.hid (by rw [hx])
      have HX := Lib.hid hx
      clear hil hx
      replace p0 : wo.cell? (ad.add i) = some (.slice A n c) := p0
      replace hn9 : n ≤ 1000000 := hn9
      have HI := Lib.hid HP.out.enter
      go_wp2
      go_loopg [4] n (fun z v wi => ∃ (k : Nat) (f : Nat → List Value), z = n - k ∧ k ≤ n ∧ v = .int .i64 k ∧ Hid (Ph1I mkOwnCts w wi B 32 2 L i k f))
      case atStart => exact ⟨0, f, rfl, Nat.zero_le _, rfl, HI⟩
      case round =>
        clear HI
        obtain ⟨k, f, rfl, hk, rfl, HI⟩ := hrel
        obtain ⟨wi, hwi⟩ : ∃ wi : World, wi = wr := ⟨_, rfl⟩
        rw [← hwi] at HI ⊢
        clear hwi
        obtain ⟨ad2, e2, p1⟩ := hcell.out wi i HI.out.ph.upd hlt
        cases e2
        rw [HX.out] at p1
        replace p1 : wi.cell? (ad.add i) = some (.slice A n c) := p1
        by_cases hkn : k < n
        · have o1 := HI.out.ph.ls.own i HIL.out
          rw [HX.out] at o1
          obtain ⟨g, eA, hb, _, _, hc, hfz⟩ := o1.form (show 0 < n by omega)
          have hA : (ena L i).A = some ⟨g, 0, none⟩ := by rw [HX.out]; exact eA
          have hbm : (ena L i).b = some g := by unfold En.b; rw [HX.out]; exact hb
          have hfl : (f i).length = n * 2 := o1.1
          subst eA
          have q0 : wi.cell? ⟨g, k * 2, none⟩ = some ((f i)[k * 2]'(by omega)) := hc _ _ (List.getElem?_eq_getElem (by omega))
          have z0 := hfz (k * 2)
          have q1 : wi.cell? ⟨g, k * 2 + 1, none⟩ = some ((f i)[k * 2 + 1]'(by omega)) := hc _ _ (List.getElem?_eq_getElem (by omega))
          have z1 := hfz (k * 2 + 1)
          obtain ⟨f', hf'⟩ := HI.out.put2 HIL.out (by rw [HXN.out]; exact hkn) hA hbm (show mkOwnCts i k = [.slice none 0 0, .int .i64 ((i : Int) * 1000 + (k : Int))] from rfl)
          have wz0 : IntKind.i64.wrap ((i : Int) * 1000) = (i : Int) * 1000 := by rw [IntKind.wrap_i64]; omega
          have wz1 : IntKind.i64.wrap ((i : Int) * 1000 + (k : Int)) = (i : Int) * 1000 + (k : Int) := by rw [IntKind.wrap_i64]; omega
          have HF := Lib.hid hf'
          clear hf' o1 hc hfz hb hA hbm
          go_wp2
          go_roundg (n - (k + 1))
          case measure => omega
          case rel => exact ⟨k + 1, f', rfl, by omega, by go_num, HF⟩
        · obtain rfl : k = n := by omega
          go_wp2
          go_roundg (m - (i + 1))
          case measure => omega
          case rel => exact ⟨i + 1, f, rfl, by omega, by go_num, Lib.hid ((show Ph1I mkOwnCts w wi B 32 2 L i (ena L i).n f from HXN.out ▸ HI.out).leave HIL.out)⟩
    · obtain rfl : i = m := by omega
      have HU1 := Lib.hid HP.out.upd
      have HQ0 : Hid (Ph2 mkOwnCts wo wo B 32 27 2 L 0 [] none 0) := Lib.hid (Ph2.start 27 (show Ph1 mkOwnCts w wo B 32 2 L L.length f from hm.out ▸ HP.out))
      have hcell2 : Hid (∀ (wr : World) (j : Nat), Upd (Foot L) wo wr → j < i → ∃ ad, OA = some ad ∧ wr.cell? (ad.add j) = some (ena L j).v) := Lib.hid (fun wr j hu hj => hcell.out wr j (HU1.out.trans hu) hj)
      clear HP
      go_wp2
      go_loopg [5, 6] i (fun z u v wr => ∃ (j : Nat) (G : List En) (LA : Option Addr) (lc : Nat), z = i - j ∧ j ≤ i ∧ v = .int .i64 j ∧ u = .slice LA j lc ∧ Hid (Ph2 mkOwnCts wo wr B 32 27 2 L j G LA lc))
      case atStart => exact ⟨0, [], none, 0, rfl, Nat.zero_le _, rfl, rfl, HQ0⟩
      case round =>
        clear HQ0
        obtain ⟨j, G, LA, lc, rfl, hj, rfl, rfl, HP⟩ := hrel
        obtain ⟨w2, hw2⟩ : ∃ w2 : World, w2 = wr := ⟨_, rfl⟩
        rw [← hw2] at HP ⊢
        clear hw2
        by_cases hlt2 : j < i
        · have hjl : j < L.length := by rw [← hm.out]; exact hlt2
          obtain ⟨ad, rfl, p0⟩ := hcell2.out w2 j HP.out.upd hlt2
          have hn9 := hn.out j hjl
          have HJL := Lib.hid hjl
          obtain ⟨x, hx⟩ : ∃ x, ena L j = x := ⟨_, rfl⟩
          rw [hx] at p0 hn9
          obtain ⟨A, n, c⟩ := x
          have HXN : Hid ((ena L j).n = n) := Lib.hid (by rw [hx])
          have HXA : Hid ((ena L j).A = A ∧ (ena L j).c = c) := Lib.hid (by rw [hx]; exact ⟨rfl, rfl⟩)
          clear hjl hx
          replace p0 : w2.cell? (ad.add j) = some (.slice A n c) := p0
          replace hn9 : n ≤ 1000000 := hn9
          have HI : Hid (Ph2I mkOwnCts w2 w2 B 32 2 L j 0 A c) := Lib.hid (by have := HP.out.enter HJL.out; rwa [HXA.out.1, HXA.out.2] at this)
          go_wp2
          go_loopg [7, 8] 8 (fun z u v wi => ∃ (k : Nat) (A' : Option Addr) (c' : Nat), z = 8 - k ∧ k ≤ 8 ∧ v = .int .i64 k ∧ u = .slice A' (n + k) c' ∧ Hid (Ph2I mkOwnCts w2 wi B 32 2 L j k A' c'))
          case atStart => exact ⟨0, A, c, rfl, Nat.zero_le _, rfl, rfl, HI⟩
          case round =>
            clear HI
            obtain ⟨k, A', c', rfl, hk, rfl, rfl, HI⟩ := hrel
            by_cases hk8 : k < 8
            · have wy : IntKind.i64.wrap (-1 - (j : Int)) = -1 - (j : Int) := by rw [IntKind.wrap_i64]; omega
              have wz0 : IntKind.i64.wrap ((-1 - (j : Int)) * 1000) = (-1 - (j : Int)) * 1000 := by rw [IntKind.wrap_i64]; omega
              have wz1 : IntKind.i64.wrap ((-1 - (j : Int)) * 1000 + (k : Int)) = (-1 - (j : Int)) * 1000 + (k : Int) := by rw [IntKind.wrap_i64]; omega
              have HO : Hid (Own wr B 32 2 A' (n + k) c' (marks_ mkOwnCts j (ena L j).n ++ marks_ mkOwnCts (-1 - j) k)) := Lib.hid (by have := HI.out.own; rwa [HXN.out] at this ⊢)
              have hB : B ≤ (wr.alloc (.cells (#[.slice none 0 0, .int .i64 ((-1 - (j : Int)) * 1000 + (k : Int))] : Array Value) 32)).heap.size := by
                have h1 := HI.out.upd.size
                have h2 := ((Ext.refl wr).alloc (.cells (#[.slice none 0 0, .int .i64 ((-1 - (j : Int)) * 1000 + (k : Int))] : Array Value) 32)).size
                have h3 := HP.out.upd.size
                have h4 := HU1.out.size
                have h5 := hBw.out
                omega
              go_wp2_with (at_builtin; go_loud (refine wpList_append_two _ elem_ct B _ _ rfl rfl A' (n + k) c' _ rfl (HO.out.alloc _) (some ⟨wr.heap.size, 0, none⟩) 1 1 (mkOwnCts (-1 - (j : Int)) k) rfl (Sl.one wr #[.slice none 0 0, .int .i64 ((-1 - (j : Int)) * 1000 + (k : Int))] 32 2 rfl) (mkOwnCts_one _ _) (by omega) (by decide) hB ?_); intro A3 c3 w3 o3 g3 x3; have HN3 : Hid (Ph2I mkOwnCts w2 w3 B 32 2 L j (k + 1) A3 c3) := Lib.hid (HI.out.step mkOwnCts_len _ (by have := o3; rwa [← HXN.out] at this) g3 x3); clear o3 g3 x3)
              go_roundg (8 - (k + 1))
              case measure => omega
              case rel => exact ⟨k + 1, A3, c3, rfl, by omega, by go_num, rfl, HN3⟩
            · obtain rfl : k = 8 := by omega
              have hlst : ∀ wr : World, Ph2I mkOwnCts w2 wr B 32 2 L j 8 A' c' → Own wr wo.heap.size 27 1 LA j lc (ensC G) := fun wr h => HP.out.lst.upd h.upd (fun q hq e => by
                have h1 := HP.out.foot q ⟨j, HJL.out, e⟩
                have h2 := (HP.out.lst.lt q hq).1
                omega)
              go_wp2_with (at_builtin; go_loud (refine wpList_append_two _ elemL_OwnCts wo.heap.size _ _ rfl rfl LA j lc (ensC G) rfl ((hlst wr HI.out).alloc _) (some ⟨wr.heap.size, 0, none⟩) 1 1 [.slice A' (n + 8) c'] rfl (Sl.one wr #[.slice A' (n + 8) c'] 27 1 rfl) (ensC_one [⟨A', n + 8, c'⟩]) (by omega) (by decide) (by have h1 := HI.out.upd.size; have h2 := HP.out.upd.size; have h3 := ((Ext.refl wr).alloc (.cells (#[.slice A' (n + 8) c'] : Array Value) 27)).size; omega) ?_); intro LA4 lc4 w4 o4 g4 x4; have HN4 : Hid (Ph2 mkOwnCts wo w4 B 32 27 2 L (j + 1) (G ++ [⟨A', (ena L j).n + 8, c'⟩]) LA4 lc4) := Lib.hid (HP.out.next HJL.out HI.out _ (by have := o4; rwa [← HXN.out] at this) g4 x4); clear o4 g4 x4)
              go_roundg (i - (j + 1))
              case measure => omega
              case rel => exact ⟨j + 1, _, LA4, lc4, rfl, by omega, by go_num, rfl, HN4⟩
        · obtain rfl : j = i := by omega
          have hjm : j = L.length := hm.out
          have hG : ∀ t, t < j → ∃ ad, LA = some ad ∧ w2.cell? (ad.add t) = some (ena G t).v := fun t ht => ens_cell HP.out.lst.sl ht
          have HG := Lib.hid hG
          clear hG hjm
          go_wp2
          go_loopg [9] j (fun z v wr => ∃ t : Nat, z = j - t ∧ t ≤ j ∧ v = .int .i64 t ∧ Hid (wr = w2))
          case atStart => exact ⟨0, rfl, Nat.zero_le _, rfl, Lib.hid rfl⟩
          case round =>
            obtain ⟨t, rfl, ht, rfl, HW⟩ := hrel
            have hW := HW.out
            subst hW
            by_cases htj : t < j
            · have htl : t < L.length := by rw [← hm.out]; exact htj
              obtain ⟨ad, rfl, p0⟩ := hcell2.out wr t HP.out.upd htj
              obtain ⟨ad2, rfl, p1⟩ := HG.out t htj
              have hn9 := hn.out t htl
              have hrd := HP.out.read t htj
              obtain ⟨hln, hlo⟩ := HP.out.long t htj
              obtain ⟨x, hx⟩ : ∃ x, ena L t = x := ⟨_, rfl⟩
              obtain ⟨y, hy⟩ : ∃ y, ena G t = y := ⟨_, rfl⟩
              rw [hx] at p0 hn9 hrd hln hlo
              rw [hy] at p1 hln hlo
              obtain ⟨A, n, c⟩ := x
              obtain ⟨A2, n2, c2⟩ := y
              replace p0 : wr.cell? (ad.add t) = some (.slice A n c) := p0
              replace p1 : wr.cell? (ad2.add t) = some (.slice A2 n2 c2) := p1
              replace hn9 : n ≤ 1000000 := hn9
              obtain rfl : n2 = n + 8 := hln
              have HR : Hid (Sl wr 2 A n c (marks_ mkOwnCts t n)) := Lib.hid hrd
              have HLo : Hid (Sl wr 2 A2 (n + 8) c2 (marks_ mkOwnCts t n ++ marks_ mkOwnCts (-1 - t) 8)) := Lib.hid hlo.sl
              clear hrd hlo hx hy htl
              go_wp2
              go_loopg [11] n (fun z v wq => ∃ k : Nat, z = n - k ∧ k ≤ n ∧ v = .int .i64 k ∧ Hid (wq = wr))
              case atStart => exact ⟨0, rfl, Nat.zero_le _, rfl, Lib.hid rfl⟩
              case round =>
                obtain ⟨k, rfl, hk, rfl, HW2⟩ := hrel
                have hW2 := HW2.out
                subst hW2
                by_cases hkn : k < n
                · obtain ⟨ad3, rfl, r0, r1⟩ := own_at2 HR.out hkn (show mkOwnCts t k = [.slice none 0 0, .int .i64 ((t : Int) * 1000 + (k : Int))] from rfl) (fun q hq => marks_at' mkOwnCts_len t hq n k hkn)
                  obtain ⟨ad4, rfl, l0, l1⟩ := own_at2 HLo.out (show k < n + 8 by omega) (show mkOwnCts t k = [.slice none 0 0, .int .i64 ((t : Int) * 1000 + (k : Int))] from rfl) (fun q hq => by rw [List.getElem?_append_left (by rw [marks_len mkOwnCts_len]; have : (k + 1) * 2 ≤ n * 2 := Nat.mul_le_mul_right _ hkn; omega)]; exact marks_at' mkOwnCts_len t hq n k hkn)
                  have wz0 : IntKind.i64.wrap ((t : Int) * 1000) = (t : Int) * 1000 := by rw [IntKind.wrap_i64]; omega
                  have wz1 : IntKind.i64.wrap ((t : Int) * 1000 + (k : Int)) = (t : Int) * 1000 + (k : Int) := by rw [IntKind.wrap_i64]; omega
                  go_wp2
                  go_roundg (n - (k + 1))
                  case measure => omega
                  case rel => exact ⟨k + 1, rfl, by omega, by go_num, Lib.hid rfl⟩
                · obtain rfl : k = n := by omega
                  go_wp2
                  go_loopg [12] 8 (fun z v wq => ∃ q : Nat, z = 8 - q ∧ q ≤ 8 ∧ v = .int .i64 q ∧ Hid (wq = wr))
                  case atStart => exact ⟨0, rfl, Nat.zero_le _, rfl, Lib.hid rfl⟩
                  case round =>
                    obtain ⟨q, rfl, hq, rfl, HW3⟩ := hrel
                    have hW3 := HW3.out
                    subst hW3
                    by_cases hq8 : q < 8
                    · obtain ⟨ad4, rfl, l0, l1⟩ := own_at2 HLo.out (show k + q < k + 8 by omega) (show mkOwnCts (-1 - (t : Int)) q = [.slice none 0 0, .int .i64 ((-1 - (t : Int)) * 1000 + (q : Int))] from rfl) (fun z hz => by rw [show (k + q) * 2 + z = (marks_ mkOwnCts (t : Int) k).length + (q * 2 + z) by rw [marks_len mkOwnCts_len, Nat.add_mul]; omega, List.getElem?_append_right (Nat.le_add_right _ _), Nat.add_sub_cancel_left]; exact marks_at' mkOwnCts_len _ hz 8 q hq8)
                      have wy : IntKind.i64.wrap (-1 - (t : Int)) = -1 - (t : Int) := by rw [IntKind.wrap_i64]; omega
                      have wz0 : IntKind.i64.wrap ((-1 - (t : Int)) * 1000) = (-1 - (t : Int)) * 1000 := by rw [IntKind.wrap_i64]; omega
                      have wz1 : IntKind.i64.wrap ((-1 - (t : Int)) * 1000 + (q : Int)) = (-1 - (t : Int)) * 1000 + (q : Int) := by rw [IntKind.wrap_i64]; omega
                      go_wp2
                      go_roundg (8 - (q + 1))
                      case measure => omega
                      case rel => exact ⟨q + 1, rfl, by omega, by go_num, Lib.hid rfl⟩
                    · obtain rfl : q = 8 := by omega
                      go_wp2
                      go_roundg (j - (t + 1))
                      case measure => omega
                      case rel => exact ⟨t + 1, rfl, by omega, by go_num, Lib.hid rfl⟩
            · obtain rfl : t = j := by omega
              go_wp2
              go_ret
              exact ⟨rfl, HU1.out.trans HP.out.upd⟩
end Go.Proofs.YtngeioghihbkeaaDoor
namespace Go.Proofs.YtngeioghihbkeaaDoor
open Go.RowKit

def mkOwnBytes (i : Int) (k : Nat) : List Value := [.int .u8 (IntKind.u8.wrap (i * 97 + (k : Int) * 13))]
theorem mkOwnBytes_len (i : Int) (k : Nat) : (mkOwnBytes i k).length = 1 := rfl
theorem mkOwnBytes_one (i : Int) (k : Nat) : ∀ u ∈ mkOwnBytes i k, u.oneCell' = true := by intro u hu; simp [mkOwnBytes] at hu; rcases hu with rfl <;> rfl
theorem elemL_OwnBytes : Elem Tryd.prog 56 35 1 24 (.slice none 0 0) := ⟨by kernel_rfl, by kernel_rfl, rfl, by decide⟩
set_option maxRecDepth 100000 in
set_option maxHeartbeats 8000000 in
theorem ownBytes_any (OA : Option Addr) (oc m B : Nat) (L : List En) (f : Nat → List Value) (w : World) (hm : Hid (m = L.length)) (hs : Hid (Sl w 1 OA m oc (ensC L))) (hl : Hid (Lists w B 5 1 L f)) (hf : Hid (∀ k, blk OA oc = some k → ¬ Foot L k ∧ k < w.heap.size)) (hm9 : m ≤ 10000) (hn : Hid (∀ i, i < L.length → (ena L i).n ≤ 1000000)) (hBw : Hid (B ≤ w.heap.size)) :
    Calls Tryd.prog 69 #[.slice OA m oc] w fun e w' => e = .returned (.bool true) ∧ Upd (Foot L) w w' := by
  have HP0 : Hid (Ph1 mkOwnBytes w w B 5 1 L 0 f) := Lib.hid ⟨hl.out, fun j hj => by omega, Upd.refl _ _⟩
  have hcell : Hid (∀ (wr : World) (i : Nat), Upd (Foot L) w wr → i < m → ∃ ad, OA = some ad ∧ wr.cell? (ad.add i) = some (ena L i).v) := Lib.hid (fun wr i hu hi => ens_cell (hs.out.upd hu (fun k hk => (hf.out k hk).1)) hi)
  go_enter Tryd.func69, Tryd.ntmps69
  go_wp2
  go_loopg [3] m (fun z v wr => ∃ (i : Nat) (f : Nat → List Value), z = m - i ∧ i ≤ m ∧ v = .int .i64 i ∧ Hid (Ph1 mkOwnBytes w wr B 5 1 L i f))
  case atStart => exact ⟨0, f, rfl, Nat.zero_le _, rfl, HP0⟩
  case round =>
    clear HP0
    obtain ⟨i, f, rfl, hi, rfl, HP⟩ := hrel
    obtain ⟨wo, hwo⟩ : ∃ wo : World, wo = wr := ⟨_, rfl⟩
    rw [← hwo] at HP ⊢
    clear hwo
    by_cases hlt : i < m
    · have hil : i < L.length := by rw [← hm.out]; exact hlt
      obtain ⟨ad, rfl, p0⟩ := hcell.out wo i HP.out.upd hlt
      have hn9 := hn.out i hil
      have HIL := Lib.hid hil
      obtain ⟨x, hx⟩ : ∃ x, ena L i = x := ⟨_, rfl⟩
      rw [hx] at p0 hn9
      obtain ⟨A, n, c⟩ := x
      have HXN : Hid ((ena L i).n = n) := Lib.hid (by rw [hx])
      have HX := Lib.hid hx
      clear hil hx
      replace p0 : wo.cell? (ad.add i) = some (.slice A n c) := p0
      replace hn9 : n ≤ 1000000 := hn9
      have HI := Lib.hid HP.out.enter
      go_wp2
      go_loopg [4] n (fun z v wi => ∃ (k : Nat) (f : Nat → List Value), z = n - k ∧ k ≤ n ∧ v = .int .i64 k ∧ Hid (Ph1I mkOwnBytes w wi B 5 1 L i k f))
      case atStart => exact ⟨0, f, rfl, Nat.zero_le _, rfl, HI⟩
      case round =>
        clear HI
        obtain ⟨k, f, rfl, hk, rfl, HI⟩ := hrel
        obtain ⟨wi, hwi⟩ : ∃ wi : World, wi = wr := ⟨_, rfl⟩
        rw [← hwi] at HI ⊢
        clear hwi
        obtain ⟨ad2, e2, p1⟩ := hcell.out wi i HI.out.ph.upd hlt
        cases e2
        rw [HX.out] at p1
        replace p1 : wi.cell? (ad.add i) = some (.slice A n c) := p1
        by_cases hkn : k < n
        · have o1 := HI.out.ph.ls.own i HIL.out
          rw [HX.out] at o1
          obtain ⟨g, eA, hb, _, _, hc, hfz⟩ := o1.form (show 0 < n by omega)
          have hA : (ena L i).A = some ⟨g, 0, none⟩ := by rw [HX.out]; exact eA
          have hbm : (ena L i).b = some g := by unfold En.b; rw [HX.out]; exact hb
          have hfl : (f i).length = n * 1 := o1.1
          subst eA
          have q0 : wi.cell? ⟨g, k, none⟩ = some ((f i)[k]'(by omega)) := hc _ _ (List.getElem?_eq_getElem (by omega))
          have z0 := hfz (k)
          obtain ⟨f', hf'⟩ := HI.out.put1 HIL.out (by rw [HXN.out]; exact hkn) hA hbm (show mkOwnBytes i k = [.int .u8 (IntKind.u8.wrap ((i : Int) * 97 + (k : Int) * 13))] from rfl)
          have wz0 : IntKind.i64.wrap ((i : Int) * 97) = (i : Int) * 97 := by rw [IntKind.wrap_i64]; omega
          have wz1 : IntKind.i64.wrap ((k : Int) * 13) = (k : Int) * 13 := by rw [IntKind.wrap_i64]; omega
          have wz2 : IntKind.i64.wrap ((i : Int) * 97 + (k : Int) * 13) = (i : Int) * 97 + (k : Int) * 13 := by rw [IntKind.wrap_i64]; omega
          have HF := Lib.hid hf'
          clear hf' o1 hc hfz hb hA hbm
          go_wp2
          go_roundg (n - (k + 1))
          case measure => omega
          case rel => exact ⟨k + 1, f', rfl, by omega, by go_num, HF⟩
        · obtain rfl : k = n := by omega
          go_wp2
          go_roundg (m - (i + 1))
          case measure => omega
          case rel => exact ⟨i + 1, f, rfl, by omega, by go_num, Lib.hid ((show Ph1I mkOwnBytes w wi B 5 1 L i (ena L i).n f from HXN.out ▸ HI.out).leave HIL.out)⟩
    · obtain rfl : i = m := by omega
      have HU1 := Lib.hid HP.out.upd
      have HQ0 : Hid (Ph2 mkOwnBytes wo wo B 5 35 1 L 0 [] none 0) := Lib.hid (Ph2.start 35 (show Ph1 mkOwnBytes w wo B 5 1 L L.length f from hm.out ▸ HP.out))
      have hcell2 : Hid (∀ (wr : World) (j : Nat), Upd (Foot L) wo wr → j < i → ∃ ad, OA = some ad ∧ wr.cell? (ad.add j) = some (ena L j).v) := Lib.hid (fun wr j hu hj => hcell.out wr j (HU1.out.trans hu) hj)
      clear HP
      go_wp2
      go_loopg [5, 6] i (fun z u v wr => ∃ (j : Nat) (G : List En) (LA : Option Addr) (lc : Nat), z = i - j ∧ j ≤ i ∧ v = .int .i64 j ∧ u = .slice LA j lc ∧ Hid (Ph2 mkOwnBytes wo wr B 5 35 1 L j G LA lc))
      case atStart => exact ⟨0, [], none, 0, rfl, Nat.zero_le _, rfl, rfl, HQ0⟩
      case round =>
        clear HQ0
        obtain ⟨j, G, LA, lc, rfl, hj, rfl, rfl, HP⟩ := hrel
        obtain ⟨w2, hw2⟩ : ∃ w2 : World, w2 = wr := ⟨_, rfl⟩
        rw [← hw2] at HP ⊢
        clear hw2
        by_cases hlt2 : j < i
        · have hjl : j < L.length := by rw [← hm.out]; exact hlt2
          obtain ⟨ad, rfl, p0⟩ := hcell2.out w2 j HP.out.upd hlt2
          have hn9 := hn.out j hjl
          have HJL := Lib.hid hjl
          obtain ⟨x, hx⟩ : ∃ x, ena L j = x := ⟨_, rfl⟩
          rw [hx] at p0 hn9
          obtain ⟨A, n, c⟩ := x
          have HXN : Hid ((ena L j).n = n) := Lib.hid (by rw [hx])
          have HXA : Hid ((ena L j).A = A ∧ (ena L j).c = c) := Lib.hid (by rw [hx]; exact ⟨rfl, rfl⟩)
          clear hjl hx
          replace p0 : w2.cell? (ad.add j) = some (.slice A n c) := p0
          replace hn9 : n ≤ 1000000 := hn9
          have HI : Hid (Ph2I mkOwnBytes w2 w2 B 5 1 L j 0 A c) := Lib.hid (by have := HP.out.enter HJL.out; rwa [HXA.out.1, HXA.out.2] at this)
          go_wp2
          go_loopg [7, 8] 8 (fun z u v wi => ∃ (k : Nat) (A' : Option Addr) (c' : Nat), z = 8 - k ∧ k ≤ 8 ∧ v = .int .i64 k ∧ u = .slice A' (n + k) c' ∧ Hid (Ph2I mkOwnBytes w2 wi B 5 1 L j k A' c'))
          case atStart => exact ⟨0, A, c, rfl, Nat.zero_le _, rfl, rfl, HI⟩
          case round =>
            clear HI
            obtain ⟨k, A', c', rfl, hk, rfl, rfl, HI⟩ := hrel
            by_cases hk8 : k < 8
            · have wy : IntKind.i64.wrap (-1 - (j : Int)) = -1 - (j : Int) := by rw [IntKind.wrap_i64]; omega
              have wz0 : IntKind.i64.wrap ((-1 - (j : Int)) * 97) = (-1 - (j : Int)) * 97 := by rw [IntKind.wrap_i64]; omega
              have wz1 : IntKind.i64.wrap ((k : Int) * 13) = (k : Int) * 13 := by rw [IntKind.wrap_i64]; omega
              have wz2 : IntKind.i64.wrap ((-1 - (j : Int)) * 97 + (k : Int) * 13) = (-1 - (j : Int)) * 97 + (k : Int) * 13 := by rw [IntKind.wrap_i64]; omega
              have HO : Hid (Own wr B 5 1 A' (n + k) c' (marks_ mkOwnBytes j (ena L j).n ++ marks_ mkOwnBytes (-1 - j) k)) := Lib.hid (by have := HI.out.own; rwa [HXN.out] at this ⊢)
              have hB : B ≤ (wr.alloc (.cells (#[.int .u8 (IntKind.u8.wrap ((-1 - (j : Int)) * 97 + (k : Int) * 13))] : Array Value) 5)).heap.size := by
                have h1 := HI.out.upd.size
                have h2 := ((Ext.refl wr).alloc (.cells (#[.int .u8 (IntKind.u8.wrap ((-1 - (j : Int)) * 97 + (k : Int) * 13))] : Array Value) 5)).size
                have h3 := HP.out.upd.size
                have h4 := HU1.out.size
                have h5 := hBw.out
                omega
              go_wp2_with (at_builtin; go_loud (refine wpList_append_two _ elem_byte B _ _ rfl rfl A' (n + k) c' _ rfl (HO.out.alloc _) (some ⟨wr.heap.size, 0, none⟩) 1 1 (mkOwnBytes (-1 - (j : Int)) k) rfl (Sl.one wr #[.int .u8 (IntKind.u8.wrap ((-1 - (j : Int)) * 97 + (k : Int) * 13))] 5 1 rfl) (mkOwnBytes_one _ _) (by omega) (by decide) hB ?_); intro A3 c3 w3 o3 g3 x3; have HN3 : Hid (Ph2I mkOwnBytes w2 w3 B 5 1 L j (k + 1) A3 c3) := Lib.hid (HI.out.step mkOwnBytes_len _ (by have := o3; rwa [← HXN.out] at this) g3 x3); clear o3 g3 x3)
              go_roundg (8 - (k + 1))
              case measure => omega
              case rel => exact ⟨k + 1, A3, c3, rfl, by omega, by go_num, rfl, HN3⟩
            · obtain rfl : k = 8 := by omega
              have hlst : ∀ wr : World, Ph2I mkOwnBytes w2 wr B 5 1 L j 8 A' c' → Own wr wo.heap.size 35 1 LA j lc (ensC G) := fun wr h => HP.out.lst.upd h.upd (fun q hq e => by
                have h1 := HP.out.foot q ⟨j, HJL.out, e⟩
                have h2 := (HP.out.lst.lt q hq).1
                omega)
              go_wp2_with (at_builtin; go_loud (refine wpList_append_two _ elemL_OwnBytes wo.heap.size _ _ rfl rfl LA j lc (ensC G) rfl ((hlst wr HI.out).alloc _) (some ⟨wr.heap.size, 0, none⟩) 1 1 [.slice A' (n + 8) c'] rfl (Sl.one wr #[.slice A' (n + 8) c'] 35 1 rfl) (ensC_one [⟨A', n + 8, c'⟩]) (by omega) (by decide) (by have h1 := HI.out.upd.size; have h2 := HP.out.upd.size; have h3 := ((Ext.refl wr).alloc (.cells (#[.slice A' (n + 8) c'] : Array Value) 35)).size; omega) ?_); intro LA4 lc4 w4 o4 g4 x4; have HN4 : Hid (Ph2 mkOwnBytes wo w4 B 5 35 1 L (j + 1) (G ++ [⟨A', (ena L j).n + 8, c'⟩]) LA4 lc4) := Lib.hid (HP.out.next HJL.out HI.out _ (by have := o4; rwa [← HXN.out] at this) g4 x4); clear o4 g4 x4)
              go_roundg (i - (j + 1))
              case measure => omega
              case rel => exact ⟨j + 1, _, LA4, lc4, rfl, by omega, by go_num, rfl, HN4⟩
        · obtain rfl : j = i := by omega
          have hjm : j = L.length := hm.out
          have hG : ∀ t, t < j → ∃ ad, LA = some ad ∧ w2.cell? (ad.add t) = some (ena G t).v := fun t ht => ens_cell HP.out.lst.sl ht
          have HG := Lib.hid hG
          clear hG hjm
          go_wp2
          go_loopg [9] j (fun z v wr => ∃ t : Nat, z = j - t ∧ t ≤ j ∧ v = .int .i64 t ∧ Hid (wr = w2))
          case atStart => exact ⟨0, rfl, Nat.zero_le _, rfl, Lib.hid rfl⟩
          case round =>
            obtain ⟨t, rfl, ht, rfl, HW⟩ := hrel
            have hW := HW.out
            subst hW
            by_cases htj : t < j
            · have htl : t < L.length := by rw [← hm.out]; exact htj
              obtain ⟨ad, rfl, p0⟩ := hcell2.out wr t HP.out.upd htj
              obtain ⟨ad2, rfl, p1⟩ := HG.out t htj
              have hn9 := hn.out t htl
              have hrd := HP.out.read t htj
              obtain ⟨hln, hlo⟩ := HP.out.long t htj
              obtain ⟨x, hx⟩ : ∃ x, ena L t = x := ⟨_, rfl⟩
              obtain ⟨y, hy⟩ : ∃ y, ena G t = y := ⟨_, rfl⟩
              rw [hx] at p0 hn9 hrd hln hlo
              rw [hy] at p1 hln hlo
              obtain ⟨A, n, c⟩ := x
              obtain ⟨A2, n2, c2⟩ := y
              replace p0 : wr.cell? (ad.add t) = some (.slice A n c) := p0
              replace p1 : wr.cell? (ad2.add t) = some (.slice A2 n2 c2) := p1
              replace hn9 : n ≤ 1000000 := hn9
              obtain rfl : n2 = n + 8 := hln
              have HR : Hid (Sl wr 1 A n c (marks_ mkOwnBytes t n)) := Lib.hid hrd
              have HLo : Hid (Sl wr 1 A2 (n + 8) c2 (marks_ mkOwnBytes t n ++ marks_ mkOwnBytes (-1 - t) 8)) := Lib.hid hlo.sl
              clear hrd hlo hx hy htl
              go_wp2
              go_loopg [11] n (fun z v wq => ∃ k : Nat, z = n - k ∧ k ≤ n ∧ v = .int .i64 k ∧ Hid (wq = wr))
              case atStart => exact ⟨0, rfl, Nat.zero_le _, rfl, Lib.hid rfl⟩
              case round =>
                obtain ⟨k, rfl, hk, rfl, HW2⟩ := hrel
                have hW2 := HW2.out
                subst hW2
                by_cases hkn : k < n
                · obtain ⟨ad3, rfl, r0⟩ := own_at1 HR.out hkn (show mkOwnBytes t k = [.int .u8 (IntKind.u8.wrap ((t : Int) * 97 + (k : Int) * 13))] from rfl) (fun q hq => marks_at' mkOwnBytes_len t hq n k hkn)
                  obtain ⟨ad4, rfl, l0⟩ := own_at1 HLo.out (show k < n + 8 by omega) (show mkOwnBytes t k = [.int .u8 (IntKind.u8.wrap ((t : Int) * 97 + (k : Int) * 13))] from rfl) (fun q hq => by rw [List.getElem?_append_left (by rw [marks_len mkOwnBytes_len]; have : (k + 1) * 1 ≤ n * 1 := Nat.mul_le_mul_right _ hkn; omega)]; exact marks_at' mkOwnBytes_len t hq n k hkn)
                  have wz0 : IntKind.i64.wrap ((t : Int) * 97) = (t : Int) * 97 := by rw [IntKind.wrap_i64]; omega
                  have wz1 : IntKind.i64.wrap ((k : Int) * 13) = (k : Int) * 13 := by rw [IntKind.wrap_i64]; omega
                  have wz2 : IntKind.i64.wrap ((t : Int) * 97 + (k : Int) * 13) = (t : Int) * 97 + (k : Int) * 13 := by rw [IntKind.wrap_i64]; omega
                  go_wp2
                  go_roundg (n - (k + 1))
                  case measure => omega
                  case rel => exact ⟨k + 1, rfl, by omega, by go_num, Lib.hid rfl⟩
                · obtain rfl : k = n := by omega
                  go_wp2
                  go_loopg [12] 8 (fun z v wq => ∃ q : Nat, z = 8 - q ∧ q ≤ 8 ∧ v = .int .i64 q ∧ Hid (wq = wr))
                  case atStart => exact ⟨0, rfl, Nat.zero_le _, rfl, Lib.hid rfl⟩
                  case round =>
                    obtain ⟨q, rfl, hq, rfl, HW3⟩ := hrel
                    have hW3 := HW3.out
                    subst hW3
                    by_cases hq8 : q < 8
                    · obtain ⟨ad4, rfl, l0⟩ := own_at1 HLo.out (show k + q < k + 8 by omega) (show mkOwnBytes (-1 - (t : Int)) q = [.int .u8 (IntKind.u8.wrap ((-1 - (t : Int)) * 97 + (q : Int) * 13))] from rfl) (fun z hz => by rw [show (k + q) * 1 + z = (marks_ mkOwnBytes (t : Int) k).length + (q * 1 + z) by rw [marks_len mkOwnBytes_len, Nat.add_mul]; omega, List.getElem?_append_right (Nat.le_add_right _ _), Nat.add_sub_cancel_left]; exact marks_at' mkOwnBytes_len _ hz 8 q hq8)
                      have wy : IntKind.i64.wrap (-1 - (t : Int)) = -1 - (t : Int) := by rw [IntKind.wrap_i64]; omega
                      have wz0 : IntKind.i64.wrap ((-1 - (t : Int)) * 97) = (-1 - (t : Int)) * 97 := by rw [IntKind.wrap_i64]; omega
                      have wz1 : IntKind.i64.wrap ((q : Int) * 13) = (q : Int) * 13 := by rw [IntKind.wrap_i64]; omega
                      have wz2 : IntKind.i64.wrap ((-1 - (t : Int)) * 97 + (q : Int) * 13) = (-1 - (t : Int)) * 97 + (q : Int) * 13 := by rw [IntKind.wrap_i64]; omega
                      go_wp2
                      go_roundg (8 - (q + 1))
                      case measure => omega
                      case rel => exact ⟨q + 1, rfl, by omega, by go_num, Lib.hid rfl⟩
                    · obtain rfl : q = 8 := by omega
                      go_wp2
                      go_roundg (j - (t + 1))
                      case measure => omega
                      case rel => exact ⟨t + 1, rfl, by omega, by go_num, Lib.hid rfl⟩
            · obtain rfl : t = j := by omega
              go_wp2
              go_ret
              exact ⟨rfl, HU1.out.trans HP.out.upd⟩
end Go.Proofs.YtngeioghihbkeaaDoor
namespace Go.Proofs.YtngeioghihbkeaaDoor
open Go.RowKit

def bookC (b r c : Value) : Array Value := #[b, .slice none 0 0, .slice none 0 0, .slice none 0 0, r, .slice none 0 0, .slice none 0 0, .slice none 0 0, .slice none 0 0, c, .slice none 0 0, .slice none 0 0, .slice none 0 0, .slice none 0 0]
/-- the Book at gb, its lists from B0 on -/
structure BookAt (w : World) (gb B0 : Nat) (LB LR LC : List En) (b r c : En) : Prop where
  bk : Bk w gb 71 (bookC b.v r.v c.v)
  lt : gb < B0
  le : B0 ≤ w.heap.size
  ob : Own w B0 35 1 b.A b.n b.c (ensC LB)
  or : Own w B0 22 1 r.A r.n r.c (ensC LR)
  oc : Own w B0 27 1 c.A c.n c.c (ensC LC)
  nb : b.n = LB.length
  nr : r.n = LR.length
  nc : c.n = LC.length
  sbr : ∀ k, b.b = some k → r.b ≠ some k
  sbc : ∀ k, b.b = some k → c.b ≠ some k
  src : ∀ k, r.b = some k → c.b ≠ some k
theorem BookAt.ext {w w' : World} {gb B0 : Nat} {LB LR LC : List En} {b r c : En} (h : BookAt w gb B0 LB LR LC b r c) (x : Ext w w') : BookAt w' gb B0 LB LR LC b r c :=
  ⟨h.bk.ext x, h.lt, Nat.le_trans h.le x.size, h.ob.ext x, h.or.ext x, h.oc.ext x, h.nb, h.nr, h.nc, h.sbr, h.sbc, h.src⟩
theorem BookAt.upd {S : Nat → Prop} {w w' : World} {gb B0 : Nat} {LB LR LC : List En} {b r c : En} (h : BookAt w gb B0 LB LR LC b r c) (x : Upd S w w') (hg : ¬ S gb) (hS : ∀ k, B0 ≤ k → ¬ S k) : BookAt w' gb B0 LB LR LC b r c :=
  ⟨(x.block gb (Array.getElem?_eq_some_iff.1 h.bk).1 hg).trans h.bk, h.lt, Nat.le_trans h.le x.size, h.ob.upd x (fun k hk => hS k (h.ob.lt k hk).1), h.or.upd x (fun k hk => hS k (h.or.lt k hk).1), h.oc.upd x (fun k hk => hS k (h.oc.lt k hk).1), h.nb, h.nr, h.nc, h.sbr, h.sbc, h.src⟩
/-- the blocks that the Book's methods may turn -/
def BookS (gb B0 : Nat) (k : Nat) : Prop := k = gb ∨ B0 ≤ k
theorem BookAt.put_b {w w3 : World} {gb B0 : Nat} {LB LR LC : List En} {b r c x : En} (h : BookAt w gb B0 LB LR LC b r c) (ob : Obj) {A3 : Option Addr} {c3 : Nat}
    (o3 : Own w3 B0 35 1 A3 (b.n + 1) c3 (ensC LB ++ [x.v])) (g3 : (w.alloc ob).grownBy w3 (blk b.A b.c)) (x3 : (A3 = b.A ∧ c3 = b.c) ∨ (blk A3 c3 = some (w.alloc ob).heap.size ∧ Ext (w.alloc ob) w3)) :
    BookAt (w3.setCell ⟨gb, 0, none⟩ (.slice A3 (b.n + 1) c3)) gb B0 (LB ++ [x]) LR LC ⟨A3, b.n + 1, c3⟩ r c ∧ Upd (BookS gb B0) w (w3.setCell ⟨gb, 0, none⟩ (.slice A3 (b.n + 1) c3)) := by
  have hsz := ((Ext.refl w).alloc ob).size
  have hrow : ∀ k, blk b.A b.c = some k → B0 ≤ k := fun k hk => (h.ob.lt k hk).1
  have hgb := (Array.getElem?_eq_some_iff.1 h.bk).1
  have u3 : Upd (fun k => blk b.A b.c = some k) w w3 := ((Upd.refl _ w).alloc ob).grown g3 (fun k hk => .inl hk)
  have ngb : ∀ {A : Option Addr} {c n : Nat} {e : TypeId} {xs : List Value}, Own w3 B0 e 1 A n c xs → blk A c ≠ some gb := fun o e => by have := (o.lt gb e).1; have := h.lt; omega
  have hnew : ∀ k, blk A3 c3 = some k → blk b.A b.c = some k ∨ w.heap.size ≤ k := fun k hk => by
    rcases x3 with ⟨rfl, rfl⟩ | ⟨h1, _⟩
    · exact .inl hk
    · rw [h1] at hk; injection hk with hk; exact .inr (by omega)
  have kr : Own w3 B0 _ 1 r.A r.n r.c _ := h.or.upd u3 (fun k hk e => h.sbr k e hk)
  have kc : Own w3 B0 _ 1 c.A c.n c.c _ := h.oc.upd u3 (fun k hk e => h.sbc k e hk)
  have bk3 : Bk w3 gb 71 (bookC b.v r.v c.v) := (u3.block gb hgb (fun e => by have := hrow gb e; have := h.lt; omega)).trans h.bk
  refine ⟨⟨bk3.set 0 _, h.lt, by rw [World.size_setCell]; exact Nat.le_trans h.le u3.size, ?_, ?_, ?_, ?_, ?_, ?_, ?_, ?_, ?_⟩, ?_⟩
  · rw [ensC_append]; exact o3.far (ngb o3) _
  · exact kr.far (ngb kr) _
  · exact kc.far (ngb kc) _
  · show b.n + 1 = _; rw [List.length_append, h.nb]; rfl
  · exact h.nr
  · exact h.nc
  · intro k hk e
    rcases hnew k hk with q | q
    · exact h.sbr k q e
    · have := (h.or.lt k e).2; omega
  · intro k hk e
    rcases hnew k hk with q | q
    · exact h.sbc k q e
    · have := (h.oc.lt k e).2; omega
  · exact h.src
  · exact (u3.mono (fun k _ hk => .inr (hrow k hk))).setCell (.inl (.inl rfl)) _
set_option maxRecDepth 100000 in
set_option maxHeartbeats 2000000 in
theorem bookBytes_any (gb B0 n cc : Nat) (A : Option Addr) (LB LR LC : List En) (b r c : En) (w : World) (h : Hid (BookAt w gb B0 LB LR LC b r c)) (hl : LB.length ≤ 100000) :
    Calls Tryd.prog 39 #[.pointer (some ⟨gb, 0, none⟩), .slice A n cc] w fun e w' => e = .returned (.tuple #[]) ∧ ∃ x, BookAt w' gb B0 (LB ++ [⟨A, n, cc⟩]) LR LC x r c ∧ Upd (BookS gb B0) w w' := by
  obtain ⟨bA, bn, bc⟩ := b
  obtain ⟨rA, rn, rc⟩ := r
  obtain ⟨cA, cn, cc'⟩ := c
  have hn : bn ≤ 100000 := by have : bn = LB.length := h.out.nb; omega
  have q := h.out.bk.cell 0
  have z := h.out.bk.free 0
  replace q : w.cell? ⟨gb, 0, none⟩ = some (.slice bA bn bc) := q
  have hle := h.out.le
  go_enter Tryd.func39, Tryd.ntmps39
  go_wp2_with (at_builtin; go_loud (refine wpList_append_two _ elemL_OwnBytes B0 _ _ rfl rfl bA bn bc (ensC LB) rfl (h.out.ob.alloc _) (some ⟨w.heap.size, 0, none⟩) 1 1 [.slice A n cc] rfl (Sl.one w #[.slice A n cc] 35 1 rfl) (ensC_one [⟨A, n, cc⟩]) (by omega) (by decide) (by have := ((Ext.refl w).alloc (.cells (#[.slice A n cc] : Array Value) 35)).size; omega) ?_); intro A3 c3 w3 o3 g3 x3; have HP := Lib.hid (h.out.put_b (x := ⟨A, n, cc⟩) _ o3 g3 x3); have b3 : Bk w3 gb 71 (bookC (.slice bA bn bc) (.slice rA rn rc) (.slice cA cn cc')) := (((Upd.refl (fun k => blk bA bc = some k) w).alloc _).grown g3 (fun k hk => .inl hk)).block gb (Array.getElem?_eq_some_iff.1 h.out.bk).1 (fun e => by have := (h.out.ob.lt gb e).1; have := h.out.lt; omega) |>.trans h.out.bk; have q3 := b3.cell 0; have z3 := b3.free 0; clear b3 o3 g3 x3)
  go_returns
  exact ⟨rfl, _, HP.out.1, HP.out.2⟩
theorem BookAt.put_r {w w3 : World} {gb B0 : Nat} {LB LR LC : List En} {b r c x : En} (h : BookAt w gb B0 LB LR LC b r c) (ob : Obj) {A3 : Option Addr} {c3 : Nat}
    (o3 : Own w3 B0 22 1 A3 (r.n + 1) c3 (ensC LR ++ [x.v])) (g3 : (w.alloc ob).grownBy w3 (blk r.A r.c)) (x3 : (A3 = r.A ∧ c3 = r.c) ∨ (blk A3 c3 = some (w.alloc ob).heap.size ∧ Ext (w.alloc ob) w3)) :
    BookAt (w3.setCell ⟨gb, 4, none⟩ (.slice A3 (r.n + 1) c3)) gb B0 LB (LR ++ [x]) LC b ⟨A3, r.n + 1, c3⟩ c ∧ Upd (BookS gb B0) w (w3.setCell ⟨gb, 4, none⟩ (.slice A3 (r.n + 1) c3)) := by
  have hsz := ((Ext.refl w).alloc ob).size
  have hrow : ∀ k, blk r.A r.c = some k → B0 ≤ k := fun k hk => (h.or.lt k hk).1
  have hgb := (Array.getElem?_eq_some_iff.1 h.bk).1
  have u3 : Upd (fun k => blk r.A r.c = some k) w w3 := ((Upd.refl _ w).alloc ob).grown g3 (fun k hk => .inl hk)
  have ngb : ∀ {A : Option Addr} {c n : Nat} {e : TypeId} {xs : List Value}, Own w3 B0 e 1 A n c xs → blk A c ≠ some gb := fun o e => by have := (o.lt gb e).1; have := h.lt; omega
  have hnew : ∀ k, blk A3 c3 = some k → blk r.A r.c = some k ∨ w.heap.size ≤ k := fun k hk => by
    rcases x3 with ⟨rfl, rfl⟩ | ⟨h1, _⟩
    · exact .inl hk
    · rw [h1] at hk; injection hk with hk; exact .inr (by omega)
  have kb : Own w3 B0 _ 1 b.A b.n b.c _ := h.ob.upd u3 (fun k hk e => h.sbr k hk e)
  have kc : Own w3 B0 _ 1 c.A c.n c.c _ := h.oc.upd u3 (fun k hk e => h.src k e hk)
  have bk3 : Bk w3 gb 71 (bookC b.v r.v c.v) := (u3.block gb hgb (fun e => by have := hrow gb e; have := h.lt; omega)).trans h.bk
  refine ⟨⟨bk3.set 4 _, h.lt, by rw [World.size_setCell]; exact Nat.le_trans h.le u3.size, ?_, ?_, ?_, ?_, ?_, ?_, ?_, ?_, ?_⟩, ?_⟩
  · exact kb.far (ngb kb) _
  · rw [ensC_append]; exact o3.far (ngb o3) _
  · exact kc.far (ngb kc) _
  · exact h.nb
  · show r.n + 1 = _; rw [List.length_append, h.nr]; rfl
  · exact h.nc
  · intro k hk e
    rcases hnew k e with q | q
    · exact h.sbr k hk q
    · have := (h.ob.lt k hk).2; omega
  · exact h.sbc
  · intro k hk e
    rcases hnew k hk with q | q
    · exact h.src k q e
    · have := (h.oc.lt k e).2; omega
  · exact (u3.mono (fun k _ hk => .inr (hrow k hk))).setCell (.inl (.inl rfl)) _
set_option maxRecDepth 100000 in
set_option maxHeartbeats 2000000 in
theorem bookRow_any (gb B0 n cc : Nat) (A : Option Addr) (LB LR LC : List En) (b r c : En) (w : World) (h : Hid (BookAt w gb B0 LB LR LC b r c)) (hl : LR.length ≤ 100000) :
    Calls Tryd.prog 35 #[.pointer (some ⟨gb, 0, none⟩), .slice A n cc] w fun e w' => e = .returned (.tuple #[]) ∧ ∃ x, BookAt w' gb B0 LB (LR ++ [⟨A, n, cc⟩]) LC b x c ∧ Upd (BookS gb B0) w w' := by
  obtain ⟨bA, bn, bc⟩ := b
  obtain ⟨rA, rn, rc⟩ := r
  obtain ⟨cA, cn, cc'⟩ := c
  have hn : rn ≤ 100000 := by have : rn = LR.length := h.out.nr; omega
  have q := h.out.bk.cell 4
  have z := h.out.bk.free 4
  replace q : w.cell? ⟨gb, 4, none⟩ = some (.slice rA rn rc) := q
  have hle := h.out.le
  go_enter Tryd.func35, Tryd.ntmps35
  go_wp2_with (at_builtin; go_loud (refine wpList_append_two _ elemL_OwnRow B0 _ _ rfl rfl rA rn rc (ensC LR) rfl (h.out.or.alloc _) (some ⟨w.heap.size, 0, none⟩) 1 1 [.slice A n cc] rfl (Sl.one w #[.slice A n cc] 22 1 rfl) (ensC_one [⟨A, n, cc⟩]) (by omega) (by decide) (by have := ((Ext.refl w).alloc (.cells (#[.slice A n cc] : Array Value) 22)).size; omega) ?_); intro A3 c3 w3 o3 g3 x3; have HP := Lib.hid (h.out.put_r (x := ⟨A, n, cc⟩) _ o3 g3 x3); have b3 : Bk w3 gb 71 (bookC (.slice bA bn bc) (.slice rA rn rc) (.slice cA cn cc')) := (((Upd.refl (fun k => blk rA rc = some k) w).alloc _).grown g3 (fun k hk => .inl hk)).block gb (Array.getElem?_eq_some_iff.1 h.out.bk).1 (fun e => by have := (h.out.or.lt gb e).1; have := h.out.lt; omega) |>.trans h.out.bk; have q3 := b3.cell 4; have z3 := b3.free 4; clear b3 o3 g3 x3)
  go_returns
  exact ⟨rfl, _, HP.out.1, HP.out.2⟩
theorem BookAt.put_c {w w3 : World} {gb B0 : Nat} {LB LR LC : List En} {b r c x : En} (h : BookAt w gb B0 LB LR LC b r c) (ob : Obj) {A3 : Option Addr} {c3 : Nat}
    (o3 : Own w3 B0 27 1 A3 (c.n + 1) c3 (ensC LC ++ [x.v])) (g3 : (w.alloc ob).grownBy w3 (blk c.A c.c)) (x3 : (A3 = c.A ∧ c3 = c.c) ∨ (blk A3 c3 = some (w.alloc ob).heap.size ∧ Ext (w.alloc ob) w3)) :
    BookAt (w3.setCell ⟨gb, 9, none⟩ (.slice A3 (c.n + 1) c3)) gb B0 LB LR (LC ++ [x]) b r ⟨A3, c.n + 1, c3⟩ ∧ Upd (BookS gb B0) w (w3.setCell ⟨gb, 9, none⟩ (.slice A3 (c.n + 1) c3)) := by
  have hsz := ((Ext.refl w).alloc ob).size
  have hrow : ∀ k, blk c.A c.c = some k → B0 ≤ k := fun k hk => (h.oc.lt k hk).1
  have hgb := (Array.getElem?_eq_some_iff.1 h.bk).1
  have u3 : Upd (fun k => blk c.A c.c = some k) w w3 := ((Upd.refl _ w).alloc ob).grown g3 (fun k hk => .inl hk)
  have ngb : ∀ {A : Option Addr} {c n : Nat} {e : TypeId} {xs : List Value}, Own w3 B0 e 1 A n c xs → blk A c ≠ some gb := fun o e => by have := (o.lt gb e).1; have := h.lt; omega
  have hnew : ∀ k, blk A3 c3 = some k → blk c.A c.c = some k ∨ w.heap.size ≤ k := fun k hk => by
    rcases x3 with ⟨rfl, rfl⟩ | ⟨h1, _⟩
    · exact .inl hk
    · rw [h1] at hk; injection hk with hk; exact .inr (by omega)
  have kb : Own w3 B0 _ 1 b.A b.n b.c _ := h.ob.upd u3 (fun k hk e => h.sbc k hk e)
  have kr : Own w3 B0 _ 1 r.A r.n r.c _ := h.or.upd u3 (fun k hk e => h.src k hk e)
  have bk3 : Bk w3 gb 71 (bookC b.v r.v c.v) := (u3.block gb hgb (fun e => by have := hrow gb e; have := h.lt; omega)).trans h.bk
  refine ⟨⟨bk3.set 9 _, h.lt, by rw [World.size_setCell]; exact Nat.le_trans h.le u3.size, ?_, ?_, ?_, ?_, ?_, ?_, ?_, ?_, ?_⟩, ?_⟩
  · exact kb.far (ngb kb) _
  · exact kr.far (ngb kr) _
  · rw [ensC_append]; exact o3.far (ngb o3) _
  · exact h.nb
  · exact h.nr
  · show c.n + 1 = _; rw [List.length_append, h.nc]; rfl
  · exact h.sbr
  · intro k hk e
    rcases hnew k e with q | q
    · exact h.sbc k hk q
    · have := (h.ob.lt k hk).2; omega
  · intro k hk e
    rcases hnew k e with q | q
    · exact h.src k hk q
    · have := (h.or.lt k hk).2; omega
  · exact (u3.mono (fun k _ hk => .inr (hrow k hk))).setCell (.inl (.inl rfl)) _
end Go.Proofs.YtngeioghihbkeaaDoor
namespace Go.Proofs.YtngeioghihbkeaaDoor
open Go.RowKit

def enC (x : Ct) : En := ⟨x.A, x.l.length, x.c⟩
theorem bookRow_lit (gb B0 n cc : Nat) (A : Option Addr) (LB LR LC : List En) (b r c : En) (w : World) (h : Hid (BookAt w gb B0 LB LR LC b r c)) (hl : LR.length ≤ 100000) :
    Calls Tryd.prog 35 #[.pointer (some ⟨gb, 0, none⟩), .slice A n cc] w fun e w' => e = .returned (.tuple #[]) ∧ ∃ x, BookAt w' gb B0 LB (LR ++ [⟨A, n, cc⟩]) LC b x c ∧ Upd (BookS gb B0) w w' := bookRow_any gb B0 n cc A LB LR LC b r c w h hl
set_option maxRecDepth 100000 in
set_option maxHeartbeats 4000000 in
theorem bookCounteds_any (gb B0 m cc : Nat) (A : Option Addr) (R : List Ct) (LB LR LC : List En) (b r c : En) (w : World) (h : Hid (BookAt w gb B0 LB LR LC b r c)) (hr : LR.length + m ≤ 100000) (hl : LC.length ≤ 100000) (hm : Hid (m = R.length)) (hs : Hid (Sl w 2 A m cc (ctsC R))) (hsep : Hid (∀ k, blk A cc = some k → ¬ BookS gb B0 k)) :
    Calls Tryd.prog 40 #[.pointer (some ⟨gb, 0, none⟩), .slice A m cc] w fun e w' => e = .returned (.tuple #[]) ∧ ∃ y z, BookAt w' gb B0 LB (LR ++ R.map enC) (LC ++ [⟨A, m, cc⟩]) b y z ∧ Upd (BookS gb B0) w w' := by
  have HP0 : Hid (BookAt w gb B0 LB (LR ++ (R.take 0).map enC) LC b r c ∧ Upd (BookS gb B0) w w) := Lib.hid ⟨by rw [List.take_zero, List.map_nil, List.append_nil]; exact h.out, Upd.refl _ _⟩
  go_enter Tryd.func40, Tryd.ntmps40
  go_wp2
  go_loopg [4] m (fun z v wr => ∃ (i : Nat) (r : En), z = m - i ∧ i ≤ m ∧ v = .int .i64 i ∧ Hid (BookAt wr gb B0 LB (LR ++ (R.take i).map enC) LC b r c ∧ Upd (BookS gb B0) w wr))
  case atStart => exact ⟨0, r, rfl, Nat.zero_le _, rfl, HP0⟩
  case round =>
    clear HP0
    obtain ⟨i, r, rfl, hi, rfl, HP⟩ := hrel
    by_cases hlt : i < m
    · have hil : i < R.length := by rw [← hm.out]; exact hlt
      obtain ⟨ad, rfl, p0, _⟩ := own_at2 (hs.out.upd HP.out.2 hsep.out) hlt (show ctC (R.getD i Ct.zero) = [.slice (R.getD i Ct.zero).A (R.getD i Ct.zero).l.length (R.getD i Ct.zero).c, .int .i64 (R.getD i Ct.zero).k] from rfl) (fun q hq => ctsC_at R i q hil hq)
      have HT : Hid (R.take (i + 1) = R.take i ++ [R.getD i Ct.zero]) := Lib.hid (by rw [List.take_succ_eq_append_getElem hil, List.getD_eq_getElem?_getD, List.getElem?_eq_getElem hil]; rfl)
      obtain ⟨x, hx⟩ : ∃ x, R.getD i Ct.zero = x := ⟨_, rfl⟩
      rw [hx] at p0 HT
      obtain ⟨nx, hnx⟩ : ∃ nx, x.l.length = nx := ⟨_, rfl⟩
      rw [hnx] at p0
      have HN := Lib.hid hnx
      have HB := Lib.hid HP.out.1
      have hlen : (LR ++ (R.take i).map enC).length ≤ 100000 := by rw [List.length_append, List.length_map, List.length_take]; omega
      clear hx hnx hil
      go_wp2_with (go_at_call 35; go_loud (refine (bookRow_lit gb B0 nx x.c x.A LB _ LC b r c _ HB hlen).mono ?_); rintro e w1 ⟨rfl, y1, b1, u1⟩; have B1 := Lib.hid b1; have U1 := Lib.hid u1; clear b1 u1)
      go_roundg (m - (i + 1))
      case measure => omega
      case rel => exact ⟨i + 1, y1, rfl, by omega, by go_num, Lib.hid ⟨by have := B1.out; rw [HT.out, List.map_append, ← List.append_assoc]; rw [← HN.out] at this; exact this, HP.out.2.trans U1.out⟩⟩
    · obtain rfl : i = m := by omega
      have hb := HP.out.1
      rw [show R.take i = R from List.take_of_length_le (by rw [← hm.out]; exact Nat.le_refl _)] at hb
      have HB := Lib.hid hb
      have HU := Lib.hid HP.out.2
      have hq := hb.bk.cell 9
      have hz := hb.bk.free 9
      have hn : c.n ≤ 100000 := by have := hb.nc; omega
      obtain ⟨cA, cn, cc'⟩ := c
      replace hq : wr.cell? ⟨gb, 9, none⟩ = some (.slice cA cn cc') := hq
      replace hn : cn ≤ 100000 := hn
      have hle := hb.le
      clear hb HP
      go_wp2_with (at_builtin; go_loud (refine wpList_append_two _ elemL_OwnCts B0 _ _ rfl rfl cA cn cc' (ensC LC) rfl (HB.out.oc.alloc _) (some ⟨wr.heap.size, 0, none⟩) 1 1 [.slice A i cc] rfl (Sl.one wr #[.slice A i cc] 27 1 rfl) (ensC_one [⟨A, i, cc⟩]) (by omega) (by decide) (by have := ((Ext.refl wr).alloc (.cells (#[.slice A i cc] : Array Value) 27)).size; omega) ?_); intro A3 c3 w3 o3 g3 x3; have HP := Lib.hid (HB.out.put_c (x := ⟨A, i, cc⟩) _ o3 g3 x3); have b3 : Bk w3 gb 71 (bookC b.v r.v (.slice cA cn cc')) := (((Upd.refl (fun k => blk cA cc' = some k) wr).alloc _).grown g3 (fun k hk => .inl hk)).block gb (Array.getElem?_eq_some_iff.1 HB.out.bk).1 (fun e => by have := (HB.out.oc.lt gb e).1; have := HB.out.lt; omega) |>.trans HB.out.bk; have q3 := b3.cell 9; have z3 := b3.free 9; clear b3 o3 g3 x3)
      go_returns
      exact ⟨rfl, _, _, HP.out.1, HU.out.trans HP.out.2⟩
/-- the blocks that Own writes into -/
def OwnS (LB LR LC : List En) (k : Nat) : Prop := Foot LB k ∨ Foot LR k ∨ Foot LC k
def Few (L : List En) : Prop := L.length ≤ 10000 ∧ ∀ i, i < L.length → (ena L i).n ≤ 1000000
set_option maxRecDepth 100000 in
set_option maxHeartbeats 8000000 in
theorem bookOwn_any (gb B0 B : Nat) (LB LR LC : List En) (b r c : En) (fB fR fC : Nat → List Value) (w : World) (h : Hid (BookAt w gb B0 LB LR LC b r c)) (hB : Hid (Lists w B 5 1 LB fB)) (hR : Hid (Lists w B 91 4 LR fR)) (hC : Hid (Lists w B 32 2 LC fC))
    (dBR : Hid (∀ k, Foot LB k → ¬ Foot LR k)) (dBC : Hid (∀ k, Foot LB k → ¬ Foot LC k)) (dRC : Hid (∀ k, Foot LR k → ¬ Foot LC k)) (hlt : Hid (∀ k, OwnS LB LR LC k → k < B0 ∧ k ≠ gb)) (nB : Hid (Few LB)) (nR : Hid (Few LR)) (nC : Hid (Few LC)) (hw : Hid (B ≤ w.heap.size)) :
    Calls Tryd.prog 41 #[.pointer (some ⟨gb, 0, none⟩)] w fun e w' => e = .returned (.bool true) ∧ Upd (OwnS LB LR LC) w w' := by
  have hgb : ∀ k, OwnS LB LR LC k → k ≠ gb := fun k hk => (hlt.out k hk).2
  have hn1 : b.n ≤ 10000 := by rw [h.out.nb]; exact nB.out.1
  have hn2 : r.n ≤ 10000 := by rw [h.out.nr]; exact nR.out.1
  have hn3 : c.n ≤ 10000 := by rw [h.out.nc]; exact nC.out.1
  have HG := Lib.hid hgb
  clear hgb
  have hbk := h.out.bk
  have q0 := hbk.cell 0
  replace q0 : w.cell? ⟨gb, 0, none⟩ = some (.slice b.A b.n b.c) := q0
  have HBk := Lib.hid hbk
  clear hbk
  go_enter Tryd.func41, Tryd.ntmps41
  go_wp2_with (first
    | (go_at_call 69; go_loud (refine (ownBytes_any b.A b.c b.n B LB _ _ (Lib.hid h.out.nb) (Lib.hid h.out.ob.sl) hB (Lib.hid (fun k hk => ⟨fun q => by have := (hlt.out k (.inl q)).1; have := (h.out.ob.lt k hk).1; omega, (h.out.ob.lt k hk).2⟩)) hn1 (Lib.hid nB.out.2) hw).mono ?_); rintro e w1 ⟨rfl, u_w1⟩; have U1 : Hid (Upd (OwnS LB LR LC) w w1) := Lib.hid (u_w1.mono (fun k _ hk => .inl hk)); have h1 : Hid (BookAt w1 gb B0 LB LR LC b r c) := Lib.hid (h.out.upd u_w1 (fun q => HG.out gb (.inl q) rfl) (fun k hk q => by have := (hlt.out k (.inl q)).1; omega)); have R1 := Lib.hid (hR.out.upd u_w1 (fun k hk q => dBR.out k q hk)); have C1 := Lib.hid (hC.out.upd u_w1 (fun k hk q => dBC.out k q hk)); have HBk_w1 := Lib.hid h1.out.bk; have q1 : w1.cell? ⟨gb, 1, none⟩ = some (.slice none 0 0) := HBk_w1.out.cell 1; have q2 : w1.cell? ⟨gb, 2, none⟩ = some (.slice none 0 0) := HBk_w1.out.cell 2; have q3 : w1.cell? ⟨gb, 3, none⟩ = some (.slice none 0 0) := HBk_w1.out.cell 3; have q4 : w1.cell? ⟨gb, 4, none⟩ = some (.slice r.A r.n r.c) := HBk_w1.out.cell 4; have q5 : w1.cell? ⟨gb, 5, none⟩ = some (.slice none 0 0) := HBk_w1.out.cell 5; have q6 : w1.cell? ⟨gb, 6, none⟩ = some (.slice none 0 0) := HBk_w1.out.cell 6; have q7 : w1.cell? ⟨gb, 7, none⟩ = some (.slice none 0 0) := HBk_w1.out.cell 7; have q8 : w1.cell? ⟨gb, 8, none⟩ = some (.slice none 0 0) := HBk_w1.out.cell 8; have q9 : w1.cell? ⟨gb, 9, none⟩ = some (.slice c.A c.n c.c) := HBk_w1.out.cell 9; have q10 : w1.cell? ⟨gb, 10, none⟩ = some (.slice none 0 0) := HBk_w1.out.cell 10; have q11 : w1.cell? ⟨gb, 11, none⟩ = some (.slice none 0 0) := HBk_w1.out.cell 11; have q12 : w1.cell? ⟨gb, 12, none⟩ = some (.slice none 0 0) := HBk_w1.out.cell 12; have q13 : w1.cell? ⟨gb, 13, none⟩ = some (.slice none 0 0) := HBk_w1.out.cell 13; have hw1 : Hid (B ≤ w1.heap.size) := Lib.hid (Nat.le_trans hw.out u_w1.size); clear u_w1)
    | (go_at_call 73; go_loud (refine (ownRow_any r.A r.c r.n B LR _ _ (Lib.hid h1.out.nr) (Lib.hid h1.out.or.sl) R1 (Lib.hid (fun k hk => ⟨fun q => by have := (hlt.out k (.inr (.inl q))).1; have := (h1.out.or.lt k hk).1; omega, (h1.out.or.lt k hk).2⟩)) hn2 (Lib.hid nR.out.2) hw1).mono ?_); rintro e w2 ⟨rfl, u_w2⟩; have U2 : Hid (Upd (OwnS LB LR LC) w w2) := Lib.hid (U1.out.trans (u_w2.mono (fun k _ hk => .inr (.inl hk)))); have h2 : Hid (BookAt w2 gb B0 LB LR LC b r c) := Lib.hid (h1.out.upd u_w2 (fun q => HG.out gb (.inr (.inl q)) rfl) (fun k hk q => by have := (hlt.out k (.inr (.inl q))).1; omega)); have C2 := Lib.hid (C1.out.upd u_w2 (fun k hk q => dRC.out k q hk)); have HBk_w2 := Lib.hid h2.out.bk; have q5 : w2.cell? ⟨gb, 5, none⟩ = some (.slice none 0 0) := HBk_w2.out.cell 5; have q6 : w2.cell? ⟨gb, 6, none⟩ = some (.slice none 0 0) := HBk_w2.out.cell 6; have q7 : w2.cell? ⟨gb, 7, none⟩ = some (.slice none 0 0) := HBk_w2.out.cell 7; have q8 : w2.cell? ⟨gb, 8, none⟩ = some (.slice none 0 0) := HBk_w2.out.cell 8; have q9 : w2.cell? ⟨gb, 9, none⟩ = some (.slice c.A c.n c.c) := HBk_w2.out.cell 9; have q10 : w2.cell? ⟨gb, 10, none⟩ = some (.slice none 0 0) := HBk_w2.out.cell 10; have q11 : w2.cell? ⟨gb, 11, none⟩ = some (.slice none 0 0) := HBk_w2.out.cell 11; have q12 : w2.cell? ⟨gb, 12, none⟩ = some (.slice none 0 0) := HBk_w2.out.cell 12; have q13 : w2.cell? ⟨gb, 13, none⟩ = some (.slice none 0 0) := HBk_w2.out.cell 13; have hw2 : Hid (B ≤ w2.heap.size) := Lib.hid (Nat.le_trans hw1.out u_w2.size); clear u_w2)
    | (go_at_call 78; go_loud (refine (ownCts_any c.A c.c c.n B LC _ _ (Lib.hid h2.out.nc) (Lib.hid h2.out.oc.sl) C2 (Lib.hid (fun k hk => ⟨fun q => by have := (hlt.out k (.inr (.inr q))).1; have := (h2.out.oc.lt k hk).1; omega, (h2.out.oc.lt k hk).2⟩)) hn3 (Lib.hid nC.out.2) hw2).mono ?_); rintro e w3 ⟨rfl, u_w3⟩; have U3 : Hid (Upd (OwnS LB LR LC) w w3) := Lib.hid (U2.out.trans (u_w3.mono (fun k _ hk => .inr (.inr hk)))); have h3 : Hid (BookAt w3 gb B0 LB LR LC b r c) := Lib.hid (h2.out.upd u_w3 (fun q => HG.out gb (.inr (.inr q)) rfl) (fun k hk q => by have := (hlt.out k (.inr (.inr q))).1; omega)); have HBk_w3 := Lib.hid h3.out.bk; have q10 : w3.cell? ⟨gb, 10, none⟩ = some (.slice none 0 0) := HBk_w3.out.cell 10; have q11 : w3.cell? ⟨gb, 11, none⟩ = some (.slice none 0 0) := HBk_w3.out.cell 11; have q12 : w3.cell? ⟨gb, 12, none⟩ = some (.slice none 0 0) := HBk_w3.out.cell 12; have q13 : w3.cell? ⟨gb, 13, none⟩ = some (.slice none 0 0) := HBk_w3.out.cell 13; clear u_w3)
    | (go_at_call 70; go_loud (refine (ownTexts_nil _).mono ?_); rintro e w9 ⟨rfl, rfl⟩)
    | (go_at_call 71; go_loud (refine (ownInts_nil _).mono ?_); rintro e w9 ⟨rfl, rfl⟩)
    | (go_at_call 72; go_loud (refine (ownWords_nil _).mono ?_); rintro e w9 ⟨rfl, rfl⟩)
    | (go_at_call 74; go_loud (refine (ownSorts_nil _).mono ?_); rintro e w9 ⟨rfl, rfl⟩)
    | (go_at_call 75; go_loud (refine (ownPairs_nil _).mono ?_); rintro e w9 ⟨rfl, rfl⟩)
    | (go_at_call 76; go_loud (refine (ownFaults_nil _).mono ?_); rintro e w9 ⟨rfl, rfl⟩)
    | (go_at_call 77; go_loud (refine (ownColumns_nil _).mono ?_); rintro e w9 ⟨rfl, rfl⟩)
    | (go_at_call 79; go_loud (refine (ownUpdates_nil _).mono ?_); rintro e w9 ⟨rfl, rfl⟩)
    | (go_at_call 80; go_loud (refine (ownTimes_nil _).mono ?_); rintro e w9 ⟨rfl, rfl⟩)
    | (go_at_call 81; go_loud (refine (ownExprs_nil _).mono ?_); rintro e w9 ⟨rfl, rfl⟩)
    | (go_at_call 82; go_loud (refine (ownRels_nil _).mono ?_); rintro e w9 ⟨rfl, rfl⟩)
    | fail)
  go_ret
  exact ⟨rfl, U3.out⟩
end Go.Proofs.YtngeioghihbkeaaDoor
