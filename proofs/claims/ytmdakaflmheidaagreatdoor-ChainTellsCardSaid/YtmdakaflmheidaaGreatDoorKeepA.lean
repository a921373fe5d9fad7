/- What is new memory, from where to where; lists of lists out of such. Conditions: none. -/
import Derived.Test.YtmdakaflmheidaaGreatDoorOwnLaw
namespace Go.Proofs.YtmdakaflmheidaaGreatDoor
open Go.RowKit

theorem Own.base {w : World} {B B' s n c : Nat} {e : TypeId} {A : Option Addr} {xs : List Value} (h : Own w B e s A n c xs) (hb : ∀ k, blk A c = some k → B' ≤ k) : Own w B' e s A n c xs := by
  refine ⟨h.1, ?_⟩
  rcases h.2 with hz | ⟨g, cur, rfl, _, hg, hnc, rest⟩
  · exact .inl hz
  · cases c with
    | zero => exact .inl ⟨rfl, by omega⟩
    | succ c => exact .inr ⟨g, cur, rfl, hb g rfl, hg, hnc, rest⟩
/-- new memory from lo on, below hi -/
structure KP (w : World) (lo hi : Nat) (e : TypeId) (size : Nat) (x : En) (xs : List Value) : Prop where
  own : Own w lo e size x.A x.n x.c xs
  top : ∀ k, x.b = some k → k < hi
theorem KP.ext {w w' : World} {lo hi : Nat} {e : TypeId} {size : Nat} {x : En} {xs : List Value} (h : KP w lo hi e size x xs) (y : Ext w w') : KP w' lo hi e size x xs := ⟨h.own.ext y, h.top⟩
theorem KP.upd {S : Nat → Prop} {w w' : World} {lo hi : Nat} {e : TypeId} {size : Nat} {x : En} {xs : List Value} (h : KP w lo hi e size x xs) (y : Upd S w w') (hS : ∀ k, lo ≤ k → k < hi → ¬ S k) : KP w' lo hi e size x xs :=
  ⟨h.own.upd y (fun k hk => hS k (h.own.lt k hk).1 (h.top k hk)), h.top⟩
theorem KP.of {w : World} {lo : Nat} {e : TypeId} {size n c : Nat} {A : Option Addr} {xs : List Value} (h : Own w lo e size A n c xs) : KP w lo w.heap.size e size ⟨A, n, c⟩ xs := ⟨h, fun k hk => (h.lt k hk).2⟩
theorem KP.iv {w w' : World} {lo hi : Nat} {e : TypeId} {size : Nat} {x : En} {xs : List Value} (h : KP w lo hi e size x xs) (u : Upd (fun k => blk x.A x.c = some k) w w') : Upd (fun k => lo ≤ k ∧ k < hi) w w' :=
  u.mono (fun k _ hk => ⟨(h.own.lt k hk).1, h.top k hk⟩)
theorem ext_upd {S : Nat → Prop} {a w w' : World} (h : Ext a w) (u : Upd S w w') (hS : ∀ k, S k → a.heap.size ≤ k) : Ext a w' :=
  ⟨u.os.trans (Below.os h), u.tape.trans (Below.tape h), u.output.trans (Below.output h), Nat.le_trans h.size u.size, fun k hk => (u.block k (Nat.lt_of_lt_of_le hk h.size) (fun q => by have := hS k q; omega)).trans (Below.block h k hk)⟩
/-- lists with what they hold -/
def HoldAll (w : World) (B : Nat) (e : TypeId) (size : Nat) (P : List (En × List Value)) : Prop := ∀ p ∈ P, Own w B e size p.1.A p.1.n p.1.c p.2
def Far (P : List (En × List Value)) : Prop := P.Pairwise fun p q => ∀ k, p.1.b = some k → q.1.b ≠ some k
theorem lists_of {w : World} {B : Nat} {e : TypeId} {size : Nat} {P : List (En × List Value)} (h : HoldAll w B e size P) (hf : Far P) : Lists w B e size (P.map (·.1)) (fun i => (P.getD i (En.zero, [])).2) := by
  have key : ∀ i, (hi : i < (P.map (·.1)).length) → ∃ h2 : i < P.length, ena (P.map (·.1)) i = P[i].1 ∧ (P.getD i (En.zero, [])).2 = P[i].2 := fun i hi => by
    have h2 : i < P.length := by rwa [List.length_map] at hi
    refine ⟨h2, ?_, ?_⟩
    · unfold ena
      rw [List.getD_eq_getElem?_getD, List.getElem?_map, List.getElem?_eq_getElem h2]
      rfl
    · rw [List.getD_eq_getElem?_getD, List.getElem?_eq_getElem h2]
      rfl
  refine ⟨fun i hi => ?_, fun i j hi hj hij k h1 h2 => ?_⟩
  · obtain ⟨q, e1, e2⟩ := key i hi
    rw [e1, e2]
    exact h _ (List.getElem_mem q)
  · obtain ⟨q1, e1, _⟩ := key i hi
    obtain ⟨q2, e2, _⟩ := key j hj
    rw [e1] at h1
    rw [e2] at h2
    rcases Nat.lt_or_gt_of_ne hij with q | q
    · exact List.pairwise_iff_getElem.1 hf i j q1 q2 q k h1 h2
    · exact List.pairwise_iff_getElem.1 hf j i q2 q1 q k h2 h1
theorem foot_mem {L : List En} {k : Nat} (h : Foot L k) : ∃ x ∈ L, x.b = some k := by
  obtain ⟨i, hi, hb⟩ := h
  refine ⟨ena L i, ?_, hb⟩
  unfold ena
  rw [List.getD_eq_getElem?_getD, List.getElem?_eq_getElem hi]
  exact List.getElem_mem hi
theorem bk_upd {S : Nat → Prop} {w w' : World} {g : Nat} {t : TypeId} {cs : Array Value} (h : Bk w g t cs) (u : Upd S w w') (hn : ¬ S g) : Bk w' g t cs := (u.block g (Array.getElem?_eq_some_iff.1 h).1 hn).trans h
theorem upd_cell (w : World) (g j : Nat) (u : Value) : Upd (fun k => k = g) w (w.setCell ⟨g, j, none⟩ u) := (Upd.refl (fun k => k = g) w).setCell (p := ⟨g, j, none⟩) (Or.inl rfl) u
end Go.Proofs.YtmdakaflmheidaaGreatDoor
