/- slices.Clone at rows. Conditions: the row is as readings give it, and not too long. -/
import Derived.Test.YtngeioghihbkeaaDoorCts
import Derived.Test.YtngeioghihbkeaaDoorTwo
namespace Go.Proofs.YtngeioghihbkeaaDoor
open Go.RowKit

theorem elem_dat : Elem Tryd.prog 23 91 4 32 (.agg #[.int .u8 0, .bool false, .int .i64 0, .string ⟨#[]⟩]) := ⟨by kernel_rfl, by kernel_rfl, rfl, by decide⟩
/-- a row that a call has made, in blocks from B on -/
def RowOut (B n : Nat) (l : List Dat) (e : Ending) (w' : World) : Prop := ∃ A c, e = .returned (.slice A n c) ∧ Own w' B 91 4 A n c (rowC l) ∧ (∀ ad, A = some ad → B ≤ ad.block ∧ ad.block < w'.heap.size)
theorem blk_some {A : Option Addr} {c g : Nat} (h : blk A c = some g) : ∃ ad, A = some ad ∧ ad.block = g := by
  cases A with
  | none => cases c <;> exact nomatch h
  | some ad =>
    cases c with
    | zero => exact nomatch h
    | succ c => exact ⟨ad, rfl, by injection h⟩
set_option maxRecDepth 100000 in
set_option maxHeartbeats 1000000 in
theorem cloneRow_any (A : Option Addr) (c n : Nat) (l : List Dat) (w : World) (hn : n = l.length) (h : Rw w A c l) (hs : n ≤ 1000000000) :
    Calls Tryd.prog 57 #[.slice A n c] w fun e w' => RowOut w.heap.size n l e w' ∧ Ext w w' := by
  have hnil := fun (W : World) => Lib.run_eql_slice_nil (P := Tryd.prog) W 23 91 A n c 0 0 Tryd.underlying23
  cases A with
  | none =>
    have hc : c = 0 := h.2.2.2.1 rfl
    have hn0 : n = 0 := by have := h.2.1; omega
    have hl : l = [] := List.eq_nil_of_length_eq_zero (by omega)
    subst hc hn0 hl
    clear h hn
    go_enter Tryd.func57, Tryd.ntmps57
    go_wp2
    go_ret
    exact ⟨⟨none, 0, rfl, Own.nil _ _ _ _, fun ad e => nomatch e⟩, Ext.refl w⟩
  | some ad =>
    have HN := Lib.hid hn
    have hh : Sl w 4 (some ad) n c (rowC l) := by rw [hn]; exact h
    have H := Lib.hid hh
    clear h hn hh
    go_enter Tryd.func57, Tryd.ntmps57
    go_wp2_with (at_builtin; (refine wpList_append_two _ elem_dat w.heap.size _ _ rfl rfl (some ⟨w.heap.size, 0, none⟩) 0 0 [] rfl ((Own.empty _ w.heap.size _ 4 _)) (some ad) n c (rowC l) rfl (Sl.ext H.out ((Ext.refl w).alloc _)) (rowC_one l) (by omega) (by decide) (by simp) ?_; intro A' c' w2 o2 g2 h2))
    go_ret
    refine ⟨⟨A', c', by simp, by simpa using o2, fun a e => ?_⟩, ((Ext.refl w).alloc _).grown g2 (by simp [blk])⟩
    subst e
    rcases h2 with ⟨e1, e2⟩ | ⟨e1, _⟩
    · injection e1 with e1
      subst e1
      exact ⟨Nat.le_refl _, Nat.lt_of_lt_of_le (by simp) g2.size⟩
    · obtain ⟨a2, e2, e3⟩ := blk_some e1
      injection e2 with e2
      have e4 : (w.alloc (.cells #[] 91)).heap.size = w.heap.size + 1 := by simp
      have e5 := (o2.lt _ e1).2
      rw [e2, e3]
      omega
end Go.Proofs.YtngeioghihbkeaaDoor
