/- row.Pick: any row, any columns. Conditions: the row is as readings give it. -/
import Derived.Test.YtngeioghihbkeaaDoorRowHash
import Derived.Test.YtngeioghihbkeaaDoorRowClone
import Derived.Test.YtngeioghihbkeaaDoorSumAll
namespace Go.Proofs.YtngeioghihbkeaaDoor
open Go.RowKit Go.Maps

def madeRow (n : Nat) : Obj := .cells (madeCells #[.int .u8 0, .bool false, .int .i64 0, .string ⟨#[]⟩] (n * 4)) 91
theorem make_row (n : Nat) (hn : n ≤ 1000000000) (W : World) : (Instr.makeSlice 23 (.int .i64 0) (.int .i64 (n : Int))).run Tryd.prog W = .ok (.slice (some ⟨W.heap.size, 0, none⟩) 0 n) (W.alloc (madeRow n)) := by
  obtain ⟨i, hi, hz, hs, hb⟩ := info_parts elem_dat.info
  have := run_make (P := Tryd.prog) (w := W) 23 91 i _ elem_dat.under hi hz .i64 .i64 0 (n : Int) (Int.le_refl _) (by omega) (by rw [hb]; omega) (by omega)
  rw [hs] at this
  exact this
theorem own_made (W : World) (n : Nat) (hn : n ≤ 1000000000) : Own (W.alloc (madeRow n)) W.heap.size 91 4 (some ⟨W.heap.size, 0, none⟩) 0 n [] :=
  ⟨rfl, .inr ⟨W.heap.size, _, rfl, Nat.le_refl _, heap_alloc_new W _, Nat.zero_le _, by unfold maxLen; omega, size_madeCells _ _, rfl⟩⟩
def pickL (l : List Dat) (cs : List Int) : List Dat := cs.map fun c => l.getD c.toNat Dat.zero
def pickOk (l : List Dat) (cs : List Int) : Prop := cs.length ≤ 32 ∧ ∀ c ∈ cs, 0 ≤ c ∧ c < (l.length : Int)
theorem take_snocI {α : Type} {l : List α} {i : Nat} (h : i < l.length) (d : α) : l.take (i + 1) = l.take i ++ [l.getD i d] := by
  rw [List.take_succ_eq_append_getElem h, List.getD_eq_getElem?_getD, List.getElem?_eq_getElem h]
  rfl
theorem pickL_snoc (l : List Dat) (cs : List Int) {i : Nat} (h : i < cs.length) : rowC (pickL l (cs.take (i + 1))) = rowC (pickL l (cs.take i)) ++ datC (l.getD (cs.getD i 0).toNat Dat.zero) := by
  unfold pickL
  rw [take_snocI h 0, List.map_append, rowC_append]
  exact congrArg _ (List.append_nil _)
theorem pickL_len (l : List Dat) (cs : List Int) : (pickL l cs).length = cs.length := List.length_map ..
/-- what Pick answers -/
def PickOut (w : World) (l : List Dat) (cs : List Int) (e : Ending) (w' : World) : Prop := Ext w w' ∧ ((pickOk l cs ∧ ∃ A c, e = .returned (.tuple #[.slice A cs.length c, .int .u16 0]) ∧ Rw w' A c (pickL l cs)) ∨ (¬ pickOk l cs ∧ e = .returned (.tuple #[.slice none 0 0, .int .u16 20])))
section
variable (A C : Option Addr) (c cc n nc : Nat) (l : List Dat) (cs : List Int) (w : World) (e1 : Hid (n = l.length)) (e2 : Hid (nc = cs.length)) (h1 : Hid (Rw w A c l)) (h2 : Hid (Is w C cc cs))
include e2 in
set_option maxRecDepth 100000 in
set_option maxHeartbeats 1000000 in
theorem pick_long (h : 32 < nc) : Calls Tryd.prog 26 #[.slice A n c, .slice C nc cc] w (PickOut w l cs) := by
  go_enter Tryd.func26, Tryd.ntmps26
  go_wp2
  go_ret2
  exact ⟨Ext.refl w, .inr ⟨fun q => by have := q.1; rw [← e2.out] at this; omega, rfl⟩⟩
include e1 e2 h1 h2
set_option maxRecDepth 100000 in
set_option maxHeartbeats 4000000 in
theorem pick_short (h : nc ≤ 32) : Calls Tryd.prog 26 #[.slice A n c, .slice C nc cc] w (PickOut w l cs) := by
  have hn9 : n ≤ 9223372036854775807 := by have := h1.out.le; rw [← e1.out] at this; exact this
  have hmk := make_row nc (by omega)
  have OM := Lib.hid (own_made w nc (by omega))
  go_enter Tryd.func26, Tryd.ntmps26
  go_wp2
  go_loopg [6, 17] nc (fun z u v wr => ∃ (i c0 : Nat) (A0 : Option Addr), z = nc - i ∧ i ≤ nc ∧ v = .int .i64 i ∧ u = .slice A0 i c0 ∧ Hid (∀ c ∈ cs.take i, 0 ≤ c ∧ c < (l.length : Int)) ∧ Hid (Own wr w.heap.size 91 4 A0 i c0 (rowC (pickL l (cs.take i)))) ∧ Ext w wr)
  case atStart => exact ⟨0, nc, _, by omega, Nat.zero_le _, rfl, rfl, Lib.hid (fun c hc => nomatch hc), OM, (Ext.refl w).alloc _⟩
  case round =>
    obtain ⟨i, c0, A0, rfl, hi1, rfl, rfl, HC, HO, er⟩ := hrel
    have ER := Lib.hid er
    clear er hmk OM
    by_cases hlt : i < nc
    · have hil : i < cs.length := by rw [← e2.out]; exact hlt
      obtain ⟨a1, rfl, p0⟩ := (h2.out.ext ER.out).at hil
      have HS := Lib.hid (pickL_snoc l cs hil)
      have HT := Lib.hid (take_snocI hil 0)
      obtain ⟨q, hq⟩ : ∃ q, cs.getD i 0 = q := ⟨_, rfl⟩
      rw [hq] at p0 HS HT
      have HQ : Hid (q ∈ cs) := Lib.hid (by rw [← hq, List.getD_eq_getElem?_getD, List.getElem?_eq_getElem hil]; exact List.getElem_mem hil)
      clear hq
      by_cases hin : 0 ≤ q ∧ q < (n : Int)
      · obtain ⟨j, rfl⟩ := Int.eq_ofNat_of_zero_le hin.1
        have hjn : j < n := by omega
        have hj : j < l.length := by rw [← e1.out]; exact hjn
        obtain ⟨a2, rfl, d0, d1, d2, d3⟩ := (h1.out.ext ER.out).at hj
        have HS2 : Hid (rowC (pickL l (cs.take (i + 1))) = rowC (pickL l (cs.take i)) ++ datC (l.getD j Dat.zero)) := Lib.hid (by rw [HS.out]; rfl)
        obtain ⟨d, hd⟩ : ∃ d, l.getD j Dat.zero = d := ⟨_, rfl⟩
        rw [hd] at d0 d1 d2 d3 HS2
        clear hd HS
        obtain ⟨ka, ba, na, sa⟩ := d
        simp only at d0 d1 d2 d3
        go_wp2_with (at_builtin; go_loud (refine wpList_append_two _ elem_dat w.heap.size _ _ rfl rfl A0 i c0 (rowC (pickL l (cs.take i))) rfl (HO.out.alloc _) _ 1 1 [.int .u8 ka, .bool ba, .int .i64 na, .string sa] rfl (Sl.one _ _ _ 4 rfl) (rowC_one [⟨ka, ba, na, sa⟩]) (by omega) (by decide) (by have := ER.out.size; simp; omega) ?_; intro A1 k1 w1 o1 g1 x1; clear x1; have O1 := Lib.hid o1; have X1 : Hid (Ext w w1) := Lib.hid ((ER.out.alloc _).grown g1 (fun k e => (HO.out.lt k e).1)); clear o1 g1))
        go_roundg (nc - (i + 1))
        case measure => omega
        case rel => exact ⟨i + 1, k1, A1, rfl, by omega, by go_num, rfl, Lib.hid (fun c hc => by rw [HT.out] at hc; rcases List.mem_append.1 hc with hc | hc; exact HC.out c hc; rw [List.mem_singleton] at hc; subst hc; rw [← e1.out]; exact hin), Lib.hid (by rw [HS2.out]; exact O1.out), X1.out⟩
      · have HN : Hid (¬ pickOk l cs) := Lib.hid (fun o => hin (by have := o.2 q HQ.out; rw [← e1.out] at this; exact this))
        rcases Int.lt_or_le q 0 with q1 | q1
        · go_wp2
          go_ret2
          exact ⟨ER.out, .inr ⟨HN.out, rfl⟩⟩
        · have q2 : (n : Int) ≤ q := by omega
          go_wp2
          go_ret2
          exact ⟨ER.out, .inr ⟨HN.out, rfl⟩⟩
    · obtain rfl : i = nc := by omega
      have HT : Hid (cs.take i = cs) := Lib.hid (List.take_of_length_le (by rw [← e2.out]; exact Nat.le_refl _))
      go_wp2
      go_ret2
      refine ⟨ER.out, .inl ⟨⟨by rw [← e2.out]; exact h, fun c hc => HC.out c (by rw [HT.out]; exact hc)⟩, A0, c0, by rw [← e2.out]; rfl, ?_⟩⟩
      have := HO.out.sl
      rw [HT.out] at this
      unfold Rw
      rw [pickL_len, ← e2.out]
      exact this
theorem pick_any : Calls Tryd.prog 26 #[.slice A n c, .slice C nc cc] w (PickOut w l cs) := by
  by_cases h : nc ≤ 32
  · exact pick_short A C c cc n nc l cs w e1 e2 h1 h2 h
  · exact pick_long A C c cc n nc l cs w e2 (by omega)
end
end Go.Proofs.YtngeioghihbkeaaDoor
