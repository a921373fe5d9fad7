/- penstockref00.LentBytes, WholeBytes; bytes that come in. Conditions: the lists are as readings give them, and not too long. -/
import Derived.Test.YtngeioghihbkeaaDoorIntsLent
import Derived.Test.YtngeioghihbkeaaDoorRowUpto
namespace Go.Proofs.YtngeioghihbkeaaDoor
open Go.ChangeShapes Go.WideShapes Go.ChangeAt Go.RowKit Go.WideElems

def madeBytes (n : Nat) : Obj := .cells (madeCells #[.int .u8 0] (n * 1)) 5
theorem make_bytes (n : Nat) (hn : n ≤ 1000000000) (W : World) : (Instr.makeSlice 35 (.int .i64 0) (.int .i64 (n : Int))).run Tryd.prog W = .ok (.slice (some ⟨W.heap.size, 0, none⟩) 0 n) (W.alloc (madeBytes n)) := by
  obtain ⟨i, hi, hz, hs, hb⟩ := info_parts elem_byte.info
  have := run_make (P := Tryd.prog) (w := W) 35 5 i _ elem_byte.under hi hz .i64 .i64 0 (n : Int) (Int.le_refl _) (by omega) (by rw [hb]; omega) (by omega)
  rw [hs] at this
  exact this
theorem own_bytes (W : World) (n : Nat) (hn : n ≤ 1000000000) : Own (W.alloc (madeBytes n)) W.heap.size 5 1 (some ⟨W.heap.size, 0, none⟩) 0 n [] :=
  ⟨rfl, .inr ⟨W.heap.size, _, rfl, Nat.le_refl _, heap_alloc_new W _, Nat.zero_le _, by unfold maxLen; omega, size_madeCells _ _, rfl⟩⟩
def marksB : List UInt8 := [91, 92]
def LentBR (w : World) (n : Nat) (l : List UInt8) (e : Ending) (w' : World) : Prop := ∃ g, e = .returned (.slice (some ⟨g, 0, none⟩) n (n + 2)) ∧ w.heap.size ≤ g ∧ Own w' w.heap.size 5 1 (some ⟨g, 0, none⟩) (n + 2) (n + 2) (Lib.byteCells (l ++ marksB)) ∧ Ext w w'
set_option maxRecDepth 100000 in
set_option maxHeartbeats 2000000 in
theorem lentBytes_any (A : Option Addr) (c n : Nat) (l : List UInt8) (w : World) (hn : Hid (n = l.length)) (h : Hid (Bs w A c l)) (hs : n ≤ 100000000) :
    Calls Tryd.prog 28 #[.slice A n c] w (LentBR w n l) := by
  have hmk2 : ∀ W : World, (Instr.makeSlice 35 (.int .i64 0) (.int .i64 ((n : Int) + 2))).run Tryd.prog W = .ok (.slice (some ⟨W.heap.size, 0, none⟩) 0 (n + 2)) (W.alloc (madeBytes (n + 2))) := make_bytes (n + 2) (by omega)
  have m1 : True := trivial
  go_enter Tryd.func28, Tryd.ntmps28
  go_wp2_with (first
    | (at_builtin; have mk := m1; clear m1; go_loud (refine wpList_append_fit _ elem_byte w.heap.size _ _ rfl rfl w.heap.size 0 (n + 2) [] rfl (own_bytes w (n + 2) (by omega)) (by omega) A n c (Lib.byteCells l) rfl (by rw [hn.out]; exact Sl.ext h.out ((Ext.refl w).alloc _)) (bytes_oneCell l) (by omega) ?_); intro w1 o1 g1; have O1 := Lib.hid o1; have X1 : Ext w w1 := ((Ext.refl w).alloc _).grown g1 (fun k e => by cases e; exact Nat.le_refl _); have m2 : True := trivial; clear o1 g1)
    | (at_builtin; have mk := m2; go_loud (refine wpList_append_fit _ elem_byte w.heap.size _ _ rfl rfl w.heap.size n (n + 2) (Lib.byteCells l) rfl (by have := O1.out.alloc (.cells (#[.int .u8 91, .int .u8 92] : Array Value) 5); rwa [List.nil_append, Nat.zero_add] at this) (by omega) (some ⟨w1.heap.size, 0, none⟩) 2 2 (Lib.byteCells marksB) rfl (sl_new w1 (ys := marksB) rfl rfl (by decide)) (bytes_oneCell marksB) (by omega) ?_); intro w2 o2 g2; have O2 := Lib.hid o2; have X2 : Ext w w2 := (X1.alloc _).grown g2 (fun k e => by cases e; exact Nat.le_refl _); clear o2 g2))
  go_ret
  exact ⟨w.heap.size, by simp, Nat.le_refl _, by have := O2.out; rwa [← cells_append] at this, X2⟩
theorem lentBytes_is {w : World} {B g n : Nat} {l : List UInt8} (hn : n = l.length) (o : Own w B 5 1 (some ⟨g, 0, none⟩) (n + 2) (n + 2) (Lib.byteCells (l ++ marksB))) : Bs w (some ⟨g, 0, none⟩) (n + 2) (l ++ marksB) := by
  unfold Bs
  rw [List.length_append, ← hn]
  exact Own.sl o
theorem bs_left {w : World} {A : Option Addr} {c : Nat} {l m : List UInt8} (h : Bs w A c (l ++ m)) : Bs w A c l := by
  have := Sl.take (k := l.length) (show Sl w 1 A (l ++ m).length c (Lib.byteCells (l ++ m)) from h) (by rw [List.length_append]; omega)
  rw [cells_append, Nat.mul_one, show l.length = (Lib.byteCells l).length from (Lib.byteCells_length l).symm, List.take_left, show (Lib.byteCells l).length = l.length from Lib.byteCells_length l] at this
  exact this
theorem marksB_at (l : List UInt8) {n : Nat} (hn : n = l.length) : (l ++ marksB).getD n 0 = 91 ∧ (l ++ marksB).getD (n + 1) 0 = 92 := by
  subst hn
  rw [List.getD_eq_getElem?_getD, List.getD_eq_getElem?_getD, List.getElem?_append_right (Nat.le_refl _), List.getElem?_append_right (by omega), Nat.sub_self, show l.length + 1 - l.length = 1 by omega]
  exact ⟨rfl, rfl⟩
set_option maxRecDepth 100000 in
set_option maxHeartbeats 2000000 in
theorem wholeBytes_any (A1 A2 : Option Addr) (c1 c2 n m : Nat) (l : List UInt8) (w : World) (hn : Hid (n = l.length)) (hm : Hid (m = n)) (hs : n ≤ 1000000000) (h1 : Hid (Bs w A1 c1 (l ++ marksB))) (h2 : Hid (Bs w A2 c2 l)) :
    Calls Tryd.prog 32 #[.slice A1 n c1, .slice A2 m c2] w fun e w' => e = .returned (.bool true) ∧ Ext w w' := by
  have hmn := hm.out
  subst hmn
  have hc : m + 2 ≤ c1 := by have := (Sl.cap (show Sl w 1 A1 (l ++ marksB).length c1 (Lib.byteCells (l ++ marksB)) from h1.out)).1; rw [List.length_append, ← hn.out] at this; exact this
  have hc9 := (Sl.cap (show Sl w 1 A1 (l ++ marksB).length c1 (Lib.byteCells (l ++ marksB)) from h1.out)).2
  obtain ⟨e1, e2⟩ := marksB_at l hn.out
  obtain ⟨ad, rfl, p0⟩ := h1.out.at (i := m) (by rw [List.length_append, ← hn.out]; show m < m + 2; omega)
  obtain ⟨ad', e3, q0⟩ := h1.out.at (i := m + 1) (by rw [List.length_append, ← hn.out]; show m + 1 < m + 2; omega)
  obtain rfl : ad = ad' := by injection e3
  rw [e1, show ((91 : UInt8).toNat : Int) = 91 from rfl] at p0
  rw [e2, show ((92 : UInt8).toNat : Int) = 92 from rfl] at q0
  have q0' : w.cell? ⟨ad.block, ad.off + (m + 1), none⟩ = some (.int .u8 92) := by
    have := q0
    unfold Addr.add at this
    rwa [if_neg (by omega)] at this
  have H1 := Lib.hid (bs_left h1.out)
  have hcd : ¬ c1 < m + 2 := by omega
  clear e1 e2 e3 hm
  go_enter Tryd.func32, Tryd.ntmps32
  go_wp2_with (go_at_call 38; refine (sameBytes_lit (some ad) A2 c1 c2 m m l _ hn (Lib.hid rfl) H1 h2).mono ?_; rintro e w1 ⟨rfl, x1⟩)
  go_ret
  exact ⟨rfl, x1⟩
section
variable {H : Type} {enc : TypeId × Value → H} {W : World}
set_option maxRecDepth 100000 in
theorem come_bytes {base : Nat} {v : Value} {d : DataW H} {p : List MemPlace} (hv : Value.okWide Tryd.prog W .any base 35 v) (h : DataW.Trod enc Tryd.prog W 0 (fun _ => true) true 35 v d p) :
    ∃ A c l, v = .slice A l.length c ∧ Bs W A c l := by
  obtain ⟨A', n', c', rfl⟩ := okWide_slice Tryd.underlying35 hv
  obtain ⟨fuel, hf⟩ := h
  rcases open_ints Tryd.underlying35 Tryd.underlying5 (by kernel_rfl) hf with ⟨hcs, _⟩ | ⟨a, n, c, zs, hcs, _, hnc, hcm, hzl, _, hcell, hwf⟩
  · have e : (Value.slice A' n' c') = .slice none 0 0 := by injection hcs
    obtain ⟨rfl, rfl, rfl⟩ : A' = none ∧ n' = 0 ∧ c' = 0 := by simpa using e
    exact ⟨none, 0, [], rfl, Sl.nil W 1⟩
  · have e : (Value.slice A' n' c') = .slice (some a) n c := by injection hcs
    obtain ⟨rfl, rfl, rfl⟩ : A' = some a ∧ n' = n ∧ c' = c := by simpa using e
    have hz : zs.length = c' := by simpa using hzl
    have hl : ((zs.take n').map fun x => UInt8.ofNat x.toNat).length = n' := by rw [List.length_map, List.length_take]; omega
    refine ⟨some a, c', (zs.take n').map fun x => UInt8.ofNat x.toNat, by rw [hl], ⟨by rw [Lib.byteCells_length, Nat.mul_one], by rw [hl]; exact hnc, hcm, (fun h => nomatch h), fun _ => ⟨a, rfl, fun j u hu => ?_⟩⟩⟩
    simp only [Lib.byteCells, List.getElem?_map, List.getElem?_take] at hu
    split at hu
    · rename_i hj
      have hc1 := hcell j (by omega)
      rw [List.getD_eq_getElem?_getD, List.getElem?_eq_getElem (show j < zs.length by omega)] at hc1
      rw [List.getElem?_eq_getElem (show j < zs.length by omega)] at hu
      simp only [Option.map_some, Option.some.injEq] at hu
      have hw := wf_u8 (hwf _ (List.getElem_mem (show j < zs.length by omega)))
      rw [← hu, hc1, Option.getD_some]
      have e3 : ((UInt8.ofNat (zs[j]'(by omega)).toNat).toNat : Int) = zs[j]'(by omega) := by
        have : (zs[j]'(by omega)).toNat < 256 := by omega
        simp only [UInt8.toNat_ofNat']
        omega
      rw [e3]
    · cases hu
end
end Go.Proofs.YtngeioghihbkeaaDoor
