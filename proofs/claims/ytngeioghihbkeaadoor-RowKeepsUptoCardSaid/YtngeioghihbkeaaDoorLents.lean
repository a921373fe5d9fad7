/- penstockref00.SameInts, SameBytes, LentInts, WholeInts. penstockref00.LentBytes, WholeBytes; bytes that come in. Conditions: each theorem states its own. -/
import Derived.Test.YtngeioghihbkeaaDoorHashes
import Derived.Test.YtngeioghihbkeaaDoorRowL
import Derived.Test.YtngeioghihbkeaaDoorRowEncs
import Derived.Deep.LoopGhost
import Derived.Test.YtngeioghihbkeaaDoorComes
namespace Go.Proofs.YtngeioghihbkeaaDoor
open Go.RowKit

set_option maxRecDepth 100000 in
set_option maxHeartbeats 1000000 in
theorem sameInts_any (A1 A2 : Option Addr) (c1 c2 n m : Nat) (l : List Int) (w : World) (hn : n = l.length) (hm : m = n) (h1 : Is w A1 c1 l) (h2 : Is w A2 c2 l) :
    Calls Tryd.prog 87 #[.slice A1 n c1, .slice A2 m c2] w fun e w' => e = .returned (.bool true) ∧ Ext w w' := by
  subst hm
  have hnm : l.length ≤ 9223372036854775807 := Sl.le h1
  rw [← hn] at hnm
  have HN := Lib.hid hn
  have H1 := Lib.hid h1
  have H2 := Lib.hid h2
  clear hn h1 h2
  go_enter Tryd.func87, Tryd.ntmps87
  go_wp2
  go_loopw [5] (fun v wr => ∃ i : Nat, i ≤ m ∧ v = .int .i64 i ∧ Ext w wr) (fun v _ => m - (intOf v).toNat)
  case atStart => exact ⟨0, Nat.zero_le _, rfl, Ext.refl _⟩
  case round =>
    obtain ⟨i, hi, rfl, er⟩ := hrel
    by_cases hlt : i < m
    · have hil : i < l.length := by rw [← HN.out]; exact hlt
      obtain ⟨ad, rfl, p0⟩ := (H1.out.ext er).at hil
      obtain ⟨bd, rfl, q0⟩ := (H2.out.ext er).at hil
      obtain ⟨d, hd⟩ : ∃ d, l.getD i 0 = d := ⟨_, rfl⟩
      rw [hd] at p0 q0
      have XE : Ext wr wr.drew := (Ext.refl wr).drew
      have P0 : ∀ z : Xt wr.drew, z.W.cell? (ad.add i) = some (.int .i64 d) := fun z => (XE.trans z.x).cell p0
      have Q0 : ∀ z : Xt wr.drew, z.W.cell? (bd.add i) = some (.int .i64 d) := fun z => (XE.trans z.x).cell q0
      clear hil hd
      go_upto_region 6 with fail
      refine wp_region_ord [0,0,3,7,0,0,48,112,255] (.flo [0,1,2,3,4,5,6,7,8] (.fin)) (by kernel_rfl) (by kernel_rfl) (by intro _ _ d _ _ h; cases d <;> exact h) ?_
      (refine ord_flo (pick_cons rfl (pick_cons rfl (pick_cons rfl (pick_cons rfl (pick_cons rfl (pick_cons rfl (pick_cons rfl (pick_cons rfl (pick_cons rfl pick_nil))))))))) ?_; (repeat (go_big_quiet_step (fail))); refine wpQuiet_nil ?_; show ordWalk _ _ _ _ _ _ _)
      refine ord_fin ?_
      go_wp2
      go_roundw
      case rel => exact ⟨i + 1, by omega, by go_num, er.trans XE⟩
      case measure => simp [intOf]; omega
    · go_wp2
      go_ret
      exact ⟨rfl, er⟩
theorem sameInts_lit (A1 A2 : Option Addr) (c1 c2 n m : Nat) (l : List Int) (w : World) (hn : Hid (n = l.length)) (hm : Hid (m = n)) (h1 : Hid (Is w A1 c1 l)) (h2 : Hid (Is w A2 c2 l)) :
    Calls Tryd.prog 87 #[.slice A1 n c1, .slice A2 m c2] w fun e w' => e = .returned (.bool true) ∧ Ext w w' := sameInts_any A1 A2 c1 c2 n m l w hn.out hm.out h1.out h2.out
def madeInts (n : Nat) : Obj := .cells (madeCells #[.int .i64 0] (n * 1)) 3
theorem make_ints (n : Nat) (hn : n ≤ 1000000000) (W : World) : (Instr.makeSlice 43 (.int .i64 0) (.int .i64 (n : Int))).run Tryd.prog W = .ok (.slice (some ⟨W.heap.size, 0, none⟩) 0 n) (W.alloc (madeInts n)) := by
  obtain ⟨i, hi, hz, hs, hb⟩ := info_parts elem_int.info
  have := run_make (P := Tryd.prog) (w := W) 43 3 i _ elem_int.under hi hz .i64 .i64 0 (n : Int) (Int.le_refl _) (by omega) (by rw [hb]; omega) (by omega)
  rw [hs] at this
  exact this
theorem own_ints (W : World) (n : Nat) (hn : n ≤ 1000000000) : Own (W.alloc (madeInts n)) W.heap.size 3 1 (some ⟨W.heap.size, 0, none⟩) 0 n [] :=
  ⟨rfl, .inr ⟨W.heap.size, _, rfl, Nat.le_refl _, heap_alloc_new W _, Nat.zero_le _, by unfold maxLen; omega, size_madeCells _ _, rfl⟩⟩
def marksI : List Int := [-771, -772]
theorem ints_append (l m : List Int) : ints (l ++ m) = ints l ++ ints m := List.map_append
def LentIR (w : World) (n : Nat) (l : List Int) (e : Ending) (w' : World) : Prop := ∃ g, e = .returned (.slice (some ⟨g, 0, none⟩) n (n + 2)) ∧ w.heap.size ≤ g ∧ Own w' w.heap.size 3 1 (some ⟨g, 0, none⟩) (n + 2) (n + 2) (ints (l ++ marksI)) ∧ Ext w w'
set_option maxRecDepth 100000 in
set_option maxHeartbeats 2000000 in
theorem lentInts_any (A : Option Addr) (c n : Nat) (l : List Int) (w : World) (hn : Hid (n = l.length)) (h : Hid (Is w A c l)) (hs : n ≤ 1000000) :
    Calls Tryd.prog 42 #[.slice A n c] w (LentIR w n l) := by
  have hmk2 : ∀ W : World, (Instr.makeSlice 43 (.int .i64 0) (.int .i64 ((n : Int) + 2))).run Tryd.prog W = .ok (.slice (some ⟨W.heap.size, 0, none⟩) 0 (n + 2)) (W.alloc (madeInts (n + 2))) := make_ints (n + 2) (by omega)
  have m1 : True := trivial
  go_enter Tryd.func42, Tryd.ntmps42
  go_wp2_with (first
    | (at_builtin; have mk := m1; clear m1; go_loud (refine wpList_append_fit _ elem_int w.heap.size _ _ rfl rfl w.heap.size 0 (n + 2) [] rfl (own_ints w (n + 2) (by omega)) (by omega) A n c (ints l) rfl (by rw [hn.out]; exact Sl.ext h.out ((Ext.refl w).alloc _)) (ints_one l) (by omega) ?_); intro w1 o1 g1; have O1 := Lib.hid o1; have X1 : Ext w w1 := ((Ext.refl w).alloc _).grown g1 (fun k e => by cases e; exact Nat.le_refl _); have m2 : True := trivial; clear o1 g1)
    | (at_builtin; have mk := m2; go_loud (refine wpList_append_fit _ elem_int w.heap.size _ _ rfl rfl w.heap.size n (n + 2) (ints l) rfl (by have := O1.out.alloc (.cells (#[.int .i64 (-771), .int .i64 (-772)] : Array Value) 3); rwa [List.nil_append, Nat.zero_add] at this) (by omega) (some ⟨w1.heap.size, 0, none⟩) 2 2 (ints marksI) rfl (sl_alloc w1 _ _ _ 1 2 rfl rfl (by decide)) (ints_one marksI) (by omega) ?_); intro w2 o2 g2; have O2 := Lib.hid o2; have X2 : Ext w w2 := (X1.alloc _).grown g2 (fun k e => by cases e; exact Nat.le_refl _); clear o2 g2))
  go_ret
  exact ⟨w.heap.size, by simp, Nat.le_refl _, by have := O2.out; rwa [← ints_append] at this, X2⟩
theorem is_left {w : World} {A : Option Addr} {c : Nat} {l m : List Int} (h : Is w A c (l ++ m)) : Is w A c l := by
  have := Sl.take (k := l.length) (show Sl w 1 A (l ++ m).length c (ints (l ++ m)) from h) (by rw [List.length_append]; omega)
  rw [ints_append, Nat.mul_one, show l.length = (ints l).length from (List.length_map ..).symm, List.take_left, show (ints l).length = l.length from List.length_map ..] at this
  exact this
theorem marksI_at (l : List Int) {n : Nat} (hn : n = l.length) : (l ++ marksI).getD n 0 = -771 ∧ (l ++ marksI).getD (n + 1) 0 = -772 := by
  subst hn
  rw [List.getD_eq_getElem?_getD, List.getD_eq_getElem?_getD, List.getElem?_append_right (Nat.le_refl _), List.getElem?_append_right (by omega), Nat.sub_self, show l.length + 1 - l.length = 1 by omega]
  exact ⟨rfl, rfl⟩
set_option maxRecDepth 100000 in
set_option maxHeartbeats 2000000 in
theorem wholeInts_any (A1 A2 : Option Addr) (c1 c2 n m : Nat) (l : List Int) (w : World) (hn : Hid (n = l.length)) (hm : Hid (m = n)) (hs : n ≤ 1000000000) (h1 : Hid (Is w A1 c1 (l ++ marksI))) (h2 : Hid (Is w A2 c2 l)) :
    Calls Tryd.prog 50 #[.slice A1 n c1, .slice A2 m c2] w fun e w' => e = .returned (.bool true) ∧ Ext w w' := by
  have hmn := hm.out
  subst hmn
  have hc : m + 2 ≤ c1 := by have := (Sl.cap (show Sl w 1 A1 (l ++ marksI).length c1 (ints (l ++ marksI)) from h1.out)).1; rw [List.length_append, ← hn.out] at this; exact this
  have hc9 := (Sl.cap (show Sl w 1 A1 (l ++ marksI).length c1 (ints (l ++ marksI)) from h1.out)).2
  obtain ⟨e1, e2⟩ := marksI_at l hn.out
  obtain ⟨ad, rfl, p0⟩ := h1.out.at (k := m) (by rw [List.length_append, ← hn.out]; show m < m + 2; omega)
  obtain ⟨ad', e3, q0⟩ := h1.out.at (k := m + 1) (by rw [List.length_append, ← hn.out]; show m + 1 < m + 2; omega)
  obtain rfl : ad = ad' := by injection e3
  rw [e1] at p0
  rw [e2] at q0
  have q0' : w.cell? ⟨ad.block, ad.off + (m + 1), none⟩ = some (.int .i64 (-772)) := by
    have := q0
    unfold Addr.add at this
    rwa [if_neg (by omega)] at this
  have H1 := Lib.hid (is_left h1.out)
  have hcd : ¬ c1 < m + 2 := by omega
  clear e1 e2 e3 hm
  go_enter Tryd.func50, Tryd.ntmps50
  go_wp2_with (go_at_call 87; refine (sameInts_lit (some ad) A2 c1 c2 m m l _ hn (Lib.hid rfl) H1 h2).mono ?_; rintro e w1 ⟨rfl, x1⟩)
  go_ret
  exact ⟨rfl, x1⟩
end Go.Proofs.YtngeioghihbkeaaDoor
namespace Go.Proofs.YtngeioghihbkeaaDoor
open Go.ChangeShapes Go.WideShapes Go.ChangeAt Go.RowKit Go.WideElems

def madeBytes (n : Nat) : Obj := .cells (madeCells #[.int .u8 0] (n * 1)) 5
theorem make_bytes (n : Nat) (hn : n ≤ 1000000000) (W : World) : (Instr.makeSlice 35 (.int .i64 0) (.int .i64 (n : Int))).run Tryd.prog W = .ok (.slice (some ⟨W.heap.size, 0, none⟩) 0 n) (W.alloc (madeBytes n)) := by
  obtain ⟨i, hi, hz, hs, hb⟩ := info_parts elem_byte.info
  have := run_make (P := Tryd.prog) (w := W) 35 5 i _ elem_byte.under hi hz .i64 .i64 0 (n : Int) (Int.le_refl _) (by omega) (by rw [hb]; omega) (by omega)
  rw [hs] at this
  exact this
theorem own_bytes (W : World) (n : Nat) (hn : n ≤ 1000000000) : Own (W.alloc (madeBytes n)) W.heap.size 5 1 (some ⟨W.heap.size, 0, none⟩) 0 n [] :=
  ⟨rfl, .inr ⟨W.heap.size, _, rfl, Nat.le_refl _, heap_alloc_new W _, Nat.zero_le _, by unfold maxLen; omega, size_madeCells _ _, rfl⟩⟩
def marksB : List UInt8 := [91, 92]
def LentBR (w : World) (n : Nat) (l : List UInt8) (e : Ending) (w' : World) : Prop := ∃ g, e = .returned (.slice (some ⟨g, 0, none⟩) n (n + 2)) ∧ w.heap.size ≤ g ∧ Own w' w.heap.size 5 1 (some ⟨g, 0, none⟩) (n + 2) (n + 2) (Lib.byteCells (l ++ marksB)) ∧ Ext w w'
set_option maxRecDepth 100000 in
set_option maxHeartbeats 2000000 in
theorem lentBytes_any (A : Option Addr) (c n : Nat) (l : List UInt8) (w : World) (hn : Hid (n = l.length)) (h : Hid (Bs w A c l)) (hs : n ≤ 100000000) :
    Calls Tryd.prog 28 #[.slice A n c] w (LentBR w n l) := by
  have hmk2 : ∀ W : World, (Instr.makeSlice 35 (.int .i64 0) (.int .i64 ((n : Int) + 2))).run Tryd.prog W = .ok (.slice (some ⟨W.heap.size, 0, none⟩) 0 (n + 2)) (W.alloc (madeBytes (n + 2))) := make_bytes (n + 2) (by omega)
  have m1 : True := trivial
  go_enter Tryd.func28, Tryd.ntmps28
  go_wp2_with (first
    | (at_builtin; have mk := m1; clear m1; go_loud (refine wpList_append_fit _ elem_byte w.heap.size _ _ rfl rfl w.heap.size 0 (n + 2) [] rfl (own_bytes w (n + 2) (by omega)) (by omega) A n c (Lib.byteCells l) rfl (by rw [hn.out]; exact Sl.ext h.out ((Ext.refl w).alloc _)) (bytes_oneCell l) (by omega) ?_); intro w1 o1 g1; have O1 := Lib.hid o1; have X1 : Ext w w1 := ((Ext.refl w).alloc _).grown g1 (fun k e => by cases e; exact Nat.le_refl _); have m2 : True := trivial; clear o1 g1)
    | (at_builtin; have mk := m2; go_loud (refine wpList_append_fit _ elem_byte w.heap.size _ _ rfl rfl w.heap.size n (n + 2) (Lib.byteCells l) rfl (by have := O1.out.alloc (.cells (#[.int .u8 91, .int .u8 92] : Array Value) 5); rwa [List.nil_append, Nat.zero_add] at this) (by omega) (some ⟨w1.heap.size, 0, none⟩) 2 2 (Lib.byteCells marksB) rfl (sl_new w1 (ys := marksB) rfl rfl (by decide)) (bytes_oneCell marksB) (by omega) ?_); intro w2 o2 g2; have O2 := Lib.hid o2; have X2 : Ext w w2 := (X1.alloc _).grown g2 (fun k e => by cases e; exact Nat.le_refl _); clear o2 g2))
  go_ret
  exact ⟨w.heap.size, by simp, Nat.le_refl _, by have := O2.out; rwa [← cells_append] at this, X2⟩
theorem lentBytes_is {w : World} {B g n : Nat} {l : List UInt8} (hn : n = l.length) (o : Own w B 5 1 (some ⟨g, 0, none⟩) (n + 2) (n + 2) (Lib.byteCells (l ++ marksB))) : Bs w (some ⟨g, 0, none⟩) (n + 2) (l ++ marksB) := by
  unfold Bs
  rw [List.length_append, ← hn]
  exact Own.sl o
theorem bs_left {w : World} {A : Option Addr} {c : Nat} {l m : List UInt8} (h : Bs w A c (l ++ m)) : Bs w A c l := by
  have := Sl.take (k := l.length) (show Sl w 1 A (l ++ m).length c (Lib.byteCells (l ++ m)) from h) (by rw [List.length_append]; omega)
  rw [cells_append, Nat.mul_one, show l.length = (Lib.byteCells l).length from (Lib.byteCells_length l).symm, List.take_left, show (Lib.byteCells l).length = l.length from Lib.byteCells_length l] at this
  exact this
theorem marksB_at (l : List UInt8) {n : Nat} (hn : n = l.length) : (l ++ marksB).getD n 0 = 91 ∧ (l ++ marksB).getD (n + 1) 0 = 92 := by
  subst hn
  rw [List.getD_eq_getElem?_getD, List.getD_eq_getElem?_getD, List.getElem?_append_right (Nat.le_refl _), List.getElem?_append_right (by omega), Nat.sub_self, show l.length + 1 - l.length = 1 by omega]
  exact ⟨rfl, rfl⟩
set_option maxRecDepth 100000 in
set_option maxHeartbeats 2000000 in
theorem wholeBytes_any (A1 A2 : Option Addr) (c1 c2 n m : Nat) (l : List UInt8) (w : World) (hn : Hid (n = l.length)) (hm : Hid (m = n)) (hs : n ≤ 1000000000) (h1 : Hid (Bs w A1 c1 (l ++ marksB))) (h2 : Hid (Bs w A2 c2 l)) :
    Calls Tryd.prog 32 #[.slice A1 n c1, .slice A2 m c2] w fun e w' => e = .returned (.bool true) ∧ Ext w w' := by
  have hmn := hm.out
  subst hmn
  have hc : m + 2 ≤ c1 := by have := (Sl.cap (show Sl w 1 A1 (l ++ marksB).length c1 (Lib.byteCells (l ++ marksB)) from h1.out)).1; rw [List.length_append, ← hn.out] at this; exact this
  have hc9 := (Sl.cap (show Sl w 1 A1 (l ++ marksB).length c1 (Lib.byteCells (l ++ marksB)) from h1.out)).2
  obtain ⟨e1, e2⟩ := marksB_at l hn.out
  obtain ⟨ad, rfl, p0⟩ := h1.out.at (i := m) (by rw [List.length_append, ← hn.out]; show m < m + 2; omega)
  obtain ⟨ad', e3, q0⟩ := h1.out.at (i := m + 1) (by rw [List.length_append, ← hn.out]; show m + 1 < m + 2; omega)
  obtain rfl : ad = ad' := by injection e3
  rw [e1, show ((91 : UInt8).toNat : Int) = 91 from rfl] at p0
  rw [e2, show ((92 : UInt8).toNat : Int) = 92 from rfl] at q0
  have q0' : w.cell? ⟨ad.block, ad.off + (m + 1), none⟩ = some (.int .u8 92) := by
    have := q0
    unfold Addr.add at this
    rwa [if_neg (by omega)] at this
  have H1 := Lib.hid (bs_left h1.out)
  have hcd : ¬ c1 < m + 2 := by omega
  clear e1 e2 e3 hm
  go_enter Tryd.func32, Tryd.ntmps32
  go_wp2_with (go_at_call 38; refine (sameBytes_lit (some ad) A2 c1 c2 m m l _ hn (Lib.hid rfl) H1 h2).mono ?_; rintro e w1 ⟨rfl, x1⟩)
  go_ret
  exact ⟨rfl, x1⟩
end Go.Proofs.YtngeioghihbkeaaDoor
