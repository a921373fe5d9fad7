/- penstockref00.SameRow: what it answers. penstockref00.SameRow, SameCounteds, WholeRow, WholeCounteds: of what is the same they say so. penstockref00.LentRow, LentCounteds: copies with marked room behind. penstockref00.WholeRow, WholeCounteds: what was lent is as it was. Conditions: each theorem states its own. -/
import Derived.Test.YtngeioghihbkeaaDoorSumAll
import Derived.Test.YtngeioghihbkeaaDoorRowKnown
import Derived.Deep.LoopGhost
namespace Go.Proofs.YtngeioghihbkeaaDoor
open Go.RowKit

set_option maxRecDepth 100000 in
set_option maxHeartbeats 1000000 in
theorem sameRow_any (A1 A2 : Option Addr) (c1 c2 n m : Nat) (l : List Dat) (w : World) (hn : n = l.length) (hm : m = n) (h1 : Rw w A1 c1 l) (h2 : Rw w A2 c2 l) :
    Calls Tryd.prog 31 #[.slice A1 n c1, .slice A2 m c2] w fun e w' => e = .returned (.bool true) ∧ Ext w w' := by
  subst hm
  have hnm := h1.le
  rw [← hn] at hnm
  have HN := Lib.hid hn
  have H1 := Lib.hid h1
  have H2 := Lib.hid h2
  clear hn h1 h2
  go_enter Tryd.func31, Tryd.ntmps31
  go_wp2
  go_loopw [5] (fun v wr => ∃ i : Nat, i ≤ m ∧ v = .int .i64 i ∧ Ext w wr) (fun v _ => m - (intOf v).toNat)
  case atStart => exact ⟨0, Nat.zero_le _, rfl, Ext.refl _⟩
  case round =>
    obtain ⟨i, hi, rfl, er⟩ := hrel
    by_cases hlt : i < m
    · have hil : i < l.length := by rw [← HN.out]; exact hlt
      obtain ⟨ad, rfl, p0, p1, p2, p3⟩ := (H1.out.ext er).at hil
      obtain ⟨bd, rfl, q0, q1, q2, q3⟩ := (H2.out.ext er).at hil
      obtain ⟨d, hd⟩ : ∃ d, l.getD i Dat.zero = d := ⟨_, rfl⟩
      rw [hd] at p0 p1 p2 p3 q0 q1 q2 q3
      have XE : Ext wr wr.drew := (Ext.refl wr).drew
      have P0 : ∀ z : Xt wr.drew, z.W.cell? (ad.add (i * 4)) = some (.int .u8 d.k) := fun z => (XE.trans z.x).cell p0
      have P1 : ∀ z : Xt wr.drew, z.W.cell? ⟨(ad.add (i * 4)).block, (ad.add (i * 4)).off + 1, none⟩ = some (.bool d.b) := fun z => (XE.trans z.x).cell p1
      have P2 : ∀ z : Xt wr.drew, z.W.cell? ⟨(ad.add (i * 4)).block, (ad.add (i * 4)).off + 2, none⟩ = some (.int .i64 d.n) := fun z => (XE.trans z.x).cell p2
      have P3 : ∀ z : Xt wr.drew, z.W.cell? ⟨(ad.add (i * 4)).block, (ad.add (i * 4)).off + 3, none⟩ = some (.string d.s) := fun z => (XE.trans z.x).cell p3
      have Q0 : ∀ z : Xt wr.drew, z.W.cell? (bd.add (i * 4)) = some (.int .u8 d.k) := fun z => (XE.trans z.x).cell q0
      have Q1 : ∀ z : Xt wr.drew, z.W.cell? ⟨(bd.add (i * 4)).block, (bd.add (i * 4)).off + 1, none⟩ = some (.bool d.b) := fun z => (XE.trans z.x).cell q1
      have Q2 : ∀ z : Xt wr.drew, z.W.cell? ⟨(bd.add (i * 4)).block, (bd.add (i * 4)).off + 2, none⟩ = some (.int .i64 d.n) := fun z => (XE.trans z.x).cell q2
      have Q3 : ∀ z : Xt wr.drew, z.W.cell? ⟨(bd.add (i * 4)).block, (bd.add (i * 4)).off + 3, none⟩ = some (.string d.s) := fun z => (XE.trans z.x).cell q3
      clear hil hd
      go_upto_region 6 with fail
      refine wp_region_ord [0,0,3,7,0,0,48,112,255] (.flo [0,1,2,3,4,5,6,7,8] (.fin)) (by kernel_rfl) (by kernel_rfl) (by intro _ _ d _ _ h; cases d <;> exact h) ?_
      (refine ord_flo (pick_cons rfl (pick_cons rfl (pick_cons rfl (pick_cons rfl (pick_cons rfl (pick_cons rfl (pick_cons rfl (pick_cons rfl (pick_cons rfl pick_nil))))))))) ?_; (repeat (go_big_quiet_step (fail))); refine wpQuiet_nil ?_; show ordWalk _ _ _ _ _ _ _)
      refine ord_fin ?_
      go_wp2
      go_roundw
      case rel => exact ⟨i + 1, by omega, by go_num, er.trans XE⟩
      case measure => simp [intOf]; omega
    · go_wp2
      go_ret
      exact ⟨rfl, er⟩
theorem sameRow_lit (A1 A2 : Option Addr) (c1 c2 n m : Nat) (l : List Dat) (w : World) (hn : Hid (n = l.length)) (hm : Hid (m = n)) (h1 : Hid (Rw w A1 c1 l)) (h2 : Hid (Rw w A2 c2 l)) :
    Calls Tryd.prog 31 #[.slice A1 n c1, .slice A2 m c2] w fun e w' => e = .returned (.bool true) ∧ Ext w w' := sameRow_any A1 A2 c1 c2 n m l w hn.out hm.out h1.out h2.out
end Go.Proofs.YtngeioghihbkeaaDoor
namespace Go.Proofs.YtngeioghihbkeaaDoor
open Go.RowKit

theorem val_at {L M : List Ct} (h : L.map valC = M.map valC) {i : Nat} (hi : i < L.length) : (M.getD i Ct.zero).l = (L.getD i Ct.zero).l ∧ (M.getD i Ct.zero).k = (L.getD i Ct.zero).k := by
  have hl := congrArg List.length h
  rw [List.length_map, List.length_map] at hl
  have e := congrArg (fun l : List V => l[i]?) h
  simp only [List.getElem?_map] at e
  rw [List.getElem?_eq_getElem hi, List.getElem?_eq_getElem (by omega)] at e
  simp only [Option.map_some, Option.some.injEq] at e
  rw [List.getD_eq_getElem?_getD, List.getD_eq_getElem?_getD, List.getElem?_eq_getElem hi, List.getElem?_eq_getElem (by omega)]
  exact ⟨(congrArg Prod.fst e).symm, (congrArg Prod.snd e).symm⟩
set_option maxRecDepth 100000 in
set_option maxHeartbeats 2000000 in
theorem sameCts_any (A1 A2 : Option Addr) (c1 c2 n m : Nat) (L M : List Ct) (w : World) (hn : n = L.length) (hm : m = M.length) (h1 : Cin w A1 c1 L) (h2 : Cin w A2 c2 M) (he : L.map valC = M.map valC) :
    Calls Tryd.prog 19 #[.slice A1 n c1, .slice A2 m c2] w fun e w' => e = .returned (.bool true) ∧ Ext w w' := by
  have hl := congrArg List.length he
  rw [List.length_map, List.length_map] at hl
  obtain rfl : m = n := by omega
  have hnm := h1.sl.le
  rw [← hn] at hnm
  have HN := Lib.hid hn
  have H1 := Lib.hid h1
  have H2 := Lib.hid h2
  have HE := Lib.hid he
  have HM := Lib.hid hm
  clear hn h1 h2 he hm hl
  go_enter Tryd.func19, Tryd.ntmps19
  go_wp2
  go_loopw [5] (fun v wr => ∃ i : Nat, i ≤ m ∧ v = .int .i64 i ∧ Ext w wr) (fun v _ => m - (intOf v).toNat)
  case atStart => exact ⟨0, Nat.zero_le _, rfl, Ext.refl _⟩
  case round =>
    obtain ⟨i, hi, rfl, er⟩ := hrel
    by_cases hlt : i < m
    · have hil : i < L.length := by rw [← HN.out]; exact hlt
      have him : i < M.length := by rw [← HM.out]; exact hlt
      obtain ⟨ad, rfl, p0, p1⟩ := (H1.out.ext er).at hil
      obtain ⟨bd, rfl, q0, q1⟩ := (H2.out.ext er).at him
      have hr1 := H1.out.rows _ (getD_mem hil)
      have hr2 := H2.out.rows _ (getD_mem him)
      obtain ⟨e1, e2⟩ := val_at HE.out hil
      rw [e1] at q0 hr2
      rw [e2] at q1
      obtain ⟨x, hx⟩ : ∃ x, L.getD i Ct.zero = x := ⟨_, rfl⟩
      obtain ⟨y, hy⟩ : ∃ y, M.getD i Ct.zero = y := ⟨_, rfl⟩
      rw [hx] at p0 p1 hr1 q0 q1 hr2
      rw [hy] at q0 hr2
      obtain ⟨nx, hnx⟩ : ∃ nx, nx = x.l.length := ⟨_, rfl⟩
      rw [← hnx] at p0 q0
      have HNX := Lib.hid hnx
      have HEQ : Hid (nx = nx) := Lib.hid rfl
      have XE : Ext wr wr.drew := (Ext.refl wr).drew
      have HR1 := Lib.hid ((hr1.ext er).ext XE)
      have HR2 := Lib.hid ((hr2.ext er).ext XE)
      have P0 : ∀ z : Xt wr.drew, z.W.cell? (ad.add (i * 2)) = some (.slice x.A nx x.c) := fun z => (XE.trans z.x).cell p0
      have P1 : ∀ z : Xt wr.drew, z.W.cell? ⟨(ad.add (i * 2)).block, (ad.add (i * 2)).off + 1, none⟩ = some (.int .i64 x.k) := fun z => (XE.trans z.x).cell p1
      have Q0 : ∀ z : Xt wr.drew, z.W.cell? (bd.add (i * 2)) = some (.slice y.A nx y.c) := fun z => (XE.trans z.x).cell q0
      have Q1 : ∀ z : Xt wr.drew, z.W.cell? ⟨(bd.add (i * 2)).block, (bd.add (i * 2)).off + 1, none⟩ = some (.int .i64 x.k) := fun z => (XE.trans z.x).cell q1
      clear hil him hr1 hr2 e1 e2 hx hy hnx
      go_upto_region 6 with fail
      refine wp_region_ord [0,0,3,7,15,0,0,96,224,480,1023,2047,4095,4095,16383,32767,65535,4095,4095,397311,921599,1970175,4194303,8388607,16777215] (.flo [0,1,2,3,4,5,6,7,8,9,10,11,12,13,14,15,16,17,18,19,20,21] (.one 22 (.flo [23,24] (.fin)))) (by kernel_rfl) (by kernel_rfl) (by intro _ _ d _ _ h; cases d <;> exact h) ?_
      (refine ord_flo (pick_cons rfl (pick_cons rfl (pick_cons rfl (pick_cons rfl (pick_cons rfl (pick_cons rfl (pick_cons rfl (pick_cons rfl (pick_cons rfl (pick_cons rfl (pick_cons rfl (pick_cons rfl (pick_cons rfl (pick_cons rfl (pick_cons rfl (pick_cons rfl (pick_cons rfl (pick_cons rfl (pick_cons rfl (pick_cons rfl (pick_cons rfl (pick_cons rfl pick_nil)))))))))))))))))))))) ?_; (repeat (go_big_quiet_step (fail))); refine wpQuiet_nil ?_; show ordWalk _ _ _ _ _ _ _)
      refine ord_one (pick_cons rfl pick_nil) ?_; intro K_ hK_
      go_wp2_with (go_at_call 31; refine (sameRow_lit x.A y.A x.c y.c nx nx x.l _ HNX HEQ HR1 HR2).mono ?_; rintro e w1 ⟨rfl, x1⟩)
      (refine ord_flo (pick_cons rfl (pick_cons rfl pick_nil)) ?_; (repeat (go_big_quiet_step (fail))); refine wpQuiet_nil ?_; show ordWalk _ _ _ _ _ _ _)
      refine ord_fin ?_
      go_wp2
      go_roundw
      case rel => exact ⟨i + 1, by omega, by go_num, er.trans (XE.trans x1)⟩
      case measure => simp [intOf]; omega
    · go_wp2
      go_ret
      exact ⟨rfl, er⟩
end Go.Proofs.YtngeioghihbkeaaDoor
namespace Go.Proofs.YtngeioghihbkeaaDoor
open Go.RowKit

/-- append with room: it stays -/
theorem run_append_fit {P : Program} (w : World) {t ty e size bytes : Nat} {z : Value} (E : Elem P t e size bytes z) (base g n c0 : Nat) (xs : List Value) (hown : Own w base e size (some ⟨g, 0, none⟩) n c0 xs) (hc : 0 < c0)
    (A : Option Addr) (m c : Nat) (news : List Value) (hr : Sl w size A m c news) (h1 : ∀ u ∈ news, u.oneCell' = true) (hroom : n + m ≤ c0) :
    ∃ w', (Builtin.append_ #[t, t] ty #[.slice (some ⟨g, 0, none⟩) n c0, .slice A m c]).run P w = .ok (.slice (some ⟨g, 0, none⟩) (n + m) c0) w' ∧ Own w' base e size (some ⟨g, 0, none⟩) (n + m) c0 (xs ++ news) ∧ w.grownBy w' (some g) := by
  rcases Nat.eq_zero_or_pos m with hm | hm
  · subst hm
    have hnews : news = [] := List.eq_nil_of_length_eq_zero (by simpa using hr.1)
    subst hnews
    exact ⟨w, run_append_nothing w E _ n c0 hown.le.1 A c, by simpa using hown, World.grownBy.refl w _⟩
  · obtain ⟨ad, rfl, _⟩ := hr.2.2.2.2 hm
    exact run_append_stay w E base g n c0 xs hown hc ad m c news hr hm h1 hroom
theorem wp_append_fit {P : Program} (w : World) {o : Oper} {a : Act} {K : Act → World → Prop} {Q : Exit → Act → World → Prop} {t e size bytes : Nat} {z : Value} (E : Elem P t e size bytes z) (base : Nat) (s x : Operand)
    (ho : o.op = .call { callee := .builtin .append, args := #[s, x], argTypes := #[t, t] })
    (g n c0 : Nat) (xs : List Value) (hs : a.eval s = .slice (some ⟨g, 0, none⟩) n c0) (hown : Own w base e size (some ⟨g, 0, none⟩) n c0 xs) (hc : 0 < c0)
    (A : Option Addr) (m c : Nat) (news : List Value) (hx : a.eval x = .slice A m c) (hr : Sl w size A m c news) (h1 : ∀ u ∈ news, u.oneCell' = true) (hroom : n + m ≤ c0)
    (h : ∀ w', Own w' base e size (some ⟨g, 0, none⟩) (n + m) c0 (xs ++ news) → w.grownBy w' (some g) → K (a.put o.dst (.slice (some ⟨g, 0, none⟩) (n + m) c0)) w') : o.wp P a w K Q := by
  obtain ⟨w', hrun, h2, h3⟩ := run_append_fit (P := P) (ty := o.type) w E base g n c0 xs hown hc A m c news hr h1 hroom
  unfold Oper.wp execOp
  simp only [ho, resolve, invoke, builtin, Sem.run_bind, Sem.run_pure, Result.andThen_ok, List.map_toArray, List.map_cons, List.map_nil, hs, hx, hrun]
  exact h w' h2 h3
theorem wpList_append_fit {P : Program} (w : World) {ops : Array Oper} {rest : List Oper} {o : Oper} {a : Act} {Q : Exit → Act → World → Prop} {t e size bytes : Nat} {z : Value} (E : Elem P t e size bytes z) (base : Nat) (s x : Operand)
    (ho : o.op = .call { callee := .builtin .append, args := #[s, x], argTypes := #[t, t] }) (hgd : o.guard = none)
    (g n c0 : Nat) (xs : List Value) (hs : a.eval s = .slice (some ⟨g, 0, none⟩) n c0) (hown : Own w base e size (some ⟨g, 0, none⟩) n c0 xs) (hc : 0 < c0)
    (A : Option Addr) (m c : Nat) (news : List Value) (hx : a.eval x = .slice A m c) (hr : Sl w size A m c news) (h1 : ∀ u ∈ news, u.oneCell' = true) (hroom : n + m ≤ c0)
    (h : ∀ w', Own w' base e size (some ⟨g, 0, none⟩) (n + m) c0 (xs ++ news) → w.grownBy w' (some g) → wpList P ops Q rest (a.put o.dst (.slice (some ⟨g, 0, none⟩) (n + m) c0)) w') : wpList P ops Q (o :: rest) a w :=
  wpList_plain hgd fun _ hK => wp_append_fit w E base s x ho g n c0 xs hs hown hc A m c news hx hr h1 hroom fun w' h2 h3 => hK _ _ (h w' h2 h3)
theorem elem_datum : Elem Tryd.prog 22 91 4 32 (.agg #[.int .u8 0, .bool false, .int .i64 0, .string ⟨#[]⟩]) := ⟨by kernel_rfl, by kernel_rfl, rfl, by decide⟩
def madeData (n : Nat) : Obj := .cells (madeCells #[.int .u8 0, .bool false, .int .i64 0, .string ⟨#[]⟩] (n * 4)) 91
theorem make_data (n : Nat) (hn : n ≤ 1000000000) (W : World) : (Instr.makeSlice 22 (.int .i64 0) (.int .i64 (n : Int))).run Tryd.prog W = .ok (.slice (some ⟨W.heap.size, 0, none⟩) 0 n) (W.alloc (madeData n)) := by
  obtain ⟨i, hi, hz, hs, hb⟩ := info_parts elem_datum.info
  have := run_make (P := Tryd.prog) (w := W) 22 91 i _ elem_datum.under hi hz .i64 .i64 0 (n : Int) (Int.le_refl _) (by omega) (by rw [hb]; omega) (by omega)
  rw [hs] at this
  exact this
theorem own_data (W : World) (n : Nat) (hn : n ≤ 1000000000) : Own (W.alloc (madeData n)) W.heap.size 91 4 (some ⟨W.heap.size, 0, none⟩) 0 n [] :=
  ⟨rfl, .inr ⟨W.heap.size, _, rfl, Nat.le_refl _, heap_alloc_new W _, Nat.zero_le _, by unfold maxLen; omega, size_madeCells _ _, rfl⟩⟩
def mark_ (k : Int) : Dat := ⟨k, false, 0, ⟨#[]⟩⟩
def marks : List Dat := [mark_ 91, mark_ 92]
/-- what LentRow hands back -/
def LentR (w : World) (n : Nat) (l : List Dat) (e : Ending) (w' : World) : Prop := ∃ g, e = .returned (.slice (some ⟨g, 0, none⟩) n (n + 2)) ∧ w.heap.size ≤ g ∧ Own w' w.heap.size 91 4 (some ⟨g, 0, none⟩) (n + 2) (n + 2) (rowC (l ++ marks)) ∧ Ext w w'
set_option maxRecDepth 100000 in
set_option maxHeartbeats 2000000 in
theorem lentRow_any (A : Option Addr) (c n : Nat) (l : List Dat) (w : World) (hn : n = l.length) (h : Rw w A c l) (hs : n ≤ 1000000) :
    Calls Tryd.prog 33 #[.slice A n c] w (LentR w n l) := by
  have HN := Lib.hid hn
  have H := Lib.hid h
  have hmk := make_data (n + 2) (by omega)
  have hmk2 : ∀ W : World, (Instr.makeSlice 22 (.int .i64 0) (.int .i64 ((n : Int) + 2))).run Tryd.prog W = .ok (.slice (some ⟨W.heap.size, 0, none⟩) 0 (n + 2)) (W.alloc (madeData (n + 2))) := hmk
  have m1 : True := trivial
  clear hn h hmk
  go_enter Tryd.func33, Tryd.ntmps33
  go_wp2_with (first
    | (at_builtin; have mk := m1; clear m1; refine wpList_append_fit _ elem_datum w.heap.size _ _ rfl rfl w.heap.size 0 (n + 2) [] rfl (own_data w (n + 2) (by omega)) (by omega) A n c (rowC l) rfl (by rw [HN.out]; exact Sl.ext H.out ((Ext.refl w).alloc _)) (rowC_one l) (by omega) ?_; intro w1 o1 g1; have O1 := Lib.hid o1; have X1 : Ext w w1 := ((Ext.refl w).alloc _).grown g1 (fun k e => by cases e; exact Nat.le_refl _); have m2 : True := trivial; clear o1 g1)
    | (at_builtin; have mk := m2; refine wpList_append_fit _ elem_datum w.heap.size _ _ rfl rfl w.heap.size n (n + 2) (rowC l) rfl (by have := O1.out.alloc (.cells (#[.int .u8 91, .bool false, .int .i64 0, .string ⟨#[]⟩, .int .u8 92, .bool false, .int .i64 0, .string ⟨#[]⟩] : Array Value) 91); rwa [List.nil_append, Nat.zero_add] at this) (by omega) (some ⟨w1.heap.size, 0, none⟩) 2 2 (rowC marks) rfl (sl_alloc w1 _ _ _ 4 2 rfl rfl (by decide)) (rowC_one marks) (by omega) ?_; intro w2 o2 g2; have O2 := Lib.hid o2; have X2 : Ext w w2 := (X1.alloc _).grown g2 (fun k e => by cases e; exact Nat.le_refl _); clear o2 g2))
  go_ret
  exact ⟨w.heap.size, by simp, Nat.le_refl _, by have := O2.out; rwa [← rowC_append] at this, X2⟩
theorem lentRow_lit (A : Option Addr) (c n : Nat) (l : List Dat) (w : World) (hn : Hid (n = l.length)) (h : Hid (Rw w A c l)) (hs : n ≤ 1000000) :
    Calls Tryd.prog 33 #[.slice A n c] w (LentR w n l) := lentRow_any A c n l w hn.out h.out hs
def ctMark : Ct := ⟨none, 0, [], 91⟩
/-- a row that was lent, in a block of its own -/
def LentX (w : World) (B : Nat) (x : Ct) : Prop := Own w B 91 4 x.A (x.l.length + 2) x.c (rowC (x.l ++ marks))
/-- lent rows with counts, as they are made -/
structure LentAt (w : World) (g n : Nat) (L : List Ct) (wr : World) (i : Nat) (O : List Ct) : Prop where
  own : Own wr w.heap.size 32 2 (some ⟨g, 0, none⟩) i (n + 1) (ctsC O)
  vals : O.map valC = (L.take i).map valC
  len : O.length = i
  rows : ∀ x ∈ O, LentX wr w.heap.size x ∧ ∃ h, x.A = some ⟨h, 0, none⟩ ∧ g < h ∧ h < wr.heap.size
  apart : Apart O
  ext : Ext w wr
  gg : w.heap.size ≤ g ∧ g < wr.heap.size
theorem LentAt.mono {w wr wz : World} {g n i : Nat} {L O : List Ct} (h : LentAt w g n L wr i O) (x : Ext wr wz) : LentAt w g n L wz i O :=
  ⟨h.own.ext x, h.vals, h.len, fun y hy => ⟨Own.ext (h.rows y hy).1 x, by obtain ⟨k, e, q1, q2⟩ := (h.rows y hy).2; exact ⟨k, e, q1, by have := x.size; omega⟩⟩, h.apart, h.ext.trans x, by have := h.gg; have := x.size; omega⟩
theorem own_upd {w w' : World} {B size n c g k : Nat} {e : TypeId} {xs : List Value} (h : Own w B e size (some ⟨k, 0, none⟩) n c xs) (hx : w.grownBy w' (some g)) (hk : k ≠ g) : Own w' B e size (some ⟨k, 0, none⟩) n c xs :=
  h.kept hx (by
    cases c with
    | zero => exact .inl rfl
    | succ c => exact .inr fun e => by injection e with e; exact hk e)
theorem LentAt.new {w w1 w3 w4 : World} {g n i h : Nat} {L O : List Ct} {x : Ct} {nx : Nat} (hL : LentAt w g n L w1 i O) (hi : i < L.length) (hx : L.getD i Ct.zero = x) (hnx : nx = x.l.length) (x3 : Ext w1 w3) (h1 : w1.heap.size ≤ h) (h3 : h < w3.heap.size)
    (o3 : Own w3 w1.heap.size 91 4 (some ⟨h, 0, none⟩) (nx + 2) (nx + 2) (rowC (x.l ++ marks)))
    (o4 : Own w4 w.heap.size 32 2 (some ⟨g, 0, none⟩) (i + 1) (n + 1) (ctsC O ++ [.slice (some ⟨h, 0, none⟩) nx (nx + 2), .int .i64 x.k])) (g4 : w3.grownBy w4 (some g)) : LentAt w g n L w4 (i + 1) (O ++ [⟨some ⟨h, 0, none⟩, nx + 2, x.l, x.k⟩]) := by
  subst hnx
  have s3 := hL.mono x3
  have hg := hL.gg
  have hs4 := g4.size
  have hw := hL.ext.size
  refine ⟨by rw [ctsC_append]; exact o4, ?_, by rw [List.length_append, hL.len]; rfl, fun y hy => ?_, ?_, s3.ext.grown g4 (fun k e => by cases e; exact hg.1), by omega⟩
  · rw [take_snocC hi, hx, List.map_append, List.map_append, hL.vals]
    rfl
  · rcases List.mem_append.1 hy with hy | hy
    · obtain ⟨q1, k, q2, q3, q4⟩ := s3.rows y hy
      refine ⟨?_, k, q2, q3, by omega⟩
      unfold LentX at q1 ⊢
      rw [q2] at q1 ⊢
      exact own_upd q1 g4 (by omega)
    · rw [List.mem_singleton.1 hy]
      exact ⟨Own.mono (own_upd o3 g4 (by omega)) hw, h, rfl, by omega, by omega⟩
  · unfold Apart
    rw [List.map_append]
    refine List.pairwise_append.2 ⟨hL.apart, List.pairwise_singleton _ _, fun a ha b hb a1 b1 e1 e2 => ?_⟩
    obtain ⟨y, hy, rfl⟩ := List.mem_map.1 ha
    rw [List.map_singleton, List.mem_singleton] at hb
    subst hb
    obtain ⟨_, k, q2, q3, q4⟩ := hL.rows y hy
    rw [q2] at e1
    cases e1
    cases e2
    show k ≠ h
    omega
/-- lent rows with counts: the list, a mark behind it, and the rows, marks behind them -/
structure LentCts (w : World) (B g n : Nat) (L : List Ct) : Prop where
  own : Own w B 32 2 (some ⟨g, 0, none⟩) (n + 1) (n + 1) (ctsC (L ++ [ctMark]))
  rows : ∀ x ∈ L, LentX w B x ∧ ∃ h, x.A = some ⟨h, 0, none⟩ ∧ g < h ∧ h < w.heap.size
  apart : Apart L
  len : L.length = n
theorem LentCts.ext {w w' : World} {B g n : Nat} {L : List Ct} (h : LentCts w B g n L) (x : Ext w w') : LentCts w' B g n L :=
  ⟨h.own.ext x, fun y hy => ⟨Own.ext (h.rows y hy).1 x, by obtain ⟨k, e, q1, q2⟩ := (h.rows y hy).2; exact ⟨k, e, q1, by have := x.size; omega⟩⟩, h.apart, h.len⟩
theorem LentX.rw {w : World} {B : Nat} {x : Ct} (h : LentX w B x) : Rw w x.A x.c x.l := by
  have := Sl.take (k := x.l.length) (Own.sl h) (by omega)
  rw [rowC_take, List.take_left] at this
  exact this
theorem LentCts.cin {w : World} {B g n : Nat} {L : List Ct} (h : LentCts w B g n L) : Cin w (some ⟨g, 0, none⟩) (n + 1) L := by
  refine ⟨?_, fun x hx => (h.rows x hx).1.rw⟩
  have := Sl.take (k := n) h.own.sl (by omega)
  rw [ctsC_append, List.take_left' (by rw [ctsC_len, h.len])] at this
  rw [h.len]
  exact this
def LentCR (w : World) (n : Nat) (L : List Ct) (e : Ending) (w' : World) : Prop := ∃ g M, e = .returned (.slice (some ⟨g, 0, none⟩) n (n + 1)) ∧ w.heap.size ≤ g ∧ LentCts w' w.heap.size g n M ∧ M.map valC = L.map valC ∧ Ext w w'
set_option maxRecDepth 100000 in
set_option maxHeartbeats 4000000 in
theorem lentCts_any (A : Option Addr) (c n : Nat) (L : List Ct) (w : World) (hn : n = L.length) (h : Cin w A c L) (hs : n ≤ 1000000) (hr : ∀ x ∈ L, x.l.length ≤ 1000000) :
    Calls Tryd.prog 17 #[.slice A n c] w (LentCR w n L) := by
  have HN := Lib.hid hn
  have H := Lib.hid h
  have HRL := Lib.hid hr
  have hmk : ∀ W : World, (Instr.makeSlice 27 (.int .i64 0) (.int .i64 ((n : Int) + 1))).run Tryd.prog W = .ok (.slice (some ⟨W.heap.size, 0, none⟩) 0 (n + 1)) (W.alloc (madeCts (n + 1))) := make_cts (n + 1) (by omega)
  have HL0 : Hid (LentAt w w.heap.size n L (w.alloc (madeCts (n + 1))) 0 []) := Lib.hid ⟨(arr_made w (n + 1) (by omega) (by omega)).1, rfl, rfl, fun x hx => (nomatch hx), List.Pairwise.nil, (Ext.refl w).alloc _, by simp⟩
  clear hn h hr
  go_enter Tryd.func17, Tryd.ntmps17
  go_wp2
  go_loopg [3, 4] n (fun z u v wr => ∃ (i : Nat) (O : List Ct), z = n - i ∧ i ≤ n ∧ u = .slice (some ⟨w.heap.size, 0, none⟩) i (n + 1) ∧ v = .int .i64 i ∧ Hid (LentAt w w.heap.size n L wr i O))
  case atStart => exact ⟨0, [], rfl, Nat.zero_le _, rfl, rfl, HL0⟩
  case round =>
    clear HL0 hmk
    obtain ⟨i, O, rfl, hi, rfl, rfl, HP⟩ := hrel
    have hwg : w.heap.size < wr.heap.size := HP.out.gg.2
    by_cases hlt : i < n
    · have hil : i < L.length := by rw [← HN.out]; exact hlt
      obtain ⟨ad, rfl, p0, p1⟩ := (H.out.ext HP.out.ext).at hil
      have hm := getD_mem hil
      obtain ⟨x, hx⟩ : ∃ x, L.getD i Ct.zero = x := ⟨_, rfl⟩
      rw [hx] at p0 p1 hm
      obtain ⟨nx, hnx⟩ : ∃ nx, nx = x.l.length := ⟨_, rfl⟩
      rw [← hnx] at p0
      have hnx9 : nx ≤ 1000000 := by rw [hnx]; exact HRL.out x hm
      have HNX := Lib.hid hnx
      have HX := Lib.hid hx
      have HIL := Lib.hid hil
      have XE : Ext wr wr.drew := (Ext.refl wr).drew
      have HR2 := Lib.hid (((H.out.rows x hm).ext HP.out.ext).ext XE)
      have P0 : ∀ z : Xt wr.drew, z.W.cell? (ad.add (i * 2)) = some (.slice x.A nx x.c) := fun z => (XE.trans z.x).cell p0
      have P1 : ∀ z : Xt wr.drew, z.W.cell? ⟨(ad.add (i * 2)).block, (ad.add (i * 2)).off + 1, none⟩ = some (.int .i64 x.k) := fun z => (XE.trans z.x).cell p1
      clear hil hm hx hnx
      go_upto_region 5 with fail
      refine wp_region_ord [0,0,0,6,14,30,62,0,0,384,896,1920,4094,8190,16383,32767] (.pur [0] (.flo [1,2,3,4,5,7,8,9,10,11] (.ext 6 (.flo [12] (.one 13 (.one 14 (.flo [15] (.fin)))))))) (by kernel_rfl) (by kernel_rfl) (by intro _ _ d _ _ h; cases d <;> exact h) ?_
      (refine ord_pur (pick_cons rfl pick_nil) ?_; (repeat (go_big_quiet_step (fail))); refine wpQuiet_nil ?_; show ordWalk _ _ _ _ _ _ _)
      (refine ord_flo (pick_cons rfl (pick_cons rfl (pick_cons rfl (pick_cons rfl (pick_cons rfl (pick_cons rfl (pick_cons rfl (pick_cons rfl (pick_cons rfl (pick_cons rfl pick_nil)))))))))) ?_; (repeat (go_big_quiet_step (fail))); refine wpQuiet_nil ?_; show ordWalk _ _ _ _ _ _ _)
      refine ord_ext (pick_cons rfl pick_nil) ?_; intro K_ hK_
      go_wp2_with (go_at_call 33; refine (lentRow_lit x.A x.c nx x.l _ HNX HR2 hnx9).mono ?_; rintro e w3 ⟨h3, rfl, b3, o3, x3⟩)
      refine ordNext.mk x3 ?_
      have O3 := Lib.hid o3
      have hb4 : h3 < w3.heap.size := (o3.lt h3 rfl).2
      have hb3 : wr.heap.size ≤ h3 := b3
      have X3 := Lib.hid (XE.trans x3)
      clear o3 b3
      (refine ord_flo (pick_cons rfl pick_nil) ?_; (repeat (go_big_quiet_step (fail))); refine wpQuiet_nil ?_; show ordWalk _ _ _ _ _ _ _)
      refine ord_one (pick_cons rfl pick_nil) ?_; intro K_ hK_
      go_wp2
      refine ord_one (pick_cons rfl pick_nil) ?_; intro K_ hK_
      have HS3 := Lib.hid (HP.out.mono X3.out)
      go_wp2_with (at_builtin; refine wpList_append_fit _ elem_ct w.heap.size _ _ rfl rfl w.heap.size i (n + 1) (ctsC O) rfl (HS3.out.own.alloc _) (by omega) (some ⟨w3.heap.size, 0, none⟩) 1 1 [.slice (some ⟨h3, 0, none⟩) nx (nx + 2), .int .i64 x.k] rfl (sl_ct _ _ _ _) (by intro u hu; simp at hu; rcases hu with rfl | rfl <;> rfl) (by omega) ?_; intro w4 o4 g4)
      have O4 := Lib.hid o4
      have G4 := Lib.hid ((upd_ext ((Ext.refl w3).alloc (.cells #[.slice (some ⟨h3, 0, none⟩) nx (nx + 2), .int .i64 x.k] 32)) w.heap.size).trans g4)
      clear o4 g4
      go_simp
      (refine ord_flo (pick_cons rfl pick_nil) ?_; (repeat (go_big_quiet_step (fail))); refine wpQuiet_nil ?_; show ordWalk _ _ _ _ _ _ _)
      refine ord_fin ?_
      go_wp2
      go_roundg (n - (i + 1))
      case measure => omega
      case rel => exact ⟨i + 1, O ++ [⟨some ⟨h3, 0, none⟩, nx + 2, x.l, x.k⟩], rfl, by omega, rfl, by go_num, Lib.hid (HP.out.new HIL.out HX.out HNX.out X3.out hb3 hb4 (by have := O3.out; exact this) O4.out G4.out)⟩
    · obtain rfl : i = n := by omega
      have HE := Lib.hid HP.out.own
      go_wp2_with (at_builtin; refine wpList_append_fit _ elem_ct w.heap.size _ _ rfl rfl w.heap.size i (i + 1) (ctsC O) rfl (HE.out.alloc _) (by omega) (some ⟨wr.heap.size, 0, none⟩) 1 1 [.slice none 0 0, .int .i64 91] rfl (sl_ct _ _ _ _) (by intro u hu; simp at hu; rcases hu with rfl | rfl <;> rfl) (by omega) ?_; intro w4 o4 g4; have O4 := Lib.hid o4; have G4 := Lib.hid ((upd_ext ((Ext.refl wr).alloc (.cells #[.slice none 0 0, .int .i64 91] 32)) w.heap.size).trans g4); clear o4 g4)
      go_ret
      refine ⟨w.heap.size, O, by simp, Nat.le_refl _, ⟨by rw [ctsC_append]; exact O4.out, fun y hy => ?_, HP.out.apart, HP.out.len⟩, by rw [HP.out.vals, List.take_of_length_le (by rw [← HN.out]; exact Nat.le_refl _)], HP.out.ext.grown G4.out (fun k e => by cases e; exact Nat.le_refl _)⟩
      obtain ⟨q1, k, q2, q3, q4⟩ := HP.out.rows y hy
      refine ⟨?_, k, q2, q3, by have := G4.out.size; omega⟩
      unfold LentX at q1 ⊢
      rw [q2] at q1 ⊢
      exact own_upd q1 G4.out (by omega)
end Go.Proofs.YtngeioghihbkeaaDoor
namespace Go.Proofs.YtngeioghihbkeaaDoor
open Go.RowKit

theorem marks_at (l : List Dat) {n : Nat} (hn : n = l.length) : (l ++ marks).getD n Dat.zero = mark_ 91 ∧ (l ++ marks).getD (n + 1) Dat.zero = mark_ 92 := by
  subst hn
  rw [List.getD_eq_getElem?_getD, List.getD_eq_getElem?_getD, List.getElem?_append_right (Nat.le_refl _), List.getElem?_append_right (by omega), Nat.sub_self, show l.length + 1 - l.length = 1 by omega]
  exact ⟨rfl, rfl⟩
theorem rw_left {w : World} {A : Option Addr} {c : Nat} {l m : List Dat} (h : Rw w A c (l ++ m)) : Rw w A c l := by
  have := Sl.take (k := l.length) (show Sl w 4 A (l ++ m).length c (rowC (l ++ m)) from h) (by rw [List.length_append]; omega)
  rw [rowC_take, List.take_left] at this
  exact this
set_option maxRecDepth 100000 in
set_option maxHeartbeats 2000000 in
theorem wholeRow_any (A1 A2 : Option Addr) (c1 c2 n m : Nat) (l : List Dat) (w : World) (hn : n = l.length) (hm : m = n) (hs : n ≤ 1000000000) (h1 : Rw w A1 c1 (l ++ marks)) (h2 : Rw w A2 c2 l) :
    Calls Tryd.prog 49 #[.slice A1 n c1, .slice A2 m c2] w fun e w' => e = .returned (.bool true) ∧ Ext w w' := by
  subst hm
  have hc : m + 2 ≤ c1 := by have := (Sl.cap (show Sl w 4 A1 (l ++ marks).length c1 (rowC (l ++ marks)) from h1)).1; rw [List.length_append, ← hn] at this; exact this
  have hc9 := (Sl.cap (show Sl w 4 A1 (l ++ marks).length c1 (rowC (l ++ marks)) from h1)).2
  obtain ⟨e1, e2⟩ := marks_at l hn
  obtain ⟨ad, rfl, p0, p1, p2, p3⟩ := h1.at (i := m) (by rw [List.length_append, ← hn]; show m < m + 2; omega)
  obtain ⟨ad', e3, q0, q1, q2, q3⟩ := h1.at (i := m + 1) (by rw [List.length_append, ← hn]; show m + 1 < m + 2; omega)
  obtain rfl : ad = ad' := by injection e3
  rw [e1] at p0 p1 p2 p3
  rw [e2] at q0 q1 q2 q3
  simp only [mark_] at p0 p1 p2 p3 q0 q1 q2 q3
  have HN := Lib.hid hn
  have HM : Hid (m = m) := Lib.hid rfl
  have H1 := Lib.hid (rw_left h1)
  have H2 := Lib.hid h2
  have hcd : ¬ c1 < m + 2 := by omega
  clear hn h1 h2 e1 e2 e3
  go_enter Tryd.func49, Tryd.ntmps49
  go_wp2_with (go_at_call 31; refine (sameRow_lit (some ad) A2 c1 c2 m m l _ HN HM H1 H2).mono ?_; rintro e w1 ⟨rfl, x1⟩)
  go_ret
  exact ⟨rfl, x1⟩
theorem wholeRow_lit (A1 A2 : Option Addr) (c1 c2 n m : Nat) (l : List Dat) (w : World) (hn : Hid (n = l.length)) (hm : Hid (m = n)) (hs : n ≤ 1000000000) (h1 : Hid (Rw w A1 c1 (l ++ marks))) (h2 : Hid (Rw w A2 c2 l)) :
    Calls Tryd.prog 49 #[.slice A1 n c1, .slice A2 m c2] w fun e w' => e = .returned (.bool true) ∧ Ext w w' := wholeRow_any A1 A2 c1 c2 n m l w hn.out hm.out hs h1.out h2.out
theorem LentX.mk {w : World} {B : Nat} {x : Ct} (h : LentX w B x) : Rw w x.A x.c (x.l ++ marks) := by
  unfold Rw
  rw [List.length_append]
  exact Own.sl h
set_option maxRecDepth 100000 in
set_option maxHeartbeats 4000000 in
theorem wholeCts_any (A2 : Option Addr) (c2 n m B g : Nat) (L M : List Ct) (w : World) (hm : m = L.length) (hn : n = m) (hs : n ≤ 1000000000) (h1 : LentCts w B g n M) (h2 : Cin w A2 c2 L) (he : M.map valC = L.map valC) (hr : ∀ x ∈ L, x.l.length ≤ 1000000) :
    Calls Tryd.prog 21 #[.slice (some ⟨g, 0, none⟩) n (n + 1), .slice A2 m c2] w fun e w' => e = .returned (.bool true) ∧ Ext w w' := by
  subst hn
  have hw := h1.own.sl
  obtain ⟨g', eg, _, _, _, hc, _⟩ := h1.own.form (by omega)
  cases eg
  have pm : w.cell? ⟨g, n * 2 + 1, none⟩ = some (.int .i64 91) := hc _ _ (by
    have := ctsC_at (M ++ [ctMark]) n 1 (by rw [List.length_append, h1.len]; exact Nat.lt_succ_self n) (by decide)
    rw [show (M ++ [ctMark]).getD n Ct.zero = ctMark from getD_here h1.len.symm] at this
    exact this)
  have HM := Lib.hid hm
  have H1 := Lib.hid h1
  have H2 := Lib.hid h2
  have HE := Lib.hid he
  have HR := Lib.hid hr
  clear hm h1 h2 he hw hc hr
  go_enter Tryd.func21, Tryd.ntmps21
  go_wp2
  go_loopw [5] (fun v wr => ∃ i : Nat, i ≤ n ∧ v = .int .i64 i ∧ Ext w wr) (fun v _ => n - (intOf v).toNat)
  case atStart => exact ⟨0, Nat.zero_le _, rfl, Ext.refl _⟩
  case round =>
    obtain ⟨i, hi, rfl, er⟩ := hrel
    clear pm
    by_cases hlt : i < n
    · have hil : i < M.length := by rw [H1.out.len]; exact hlt
      have him : i < L.length := by rw [← HM.out]; exact hlt
      obtain ⟨ad, eA, p0, p1⟩ := (H1.out.cin.ext er).at hil
      cases eA
      obtain ⟨bd, rfl, q0, q1⟩ := (H2.out.ext er).at him
      have hr1 := (H1.out.rows _ (getD_mem hil)).1.mk
      have hr2 := H2.out.rows _ (getD_mem him)
      have hrl := HR.out _ (getD_mem him)
      obtain ⟨e1, e2⟩ := val_at HE.out hil
      rw [e1] at q0 hr2 hrl
      rw [e2] at q1
      obtain ⟨x, hx⟩ : ∃ x, M.getD i Ct.zero = x := ⟨_, rfl⟩
      obtain ⟨y, hy⟩ : ∃ y, L.getD i Ct.zero = y := ⟨_, rfl⟩
      rw [hx] at p0 p1 hr1 q0 q1 hr2 hrl
      rw [hy] at q0 hr2
      obtain ⟨nx, hnx⟩ : ∃ nx, nx = x.l.length := ⟨_, rfl⟩
      rw [← hnx] at p0 q0 hrl
      have hrl9 : nx ≤ 1000000000 := by omega
      have HNX := Lib.hid hnx
      have HEQ : Hid (nx = nx) := Lib.hid rfl
      have XE : Ext wr wr.drew := (Ext.refl wr).drew
      have HR1 := Lib.hid ((hr1.ext er).ext XE)
      have HR2 := Lib.hid ((hr2.ext er).ext XE)
      have P0 : ∀ z : Xt wr.drew, z.W.cell? ((⟨g, 0, none⟩ : Addr).add (i * 2)) = some (.slice x.A nx x.c) := fun z => (XE.trans z.x).cell p0
      have P1 : ∀ z : Xt wr.drew, z.W.cell? ⟨((⟨g, 0, none⟩ : Addr).add (i * 2)).block, ((⟨g, 0, none⟩ : Addr).add (i * 2)).off + 1, none⟩ = some (.int .i64 x.k) := fun z => (XE.trans z.x).cell p1
      rw [show (⟨g, 0, none⟩ : Addr).add (i * 2) = ⟨g, i * 2, none⟩ from by unfold Addr.add; split <;> simp_all] at P0 P1
      have Q0 : ∀ z : Xt wr.drew, z.W.cell? (bd.add (i * 2)) = some (.slice y.A nx y.c) := fun z => (XE.trans z.x).cell q0
      have Q1 : ∀ z : Xt wr.drew, z.W.cell? ⟨(bd.add (i * 2)).block, (bd.add (i * 2)).off + 1, none⟩ = some (.int .i64 x.k) := fun z => (XE.trans z.x).cell q1
      clear hil him hr1 hr2 e1 e2 hx hy hnx p0 p1 hrl
      go_upto_region 6 with fail
      refine wp_region_ord [0,0,3,7,15,0,0,96,224,480,1023,2047,4095,4095,16383,32767,65535,4095,4095,397311,921599,1970175,4194303,8388607,16777215] (.flo [0,1,2,3,4,5,6,7,8,9,10,11,12,13,14,15,16,17,18,19,20,21] (.one 22 (.flo [23,24] (.fin)))) (by kernel_rfl) (by kernel_rfl) (by intro _ _ d _ _ h; cases d <;> exact h) ?_
      (refine ord_flo (pick_cons rfl (pick_cons rfl (pick_cons rfl (pick_cons rfl (pick_cons rfl (pick_cons rfl (pick_cons rfl (pick_cons rfl (pick_cons rfl (pick_cons rfl (pick_cons rfl (pick_cons rfl (pick_cons rfl (pick_cons rfl (pick_cons rfl (pick_cons rfl (pick_cons rfl (pick_cons rfl (pick_cons rfl (pick_cons rfl (pick_cons rfl (pick_cons rfl pick_nil)))))))))))))))))))))) ?_; (repeat (go_big_quiet_step (fail))); refine wpQuiet_nil ?_; show ordWalk _ _ _ _ _ _ _)
      refine ord_one (pick_cons rfl pick_nil) ?_; intro K_ hK_
      go_wp2_with (go_at_call 49; refine (wholeRow_lit x.A y.A x.c y.c nx nx x.l _ HNX HEQ hrl9 HR1 HR2).mono ?_; rintro e w1 ⟨rfl, x1⟩)
      (refine ord_flo (pick_cons rfl (pick_cons rfl pick_nil)) ?_; (repeat (go_big_quiet_step (fail))); refine wpQuiet_nil ?_; show ordWalk _ _ _ _ _ _ _)
      refine ord_fin ?_
      go_wp2
      go_roundw
      case rel => exact ⟨i + 1, by omega, by go_num, er.trans (XE.trans x1)⟩
      case measure => simp [intOf]; omega
    · go_wp2
      go_ret
      exact ⟨rfl, er⟩
end Go.Proofs.YtngeioghihbkeaaDoor
