/- penstockref00.WholeRow, WholeCounteds: what was lent is as it was. Conditions: the lists are as readings give them. -/
import Derived.Test.YtngeioghihbkeaaDoorRowSame
import Derived.Test.YtngeioghihbkeaaDoorRowLent
namespace Go.Proofs.YtngeioghihbkeaaDoor
open Go.RowKit

theorem marks_at (l : List Dat) {n : Nat} (hn : n = l.length) : (l ++ marks).getD n Dat.zero = mark_ 91 ∧ (l ++ marks).getD (n + 1) Dat.zero = mark_ 92 := by
  subst hn
  rw [List.getD_eq_getElem?_getD, List.getD_eq_getElem?_getD, List.getElem?_append_right (Nat.le_refl _), List.getElem?_append_right (by omega), Nat.sub_self, show l.length + 1 - l.length = 1 by omega]
  exact ⟨rfl, rfl⟩
theorem rw_left {w : World} {A : Option Addr} {c : Nat} {l m : List Dat} (h : Rw w A c (l ++ m)) : Rw w A c l := by
  have := Sl.take (k := l.length) (show Sl w 4 A (l ++ m).length c (rowC (l ++ m)) from h) (by rw [List.length_append]; omega)
  rw [rowC_take, List.take_left] at this
  exact this
set_option maxRecDepth 100000 in
set_option maxHeartbeats 2000000 in
theorem wholeRow_any (A1 A2 : Option Addr) (c1 c2 n m : Nat) (l : List Dat) (w : World) (hn : n = l.length) (hm : m = n) (hs : n ≤ 1000000000) (h1 : Rw w A1 c1 (l ++ marks)) (h2 : Rw w A2 c2 l) :
    Calls Tryd.prog 49 #[.slice A1 n c1, .slice A2 m c2] w fun e w' => e = .returned (.bool true) ∧ Ext w w' := by
  subst hm
  have hc : m + 2 ≤ c1 := by have := (Sl.cap (show Sl w 4 A1 (l ++ marks).length c1 (rowC (l ++ marks)) from h1)).1; rw [List.length_append, ← hn] at this; exact this
  have hc9 := (Sl.cap (show Sl w 4 A1 (l ++ marks).length c1 (rowC (l ++ marks)) from h1)).2
  obtain ⟨e1, e2⟩ := marks_at l hn
  obtain ⟨ad, rfl, p0, p1, p2, p3⟩ := h1.at (i := m) (by rw [List.length_append, ← hn]; show m < m + 2; omega)
  obtain ⟨ad', e3, q0, q1, q2, q3⟩ := h1.at (i := m + 1) (by rw [List.length_append, ← hn]; show m + 1 < m + 2; omega)
  obtain rfl : ad = ad' := by injection e3
  rw [e1] at p0 p1 p2 p3
  rw [e2] at q0 q1 q2 q3
  simp only [mark_] at p0 p1 p2 p3 q0 q1 q2 q3
  have HN := Lib.hid hn
  have HM : Hid (m = m) := Lib.hid rfl
  have H1 := Lib.hid (rw_left h1)
  have H2 := Lib.hid h2
  have hcd : ¬ c1 < m + 2 := by omega
  clear hn h1 h2 e1 e2 e3
  go_enter Tryd.func49, Tryd.ntmps49
  go_wp2_with (go_at_call 31; refine (sameRow_lit (some ad) A2 c1 c2 m m l _ HN HM H1 H2).mono ?_; rintro e w1 ⟨rfl, x1⟩)
  go_ret
  exact ⟨rfl, x1⟩
theorem wholeRow_lit (A1 A2 : Option Addr) (c1 c2 n m : Nat) (l : List Dat) (w : World) (hn : Hid (n = l.length)) (hm : Hid (m = n)) (hs : n ≤ 1000000000) (h1 : Hid (Rw w A1 c1 (l ++ marks))) (h2 : Hid (Rw w A2 c2 l)) :
    Calls Tryd.prog 49 #[.slice A1 n c1, .slice A2 m c2] w fun e w' => e = .returned (.bool true) ∧ Ext w w' := wholeRow_any A1 A2 c1 c2 n m l w hn.out hm.out hs h1.out h2.out
theorem LentX.mk {w : World} {B : Nat} {x : Ct} (h : LentX w B x) : Rw w x.A x.c (x.l ++ marks) := by
  unfold Rw
  rw [List.length_append]
  exact Own.sl h
set_option maxRecDepth 100000 in
set_option maxHeartbeats 4000000 in
theorem wholeCts_any (A2 : Option Addr) (c2 n m B g : Nat) (L M : List Ct) (w : World) (hm : m = L.length) (hn : n = m) (hs : n ≤ 1000000000) (h1 : LentCts w B g n M) (h2 : Cin w A2 c2 L) (he : M.map valC = L.map valC) (hr : ∀ x ∈ L, x.l.length ≤ 1000000) :
    Calls Tryd.prog 21 #[.slice (some ⟨g, 0, none⟩) n (n + 1), .slice A2 m c2] w fun e w' => e = .returned (.bool true) ∧ Ext w w' := by
  subst hn
  have hw := h1.own.sl
  obtain ⟨g', eg, _, _, _, hc, _⟩ := h1.own.form (by omega)
  cases eg
  have pm : w.cell? ⟨g, n * 2 + 1, none⟩ = some (.int .i64 91) := hc _ _ (by
    have := ctsC_at (M ++ [ctMark]) n 1 (by rw [List.length_append, h1.len]; exact Nat.lt_succ_self n) (by decide)
    rw [show (M ++ [ctMark]).getD n Ct.zero = ctMark from getD_here h1.len.symm] at this
    exact this)
  have HM := Lib.hid hm
  have H1 := Lib.hid h1
  have H2 := Lib.hid h2
  have HE := Lib.hid he
  have HR := Lib.hid hr
  clear hm h1 h2 he hw hc hr
  go_enter Tryd.func21, Tryd.ntmps21
  go_wp2
  go_loopw [5] (fun v wr => ∃ i : Nat, i ≤ n ∧ v = .int .i64 i ∧ Ext w wr) (fun v _ => n - (intOf v).toNat)
  case atStart => exact ⟨0, Nat.zero_le _, rfl, Ext.refl _⟩
  case round =>
    obtain ⟨i, hi, rfl, er⟩ := hrel
    clear pm
    by_cases hlt : i < n
    · have hil : i < M.length := by rw [H1.out.len]; exact hlt
      have him : i < L.length := by rw [← HM.out]; exact hlt
      obtain ⟨ad, eA, p0, p1⟩ := (H1.out.cin.ext er).at hil
      cases eA
      obtain ⟨bd, rfl, q0, q1⟩ := (H2.out.ext er).at him
      have hr1 := (H1.out.rows _ (getD_mem hil)).1.mk
      have hr2 := H2.out.rows _ (getD_mem him)
      have hrl := HR.out _ (getD_mem him)
      obtain ⟨e1, e2⟩ := val_at HE.out hil
      rw [e1] at q0 hr2 hrl
      rw [e2] at q1
      obtain ⟨x, hx⟩ : ∃ x, M.getD i Ct.zero = x := ⟨_, rfl⟩
      obtain ⟨y, hy⟩ : ∃ y, L.getD i Ct.zero = y := ⟨_, rfl⟩
      rw [hx] at p0 p1 hr1 q0 q1 hr2 hrl
      rw [hy] at q0 hr2
      obtain ⟨nx, hnx⟩ : ∃ nx, nx = x.l.length := ⟨_, rfl⟩
      rw [← hnx] at p0 q0 hrl
      have hrl9 : nx ≤ 1000000000 := by omega
      have HNX := Lib.hid hnx
      have HEQ : Hid (nx = nx) := Lib.hid rfl
      have XE : Ext wr wr.drew := (Ext.refl wr).drew
      have HR1 := Lib.hid ((hr1.ext er).ext XE)
      have HR2 := Lib.hid ((hr2.ext er).ext XE)
      have P0 : ∀ z : Xt wr.drew, z.W.cell? ((⟨g, 0, none⟩ : Addr).add (i * 2)) = some (.slice x.A nx x.c) := fun z => (XE.trans z.x).cell p0
      have P1 : ∀ z : Xt wr.drew, z.W.cell? ⟨((⟨g, 0, none⟩ : Addr).add (i * 2)).block, ((⟨g, 0, none⟩ : Addr).add (i * 2)).off + 1, none⟩ = some (.int .i64 x.k) := fun z => (XE.trans z.x).cell p1
      rw [show (⟨g, 0, none⟩ : Addr).add (i * 2) = ⟨g, i * 2, none⟩ from by unfold Addr.add; split <;> simp_all] at P0 P1
      have Q0 : ∀ z : Xt wr.drew, z.W.cell? (bd.add (i * 2)) = some (.slice y.A nx y.c) := fun z => (XE.trans z.x).cell q0
      have Q1 : ∀ z : Xt wr.drew, z.W.cell? ⟨(bd.add (i * 2)).block, (bd.add (i * 2)).off + 1, none⟩ = some (.int .i64 x.k) := fun z => (XE.trans z.x).cell q1
      clear hil him hr1 hr2 e1 e2 hx hy hnx p0 p1 hrl
      go_upto_region 6 with fail
      refine wp_region_ord [0,0,3,7,15,0,0,96,224,480,1023,2047,4095,4095,16383,32767,65535,4095,4095,397311,921599,1970175,4194303,8388607,16777215] (.flo [0,1,2,3,4,5,6,7,8,9,10,11,12,13,14,15,16,17,18,19,20,21] (.one 22 (.flo [23,24] (.fin)))) (by kernel_rfl) (by kernel_rfl) (by intro _ _ d _ _ h; cases d <;> exact h) ?_
      (refine ord_flo (pick_cons rfl (pick_cons rfl (pick_cons rfl (pick_cons rfl (pick_cons rfl (pick_cons rfl (pick_cons rfl (pick_cons rfl (pick_cons rfl (pick_cons rfl (pick_cons rfl (pick_cons rfl (pick_cons rfl (pick_cons rfl (pick_cons rfl (pick_cons rfl (pick_cons rfl (pick_cons rfl (pick_cons rfl (pick_cons rfl (pick_cons rfl (pick_cons rfl pick_nil)))))))))))))))))))))) ?_; (repeat (go_big_quiet_step (fail))); refine wpQuiet_nil ?_; show ordWalk _ _ _ _ _ _ _)
      refine ord_one (pick_cons rfl pick_nil) ?_; intro K_ hK_
      go_wp2_with (go_at_call 49; refine (wholeRow_lit x.A y.A x.c y.c nx nx x.l _ HNX HEQ hrl9 HR1 HR2).mono ?_; rintro e w1 ⟨rfl, x1⟩)
      (refine ord_flo (pick_cons rfl (pick_cons rfl pick_nil)) ?_; (repeat (go_big_quiet_step (fail))); refine wpQuiet_nil ?_; show ordWalk _ _ _ _ _ _ _)
      refine ord_fin ?_
      go_wp2
      go_roundw
      case rel => exact ⟨i + 1, by omega, by go_num, er.trans (XE.trans x1)⟩
      case measure => simp [intOf]; omega
    · go_wp2
      go_ret
      exact ⟨rfl, er⟩
end Go.Proofs.YtngeioghihbkeaaDoor
