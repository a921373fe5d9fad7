/- penstockref00.SameRow, SameCounteds, WholeRow, WholeCounteds: of what is the same they say so. Conditions: the lists are as readings give them. -/
import Derived.Test.YtngeioghihbkeaaDoorSumAll
import Derived.Test.YtngeioghihbkeaaDoorRowKnown
import Derived.Deep.LoopGhost
namespace Go.Proofs.YtngeioghihbkeaaDoor
open Go.RowKit

set_option maxRecDepth 100000 in
set_option maxHeartbeats 1000000 in
theorem sameRow_any (A1 A2 : Option Addr) (c1 c2 n m : Nat) (l : List Dat) (w : World) (hn : n = l.length) (hm : m = n) (h1 : Rw w A1 c1 l) (h2 : Rw w A2 c2 l) :
    Calls Tryd.prog 31 #[.slice A1 n c1, .slice A2 m c2] w fun e w' => e = .returned (.bool true) ∧ Ext w w' := by
  subst hm
  have hnm := h1.le
  rw [← hn] at hnm
  have HN := Lib.hid hn
  have H1 := Lib.hid h1
  have H2 := Lib.hid h2
  clear hn h1 h2
  go_enter Tryd.func31, Tryd.ntmps31
  go_wp2
  go_loopw [5] (fun v wr => ∃ i : Nat, i ≤ m ∧ v = .int .i64 i ∧ Ext w wr) (fun v _ => m - (intOf v).toNat)
  case atStart => exact ⟨0, Nat.zero_le _, rfl, Ext.refl _⟩
  case round =>
    obtain ⟨i, hi, rfl, er⟩ := hrel
    by_cases hlt : i < m
    · have hil : i < l.length := by rw [← HN.out]; exact hlt
      obtain ⟨ad, rfl, p0, p1, p2, p3⟩ := (H1.out.ext er).at hil
      obtain ⟨bd, rfl, q0, q1, q2, q3⟩ := (H2.out.ext er).at hil
      obtain ⟨d, hd⟩ : ∃ d, l.getD i Dat.zero = d := ⟨_, rfl⟩
      rw [hd] at p0 p1 p2 p3 q0 q1 q2 q3
      have XE : Ext wr wr.drew := (Ext.refl wr).drew
      have P0 : ∀ z : Xt wr.drew, z.W.cell? (ad.add (i * 4)) = some (.int .u8 d.k) := fun z => (XE.trans z.x).cell p0
      have P1 : ∀ z : Xt wr.drew, z.W.cell? ⟨(ad.add (i * 4)).block, (ad.add (i * 4)).off + 1, none⟩ = some (.bool d.b) := fun z => (XE.trans z.x).cell p1
      have P2 : ∀ z : Xt wr.drew, z.W.cell? ⟨(ad.add (i * 4)).block, (ad.add (i * 4)).off + 2, none⟩ = some (.int .i64 d.n) := fun z => (XE.trans z.x).cell p2
      have P3 : ∀ z : Xt wr.drew, z.W.cell? ⟨(ad.add (i * 4)).block, (ad.add (i * 4)).off + 3, none⟩ = some (.string d.s) := fun z => (XE.trans z.x).cell p3
      have Q0 : ∀ z : Xt wr.drew, z.W.cell? (bd.add (i * 4)) = some (.int .u8 d.k) := fun z => (XE.trans z.x).cell q0
      have Q1 : ∀ z : Xt wr.drew, z.W.cell? ⟨(bd.add (i * 4)).block, (bd.add (i * 4)).off + 1, none⟩ = some (.bool d.b) := fun z => (XE.trans z.x).cell q1
      have Q2 : ∀ z : Xt wr.drew, z.W.cell? ⟨(bd.add (i * 4)).block, (bd.add (i * 4)).off + 2, none⟩ = some (.int .i64 d.n) := fun z => (XE.trans z.x).cell q2
      have Q3 : ∀ z : Xt wr.drew, z.W.cell? ⟨(bd.add (i * 4)).block, (bd.add (i * 4)).off + 3, none⟩ = some (.string d.s) := fun z => (XE.trans z.x).cell q3
      clear hil hd
      go_upto_region 6 with fail
      refine wp_region_ord [0,0,3,7,0,0,48,112,255] (.flo [0,1,2,3,4,5,6,7,8] (.fin)) (by kernel_rfl) (by kernel_rfl) (by intro _ _ d _ _ h; cases d <;> exact h) ?_
      (refine ord_flo (pick_cons rfl (pick_cons rfl (pick_cons rfl (pick_cons rfl (pick_cons rfl (pick_cons rfl (pick_cons rfl (pick_cons rfl (pick_cons rfl pick_nil))))))))) ?_; (repeat (go_big_quiet_step (fail))); refine wpQuiet_nil ?_; show ordWalk _ _ _ _ _ _ _)
      refine ord_fin ?_
      go_wp2
      go_roundw
      case rel => exact ⟨i + 1, by omega, by go_num, er.trans XE⟩
      case measure => simp [intOf]; omega
    · go_wp2
      go_ret
      exact ⟨rfl, er⟩
theorem sameRow_lit (A1 A2 : Option Addr) (c1 c2 n m : Nat) (l : List Dat) (w : World) (hn : Hid (n = l.length)) (hm : Hid (m = n)) (h1 : Hid (Rw w A1 c1 l)) (h2 : Hid (Rw w A2 c2 l)) :
    Calls Tryd.prog 31 #[.slice A1 n c1, .slice A2 m c2] w fun e w' => e = .returned (.bool true) ∧ Ext w w' := sameRow_any A1 A2 c1 c2 n m l w hn.out hm.out h1.out h2.out
/-- the i-th ones of lists that are the same -/
theorem val_at {L M : List Ct} (h : L.map valC = M.map valC) {i : Nat} (hi : i < L.length) : (M.getD i Ct.zero).l = (L.getD i Ct.zero).l ∧ (M.getD i Ct.zero).k = (L.getD i Ct.zero).k := by
  have hl := congrArg List.length h
  rw [List.length_map, List.length_map] at hl
  have e := congrArg (fun l : List V => l[i]?) h
  simp only [List.getElem?_map] at e
  rw [List.getElem?_eq_getElem hi, List.getElem?_eq_getElem (by omega)] at e
  simp only [Option.map_some, Option.some.injEq] at e
  rw [List.getD_eq_getElem?_getD, List.getD_eq_getElem?_getD, List.getElem?_eq_getElem hi, List.getElem?_eq_getElem (by omega)]
  exact ⟨(congrArg Prod.fst e).symm, (congrArg Prod.snd e).symm⟩
set_option maxRecDepth 100000 in
set_option maxHeartbeats 2000000 in
theorem sameCts_any (A1 A2 : Option Addr) (c1 c2 n m : Nat) (L M : List Ct) (w : World) (hn : n = L.length) (hm : m = M.length) (h1 : Cin w A1 c1 L) (h2 : Cin w A2 c2 M) (he : L.map valC = M.map valC) :
    Calls Tryd.prog 19 #[.slice A1 n c1, .slice A2 m c2] w fun e w' => e = .returned (.bool true) ∧ Ext w w' := by
  have hl := congrArg List.length he
  rw [List.length_map, List.length_map] at hl
  obtain rfl : m = n := by omega
  have hnm := h1.sl.le
  rw [← hn] at hnm
  have HN := Lib.hid hn
  have H1 := Lib.hid h1
  have H2 := Lib.hid h2
  have HE := Lib.hid he
  have HM := Lib.hid hm
  clear hn h1 h2 he hm hl
  go_enter Tryd.func19, Tryd.ntmps19
  go_wp2
  go_loopw [5] (fun v wr => ∃ i : Nat, i ≤ m ∧ v = .int .i64 i ∧ Ext w wr) (fun v _ => m - (intOf v).toNat)
  case atStart => exact ⟨0, Nat.zero_le _, rfl, Ext.refl _⟩
  case round =>
    obtain ⟨i, hi, rfl, er⟩ := hrel
    by_cases hlt : i < m
    · have hil : i < L.length := by rw [← HN.out]; exact hlt
      have him : i < M.length := by rw [← HM.out]; exact hlt
      obtain ⟨ad, rfl, p0, p1⟩ := (H1.out.ext er).at hil
      obtain ⟨bd, rfl, q0, q1⟩ := (H2.out.ext er).at him
      have hr1 := H1.out.rows _ (getD_mem hil)
      have hr2 := H2.out.rows _ (getD_mem him)
      obtain ⟨e1, e2⟩ := val_at HE.out hil
      rw [e1] at q0 hr2
      rw [e2] at q1
      obtain ⟨x, hx⟩ : ∃ x, L.getD i Ct.zero = x := ⟨_, rfl⟩
      obtain ⟨y, hy⟩ : ∃ y, M.getD i Ct.zero = y := ⟨_, rfl⟩
      rw [hx] at p0 p1 hr1 q0 q1 hr2
      rw [hy] at q0 hr2
      obtain ⟨nx, hnx⟩ : ∃ nx, nx = x.l.length := ⟨_, rfl⟩
      rw [← hnx] at p0 q0
      have HNX := Lib.hid hnx
      have HEQ : Hid (nx = nx) := Lib.hid rfl
      have XE : Ext wr wr.drew := (Ext.refl wr).drew
      have HR1 := Lib.hid ((hr1.ext er).ext XE)
      have HR2 := Lib.hid ((hr2.ext er).ext XE)
      have P0 : ∀ z : Xt wr.drew, z.W.cell? (ad.add (i * 2)) = some (.slice x.A nx x.c) := fun z => (XE.trans z.x).cell p0
      have P1 : ∀ z : Xt wr.drew, z.W.cell? ⟨(ad.add (i * 2)).block, (ad.add (i * 2)).off + 1, none⟩ = some (.int .i64 x.k) := fun z => (XE.trans z.x).cell p1
      have Q0 : ∀ z : Xt wr.drew, z.W.cell? (bd.add (i * 2)) = some (.slice y.A nx y.c) := fun z => (XE.trans z.x).cell q0
      have Q1 : ∀ z : Xt wr.drew, z.W.cell? ⟨(bd.add (i * 2)).block, (bd.add (i * 2)).off + 1, none⟩ = some (.int .i64 x.k) := fun z => (XE.trans z.x).cell q1
      clear hil him hr1 hr2 e1 e2 hx hy hnx
      go_upto_region 6 with fail
      refine wp_region_ord [0,0,3,7,15,0,0,96,224,480,1023,2047,4095,4095,16383,32767,65535,4095,4095,397311,921599,1970175,4194303,8388607,16777215] (.flo [0,1,2,3,4,5,6,7,8,9,10,11,12,13,14,15,16,17,18,19,20,21] (.one 22 (.flo [23,24] (.fin)))) (by kernel_rfl) (by kernel_rfl) (by intro _ _ d _ _ h; cases d <;> exact h) ?_
      (refine ord_flo (pick_cons rfl (pick_cons rfl (pick_cons rfl (pick_cons rfl (pick_cons rfl (pick_cons rfl (pick_cons rfl (pick_cons rfl (pick_cons rfl (pick_cons rfl (pick_cons rfl (pick_cons rfl (pick_cons rfl (pick_cons rfl (pick_cons rfl (pick_cons rfl (pick_cons rfl (pick_cons rfl (pick_cons rfl (pick_cons rfl (pick_cons rfl (pick_cons rfl pick_nil)))))))))))))))))))))) ?_; (repeat (go_big_quiet_step (fail))); refine wpQuiet_nil ?_; show ordWalk _ _ _ _ _ _ _)
      refine ord_one (pick_cons rfl pick_nil) ?_; intro K_ hK_
      go_wp2_with (go_at_call 31; refine (sameRow_lit x.A y.A x.c y.c nx nx x.l _ HNX HEQ HR1 HR2).mono ?_; rintro e w1 ⟨rfl, x1⟩)
      (refine ord_flo (pick_cons rfl (pick_cons rfl pick_nil)) ?_; (repeat (go_big_quiet_step (fail))); refine wpQuiet_nil ?_; show ordWalk _ _ _ _ _ _ _)
      refine ord_fin ?_
      go_wp2
      go_roundw
      case rel => exact ⟨i + 1, by omega, by go_num, er.trans (XE.trans x1)⟩
      case measure => simp [intOf]; omega
    · go_wp2
      go_ret
      exact ⟨rfl, er⟩
end Go.Proofs.YtngeioghihbkeaaDoor
