/- penstockref02.Cmp: what it answers of any two rows. Conditions: the rows are as readings give them. -/
import Derived.Test.YtngeioghihbkeaaDoorRowCmp
import Derived.Test.YtngeioghihbkeaaDoorRefCmpA
namespace Go.Proofs.YtngeioghihbkeaaDoor
open Go.RowKit

set_option maxRecDepth 100000 in
set_option maxHeartbeats 4000000 in
theorem rowRCmp_any (A1 A2 : Option Addr) (c1 c2 n1 n2 : Nat) (l m : List Dat) (w : World) (e1 : n1 = l.length) (e2 : n2 = m.length) (h1 : Rw w A1 c1 l) (h2 : Rw w A2 c2 m) :
    Calls Tryd.prog 15 #[.slice A1 n1 c1, .slice A2 n2 c2] w fun e w' => e = .returned (.int .i64 (cmpR l m)) ∧ Ext w w' := by
  have E1 := Lib.hid e1
  have E2 := Lib.hid e2
  have hl1 := h1.le
  have hl2 := h2.le
  rw [← e1] at hl1
  rw [← e2] at hl2
  have H1 := Lib.hid h1
  have H2 := Lib.hid h2
  clear e1 e2 h1 h2
  go_enter Tryd.func15, Tryd.ntmps15
  go_wp2
  go_loopw [5] (fun v wr => ∃ i : Nat, i ≤ n1 ∧ v = .int .i64 i ∧ Hid (i ≤ m.length ∧ cmpR (l.drop i) (m.drop i) = cmpR l m) ∧ Ext w wr) (fun v _ => n1 - (intOf v).toNat)
  case atStart => exact ⟨0, Nat.zero_le _, rfl, Lib.hid ⟨Nat.zero_le _, rfl⟩, Ext.refl _⟩
  case round =>
    obtain ⟨i, hi, rfl, hr, er⟩ := hrel
    have hsz := er.size
    by_cases hlt : i < n1
    · by_cases hlt2 : i < n2
      · obtain ⟨a1, rfl, p0, p1, p2, p3⟩ := (H1.out.ext er).at (show i < l.length by rw [← E1.out]; exact hlt)
        obtain ⟨d, hd⟩ : ∃ d, l.getD i Dat.zero = d := ⟨_, rfl⟩
        rw [hd] at p0 p1 p2 p3
        obtain ⟨a2, rfl, q0, q1, q2, q3⟩ := (H2.out.ext er).at (show i < m.length by rw [← E2.out]; exact hlt2)
        obtain ⟨d2, hd2⟩ : ∃ d, m.getD i Dat.zero = d := ⟨_, rfl⟩
        rw [hd2] at q0 q1 q2 q3
        obtain ⟨v, hv⟩ : ∃ v, cmpD d d2 = v := ⟨_, rfl⟩
        have HS : Hid (cmpR l m = if v = 0 then cmpR (l.drop (i + 1)) (m.drop (i + 1)) else v) := Lib.hid (by rw [← hr.out.2, cmpR_drop (by rw [← E1.out]; exact hlt) (by rw [← E2.out]; exact hlt2), hd, hd2, hv])
        have HB : Hid (i + 1 ≤ m.length) := Lib.hid (by rw [← E2.out]; exact hlt2)
        clear hd hd2 hr
        obtain ⟨ka, ba, na, sa⟩ := d
        obtain ⟨kb, bb, nb, sb⟩ := d2
        simp only at p0 p1 p2 p3 q0 q1 q2 q3
        have HV := Lib.hid hv
        clear hv
        have X : Ext wr wr.drew := (Ext.refl wr).drew
        have P0 : ∀ y : Xt wr.drew, y.W.cell? (a1.add (i * 4)) = some (.int .u8 ka) := fun y => (X.trans y.x).cell p0
        have P1 : ∀ y : Xt wr.drew, y.W.cell? ⟨(a1.add (i * 4)).block, (a1.add (i * 4)).off + 1, none⟩ = some (.bool ba) := fun y => (X.trans y.x).cell p1
        have P2 : ∀ y : Xt wr.drew, y.W.cell? ⟨(a1.add (i * 4)).block, (a1.add (i * 4)).off + 2, none⟩ = some (.int .i64 na) := fun y => (X.trans y.x).cell p2
        have P3 : ∀ y : Xt wr.drew, y.W.cell? ⟨(a1.add (i * 4)).block, (a1.add (i * 4)).off + 3, none⟩ = some (.string sa) := fun y => (X.trans y.x).cell p3
        have Q0 : ∀ y : Xt wr.drew, y.W.cell? (a2.add (i * 4)) = some (.int .u8 kb) := fun y => (X.trans y.x).cell q0
        have Q1 : ∀ y : Xt wr.drew, y.W.cell? ⟨(a2.add (i * 4)).block, (a2.add (i * 4)).off + 1, none⟩ = some (.bool bb) := fun y => (X.trans y.x).cell q1
        have Q2 : ∀ y : Xt wr.drew, y.W.cell? ⟨(a2.add (i * 4)).block, (a2.add (i * 4)).off + 2, none⟩ = some (.int .i64 nb) := fun y => (X.trans y.x).cell q2
        have Q3 : ∀ y : Xt wr.drew, y.W.cell? ⟨(a2.add (i * 4)).block, (a2.add (i * 4)).off + 3, none⟩ = some (.string sb) := fun y => (X.trans y.x).cell q3
        by_cases hv0 : v = 0
        · subst hv0
          go_upto_region 4 with fail
          refine wp_region_ord [0,0,3,7,0,0,48,112,255,511] (.flo [0,1,2,3,4,5,6,7] (.one 8 (.flo [9] (.fin)))) (by kernel_rfl) (by kernel_rfl) (by intro _ _ d _ _ h; cases d <;> exact h) ?_
          (refine ord_flo (pick_cons rfl (pick_cons rfl (pick_cons rfl (pick_cons rfl (pick_cons rfl (pick_cons rfl (pick_cons rfl (pick_cons rfl pick_nil)))))))) ?_; (repeat (go_big_quiet_step (fail))); refine wpQuiet_nil ?_; show ordWalk _ _ _ _ _ _ _)
          refine ord_one (pick_cons rfl pick_nil) ?_; intro K_ hK_
          go_wp2_with (go_at_call 55; refine (rcmpD_lit _ _ _ _ _ _ _ _ _ HV).mono ?_; rintro e w1 ⟨rfl, x1⟩)
          (refine ord_flo (pick_cons rfl pick_nil) ?_; (repeat (go_big_quiet_step (fail))); refine wpQuiet_nil ?_; show ordWalk _ _ _ _ _ _ _)
          refine ord_fin ?_
          go_wp2
          go_roundw
          case rel => exact ⟨i + 1, by omega, by go_num, Lib.hid ⟨HB.out, by rw [HS.out]; simp⟩, er.trans (X.trans x1)⟩
          case measure => simp [intOf]; omega
        · have z : (v != 0) = true := by simpa using hv0
          have HZ := Lib.hid hv0
          clear hv0
          go_upto_region 4 with fail
          refine wp_region_ord [0,0,3,7,0,0,48,112,255,511] (.flo [0,1,2,3,4,5,6,7] (.one 8 (.flo [9] (.fin)))) (by kernel_rfl) (by kernel_rfl) (by intro _ _ d _ _ h; cases d <;> exact h) ?_
          (refine ord_flo (pick_cons rfl (pick_cons rfl (pick_cons rfl (pick_cons rfl (pick_cons rfl (pick_cons rfl (pick_cons rfl (pick_cons rfl pick_nil)))))))) ?_; (repeat (go_big_quiet_step (fail))); refine wpQuiet_nil ?_; show ordWalk _ _ _ _ _ _ _)
          refine ord_one (pick_cons rfl pick_nil) ?_; intro K_ hK_
          go_wp2_with (go_at_call 55; refine (rcmpD_lit _ _ _ _ _ _ _ _ _ HV).mono ?_; rintro e w1 ⟨rfl, x1⟩)
          (refine ord_flo (pick_cons rfl pick_nil) ?_; (repeat (go_big_quiet_step (fail))); refine wpQuiet_nil ?_; show ordWalk _ _ _ _ _ _ _)
          refine ord_fin ?_
          go_wp2
          go_ret
          exact ⟨(by rw [HS.out, if_neg HZ.out]; rfl), er.trans (X.trans x1)⟩
      · have HS : Hid (cmpR l m = 1) := Lib.hid (by rw [← hr.out.2]; exact cmpR_more (by rw [← E1.out]; exact hlt) (by rw [← E2.out]; omega))
        have h3 : n2 < n1 := by omega
        clear hr
        go_wp2
        go_ret
        exact ⟨(by rw [HS.out]; rfl), er⟩
    · have HS : Hid (cmpR l m = if i < m.length then -1 else 0) := Lib.hid (by rw [← hr.out.2]; exact cmpR_end (by rw [← E1.out]; omega))
      have HB : Hid (i ≤ m.length) := Lib.hid hr.out.1
      obtain rfl : i = n1 := by omega
      by_cases h2 : i < n2
      · have HT : Hid (cmpR l m = -1) := Lib.hid (by rw [HS.out, if_pos (by rw [← E2.out]; exact h2)])
        clear HS hr
        go_wp2
        go_ret
        exact ⟨(by rw [HT.out]; rfl), er⟩
      · have HT : Hid (cmpR l m = 0) := Lib.hid (by rw [HS.out, if_neg (by rw [← E2.out]; exact h2)])
        have h3 : ¬ n2 < i := by have := HB.out; rw [← E2.out] at this; omega
        clear HS hr
        go_wp2
        go_ret
        exact ⟨(by rw [HT.out]; rfl), er⟩
end Go.Proofs.YtngeioghihbkeaaDoor
