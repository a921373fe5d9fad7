/- StampPart: the walk. -/
import Derived.Test.YtajnlihlannmeaaDoorKnownB
import Derived.Test.YtajnlihlannmeaaDoorPartLaw
namespace Go.Proofs.YtajnlihlannmeaaDoor
open Go.RowKit

theorem far3 (g np nq nr : Nat) (b : Bool) (w : World) (Lp ap Lq aq Lr ar : Int) (Ap Aq Ar : Option Addr) (cp cq cr : Nat)
    (hc : Bk w g 25 #[.int .i64 Lp, .int .u32 ap, .slice Ap np cp, .int .i64 Lq, .int .u32 aq, .slice Aq nq cq, .int .i64 Lr, .int .u32 ar, .slice Ar nr cr]) (hb : b = decide (40 < np ∨ 40 < nq ∨ 40 < nr)) :
    Calls Tryd.prog 10 #[.slice (some ⟨g, 0, none⟩) 3 3] w fun e w' => e = .returned (.bool b) ∧ Ext w w' := by
  have h := far_any g 3 3 (fun i => match i with | 0 => np | 1 => nq | _ => nr) w (by omega) (fun i hi => by
    match i with
    | 0 => exact ⟨_, _, hc.cell 2⟩
    | 1 => exact ⟨_, _, hc.cell 5⟩
    | 2 => exact ⟨_, _, hc.cell 8⟩
    | n + 3 => omega)
  refine h.mono fun e w' ⟨he, hx⟩ => ⟨he.trans (ret_bool ?_), hx⟩
  rw [hb, decide_eq_decide]
  constructor
  · rintro ⟨i, hi, h40⟩
    match i with
    | 0 => exact Or.inl h40
    | 1 => exact Or.inr (Or.inl h40)
    | 2 => exact Or.inr (Or.inr h40)
    | n + 3 => omega
  · rintro (h1 | h1 | h1)
    · exact ⟨0, by omega, h1⟩
    · exact ⟨1, by omega, h1⟩
    · exact ⟨2, by omega, h1⟩

def zrow (N : Nat) : Obj := .cells (Array.replicate N (.int .u32 0)) 22
theorem make_words0 (W : World) : (Instr.makeSlice 23 (.int .i64 0) (.int .i64 0)).run Tryd.prog W = .ok (.slice (some ⟨W.heap.size, 0, none⟩) 0 0) (W.alloc (zrow 0)) := by kernel_rfl
theorem make_words1 (W : World) : (Instr.makeSlice 23 (.int .i64 1) (.int .i64 1)).run Tryd.prog W = .ok (.slice (some ⟨W.heap.size, 0, none⟩) 1 1) (W.alloc (zrow 1)) := by kernel_rfl
theorem make_words2 (W : World) : (Instr.makeSlice 23 (.int .i64 2) (.int .i64 2)).run Tryd.prog W = .ok (.slice (some ⟨W.heap.size, 0, none⟩) 2 2) (W.alloc (zrow 2)) := by kernel_rfl
theorem make_words3 (W : World) : (Instr.makeSlice 23 (.int .i64 3) (.int .i64 3)).run Tryd.prog W = .ok (.slice (some ⟨W.heap.size, 0, none⟩) 3 3) (W.alloc (zrow 3)) := by kernel_rfl
theorem make_words (N : Nat) (h : N ≤ 3) (W : World) : (Instr.makeSlice 23 (.int .i64 N) (.int .i64 N)).run Tryd.prog W = .ok (.slice (some ⟨W.heap.size, 0, none⟩) N N) (W.alloc (zrow N)) := by
  match N, h with
  | 0, _ => exact make_words0 W
  | 1, _ => exact make_words1 W
  | 2, _ => exact make_words2 W
  | 3, _ => exact make_words3 W
  | n + 4, h => exact absurd h (by omega)
theorem Sl.zrow' (W : World) (N : Nat) (h : N ≤ 3) {k : Nat} (hk : W.heap.size = k) : Sl (W.alloc (Go.Proofs.YtajnlihlannmeaaDoor.zrow N)) 1 (some ⟨k, 0, none⟩) N N (wds (List.replicate N 0)) :=
  Sl.freshExt (Ext.refl _) N (by simp) (by omega) (by simp [wds]) hk
theorem Sl.zrow (W : World) (N : Nat) (h : N ≤ 3) : Sl (W.alloc (Go.Proofs.YtajnlihlannmeaaDoor.zrow N)) 1 (some ⟨W.heap.size, 0, none⟩) N N (wds (List.replicate N 0)) := Sl.zrow' W N h rfl

set_option maxRecDepth 100000 in
set_option maxHeartbeats 600000 in
theorem part_walk (Lp ap Lq aq Lr ar d : Int) (Ap Aq Ar : Option Addr) (np nq nr cp cq cr : Nat) (lp lq lr : List Int) (w : World) (hp : Sl w 1 Ap np cp (wds lp)) (hq : Sl w 1 Aq nq cq (wds lq)) (hr : Sl w 1 Ar nr cr (wds lr))
    (up : U32 lp) (uq : U32 lq) (ur : U32 lr) (bp : 0 ≤ ap ∧ ap ≤ 4294967295) (hd : -9223372036854775808 ≤ d ∧ d ≤ 9223372036854775807) (hL : Lp ≤ 9223372036854775807) :
    Calls Tryd.prog 4 #[.agg #[.int .i64 Lp, .int .u32 ap, .slice Ap np cp], .agg #[.int .i64 Lq, .int .u32 aq, .slice Aq nq cq], .agg #[.int .i64 Lr, .int .u32 ar, .slice Ar nr cr], .int .i64 d] w
      fun e w' => e = .returned (.bool true) ∧ Ext w w' := by
  go_enter Tryd.func4, Tryd.ntmps4
  by_cases hfar : 40 < np ∨ 40 < nq ∨ 40 < nr
  · have hb : true = decide (40 < np ∨ 40 < nq ∨ 40 < nr) := by simp [hfar]
    have HB := Lib.hid hb
    clear hb hfar
    go_wp2_with (first | (go_at_call 10; refine (far3 _ np nq nr true _ Lp ap Lq aq Lr ar Ap Aq Ar cp cq cr (Bk.at (by simp)) HB.out).mono ?_; rintro r w1 ⟨rfl, x1⟩) | (go_at_call 21; refine (known_true _).mono ?_; rintro r w2 ⟨rfl, x2⟩))
    refine bodyPost_ret (v := .bool true) (by simp only [results, Tryd.results4]; go_simp) rfl ?_
    exact ⟨rfl, ((((((Ext.refl w).alloc _).alloc _).alloc _).alloc _).trans x1).trans x2⟩
  · have hb : false = decide (40 < np ∨ 40 < nq ∨ 40 < nr) := by simp [hfar]
    have h40 : np ≤ 40 ∧ nq ≤ 40 ∧ nr ≤ 40 := by omega
    have HB := Lib.hid hb
    clear hb hfar
    have m1 : True := trivial
    go_upto_region 6 with (first
      | (have z := m1; clear z m1; go_at_call 10; refine (far3 _ np nq nr false _ Lp ap Lq aq Lr ar Ap Aq Ar cp cq cr (Bk.at (by simp)) HB.out).mono ?_; rintro r w1 ⟨rfl, x1⟩; have m2 : True := trivial)
      | (have z := m2; clear z m2; go_at_call 21; refine (known_true _).mono ?_; rintro r w2 ⟨rfl, x2⟩; have X2 := x1.trans x2; have Bp : Bk w2 (w.heap.size) 25 #[.int .i64 Lp, .int .u32 ap, .slice Ap np cp] := ((((Bk.new w _ _).alloc _).alloc _).alloc _).ext X2; have Bq : Bk w2 (w.heap.size + 1) 25 #[.int .i64 Lq, .int .u32 aq, .slice Aq nq cq] := (((Bk.at (by simp)).alloc _).alloc _).ext X2; have Br : Bk w2 (w.heap.size + 1 + 1) 25 #[.int .i64 Lr, .int .u32 ar, .slice Ar nr cr] := ((Bk.at (by simp)).alloc _).ext X2; have E2 : Ext w w2 := (((((Ext.refl w).alloc _).alloc _).alloc _).alloc _).trans X2; clear x1 x2 X2; have p0 : w2.cell? ⟨w.heap.size, 0, none⟩ = some (.int .i64 Lp) := Bp.cell 0; have p1 : w2.cell? ⟨w.heap.size, 1, none⟩ = some (.int .u32 ap) := Bp.cell 1; have p2 : w2.cell? ⟨w.heap.size, 2, none⟩ = some (.slice Ap np cp) := Bp.cell 2; have q0 : w2.cell? ⟨w.heap.size + 1, 0, none⟩ = some (.int .i64 Lq) := Bq.cell 0; have q1 : w2.cell? ⟨w.heap.size + 1, 1, none⟩ = some (.int .u32 aq) := Bq.cell 1; have q2 : w2.cell? ⟨w.heap.size + 1, 2, none⟩ = some (.slice Aq nq cq) := Bq.cell 2; have r0 : w2.cell? ⟨w.heap.size + 1 + 1, 0, none⟩ = some (.int .i64 Lr) := Br.cell 0; have r1 : w2.cell? ⟨w.heap.size + 1 + 1, 1, none⟩ = some (.int .u32 ar) := Br.cell 1; have r2 : w2.cell? ⟨w.heap.size + 1 + 1, 2, none⟩ = some (.slice Ar nr cr) := Br.cell 2; have m3 : True := trivial)
      | (have z := m3; clear z m3; go_at_call 15; refine (pleq_any Lp ap Lq aq d Ap Aq np nq cp cq lp lq _ (hp.ext E2) (hq.ext E2) up uq (by omega) (by omega)).mono ?_; rintro r w3 ⟨rfl, x3⟩; have E3 := E2.trans x3; have Cp := Bp.ext x3; have Cq := Bq.ext x3; have Cr := Br.ext x3; clear x3; have p0 : w3.cell? ⟨w.heap.size, 0, none⟩ = some (.int .i64 Lp) := Cp.cell 0; have p1 : w3.cell? ⟨w.heap.size, 1, none⟩ = some (.int .u32 ap) := Cp.cell 1; have p2 : w3.cell? ⟨w.heap.size, 2, none⟩ = some (.slice Ap np cp) := Cp.cell 2; have q0 : w3.cell? ⟨w.heap.size + 1, 0, none⟩ = some (.int .i64 Lq) := Cq.cell 0; have q1 : w3.cell? ⟨w.heap.size + 1, 1, none⟩ = some (.int .u32 aq) := Cq.cell 1; have q2 : w3.cell? ⟨w.heap.size + 1, 2, none⟩ = some (.slice Aq nq cq) := Cq.cell 2; have r0 : w3.cell? ⟨w.heap.size + 1 + 1, 0, none⟩ = some (.int .i64 Lr) := Cr.cell 0; have r1 : w3.cell? ⟨w.heap.size + 1 + 1, 1, none⟩ = some (.int .u32 ar) := Cr.cell 1; have r2 : w3.cell? ⟨w.heap.size + 1 + 1, 2, none⟩ = some (.slice Ar nr cr) := Cr.cell 2; have m4 : True := trivial)
      | (have z := m4; clear z m4; go_at_call 15; refine (pleq_any Lq aq Lr ar d Aq Ar nq nr cq cr lq lr _ (hq.ext E3) (hr.ext E3) uq ur (by omega) (by omega)).mono ?_; rintro r w4 ⟨rfl, x4⟩; have E4 := E3.trans x4; have Dp := Cp.ext x4; have Dq := Cq.ext x4; have Dr := Cr.ext x4; clear x4; have p0 : w4.cell? ⟨w.heap.size, 0, none⟩ = some (.int .i64 Lp) := Dp.cell 0; have p1 : w4.cell? ⟨w.heap.size, 1, none⟩ = some (.int .u32 ap) := Dp.cell 1; have p2 : w4.cell? ⟨w.heap.size, 2, none⟩ = some (.slice Ap np cp) := Dp.cell 2; have q0 : w4.cell? ⟨w.heap.size + 1, 0, none⟩ = some (.int .i64 Lq) := Dq.cell 0; have q1 : w4.cell? ⟨w.heap.size + 1, 1, none⟩ = some (.int .u32 aq) := Dq.cell 1; have q2 : w4.cell? ⟨w.heap.size + 1, 2, none⟩ = some (.slice Aq nq cq) := Dq.cell 2; have r0 : w4.cell? ⟨w.heap.size + 1 + 1, 0, none⟩ = some (.int .i64 Lr) := Dr.cell 0; have r1 : w4.cell? ⟨w.heap.size + 1 + 1, 1, none⟩ = some (.int .u32 ar) := Dr.cell 1; have r2 : w4.cell? ⟨w.heap.size + 1 + 1, 2, none⟩ = some (.slice Ar nr cr) := Dr.cell 2; have m5 : True := trivial)
      | (have z := m5; clear z m5; go_at_call 15; refine (pleq_any Lp ap Lr ar d Ap Ar np nr cp cr lp lr _ (hp.ext E4) (hr.ext E4) up ur (by omega) (by omega)).mono ?_; rintro r w5 ⟨rfl, x5⟩; have E5 := E4.trans x5; have Fp := Dp.ext x5; have Fq := Dq.ext x5; have Fr := Dr.ext x5; clear x5; have p0 : w5.cell? ⟨w.heap.size, 0, none⟩ = some (.int .i64 Lp) := Fp.cell 0; have p1 : w5.cell? ⟨w.heap.size, 1, none⟩ = some (.int .u32 ap) := Fp.cell 1; have p2 : w5.cell? ⟨w.heap.size, 2, none⟩ = some (.slice Ap np cp) := Fp.cell 2; have q0 : w5.cell? ⟨w.heap.size + 1, 0, none⟩ = some (.int .i64 Lq) := Fq.cell 0; have q1 : w5.cell? ⟨w.heap.size + 1, 1, none⟩ = some (.int .u32 aq) := Fq.cell 1; have q2 : w5.cell? ⟨w.heap.size + 1, 2, none⟩ = some (.slice Aq nq cq) := Fq.cell 2; have r0 : w5.cell? ⟨w.heap.size + 1 + 1, 0, none⟩ = some (.int .i64 Lr) := Fr.cell 0; have r1 : w5.cell? ⟨w.heap.size + 1 + 1, 1, none⟩ = some (.int .u32 ar) := Fr.cell 1; have r2 : w5.cell? ⟨w.heap.size + 1 + 1, 2, none⟩ = some (.slice Ar nr cr) := Fr.cell 2; have m6 : True := trivial))
    obtain ⟨N, hN⟩ : ∃ N : Nat, (N : Int) = min (max d 0) 3 := ⟨(min (max d 0) 3).toNat, by omega⟩
    obtain ⟨eno, heno⟩ : ∃ x, x = (applyT Lp ap lp 0 (List.replicate N 0)).2 := ⟨_, rfl⟩
    go_cut [13] (fun s wx => s = .int .u16 eno ∧ Ext w5 wx)
    case first =>
      have X : Ext w5 w5.drew := (Ext.refl w5).drew
      have N3 : N ≤ 3 := by omega
      have hmk : ∀ W : World, (Instr.makeSlice 23 (.int .i64 (min (max d 0) 3)) (.int .i64 (min (max d 0) 3))).run Tryd.prog W = .ok (.slice (some ⟨W.heap.size, 0, none⟩) N N) (W.alloc (zrow N)) := fun W => by rw [← hN]; exact make_words N N3 W
      obtain ⟨te, tl, hT⟩ : ∃ te tl, applyT Lp ap lp 0 (List.replicate N 0) = ((te, tl), eno) := ⟨_, _, by rw [heno]⟩
      have AP : ∀ (W : World) (A : Option Addr), Sl W 1 Ap np cp (wds lp) → Sl W 1 A N N (wds (List.replicate N 0)) → Calls Tryd.prog 13 #[.agg #[.int .i64 Lp, .int .u32 ap, .slice Ap np cp], .agg #[.int .u64 0, .slice A N N]] W (TimeOut W ((te, tl), eno)) := by
        intro W A h1 h2
        rw [← hT]
        exact apply_any Lp ap Ap A np N cp N lp (List.replicate N 0) 0 W h1 h2 (fun x hx => by rw [List.eq_of_mem_replicate hx]; omega) bp (by omega) hL (by omega) (by omega)
      have HA := Lib.hid AP
      have HNN := Lib.hid hN
      have HEE := Lib.hid heno
      clear AP hT hN heno
      have q0 : ∀ y : Xt w5.drew, y.W.cell? ⟨w.heap.size, 0, none⟩ = some (.int .i64 Lp) := fun y => (Fp.ext (X.trans y.x)).cell 0
      have q1 : ∀ y : Xt w5.drew, y.W.cell? ⟨w.heap.size, 1, none⟩ = some (.int .u32 ap) := fun y => (Fp.ext (X.trans y.x)).cell 1
      have q2 : ∀ y : Xt w5.drew, y.W.cell? ⟨w.heap.size, 2, none⟩ = some (.slice Ap np cp) := fun y => (Fp.ext (X.trans y.x)).cell 2
      refine wp_region_ord [0,0,2,6,14,30,63,127,255,255,0,1535,4095] (.flo [0,1,2,3] (.both 4 10 (.flo [5] (.both 6 10 (.flo [7,8] (.pur [9] (.ext 10 (.one 11 (.flo [12] (.fin)))))) (.ext 6 (.flo [7,8] (.pur [9] (.one 11 (.flo [12] (.fin)))))))) (.ext 4 (.flo [5] (.ext 6 (.flo [7,8] (.pur [9] (.one 11 (.flo [12] (.fin)))))))))) (by kernel_rfl) (by kernel_rfl) (by intro _ _ d _ _ h; cases d <;> exact h) ?_
      (refine ord_flo (pick_cons rfl (pick_cons rfl (pick_cons rfl (pick_cons rfl pick_nil)))) ?_; (repeat (go_big_quiet_step (fail))); refine wpQuiet_nil ?_; show ordWalk _ _ _ _ _ _ _)
      refine ord_both (pick_cons rfl pick_nil) (pick_cons rfl pick_nil) ?_ ?_ <;> intro K_ hK_
      · go_wp2
        refine ordNext.mk ((Ext.refl _).alloc _) ?_
        (refine ord_flo (pick_cons rfl pick_nil) ?_; (repeat (go_big_quiet_step (fail))); refine wpQuiet_nil ?_; show ordWalk _ _ _ _ _ _ _)
        refine ord_both (pick_cons rfl pick_nil) (pick_cons rfl pick_nil) ?_ ?_ <;> intro K_ hK_
        · go_wp2_with (go_at_call 13; refine (HA.out _ _ (hp.ext ((E5.trans X).alloc _)) (Sl.zrow _ N N3)).mono ?_; rintro r w6 ⟨A, c, rfl, ho, x6⟩)
          refine ordNext.mk x6 ?_
          (refine ord_flo (pick_cons rfl (pick_cons rfl pick_nil)) ?_; (repeat (go_big_quiet_step (fail))); refine wpQuiet_nil ?_; show ordWalk _ _ _ _ _ _ _)
          (refine ord_pur (pick_cons rfl pick_nil) ?_; (repeat (go_big_quiet_step (fail))); refine wpQuiet_nil ?_; show ordWalk _ _ _ _ _ _ _)
          refine ord_ext (pick_cons rfl pick_nil) ?_; intro K_ hK_
          go_wp2
          refine ordNext.mk ((Ext.refl _).alloc _) ?_
          refine ord_one (pick_cons rfl pick_nil) ?_; intro K_ hK_
          go_wp2
          (refine ord_flo (pick_cons rfl pick_nil) ?_; (repeat (go_big_quiet_step (fail))); refine wpQuiet_nil ?_; show ordWalk _ _ _ _ _ _ _)
          refine ord_fin ?_
          go_wp2_with fail
          go_meet
          case rel =>
            exact ⟨rfl, ((X.alloc _).trans x6).alloc _⟩
        · go_wp2
          refine ordNext.mk ((Ext.refl _).alloc _) ?_
          refine ord_ext (pick_cons rfl pick_nil) ?_; intro K_ hK_
          go_wp2_with (go_at_call 13; refine (HA.out _ _ (hp.ext (((E5.trans X).alloc _).alloc _)) ((Sl.zrow _ N N3).ext ((Ext.refl _).alloc _))).mono ?_; rintro r w6 ⟨A, c, rfl, ho, x6⟩; have bz : Bk w6 (w5.heap.size + 1) 28 #[.int .u64 0, .slice none 0 0] := Bk.ext (Bk.at (by simp)) x6)
          refine ordNext.mk x6 ?_
          (refine ord_flo (pick_cons rfl (pick_cons rfl pick_nil)) ?_; (repeat (go_big_quiet_step (fail))); refine wpQuiet_nil ?_; show ordWalk _ _ _ _ _ _ _)
          (refine ord_pur (pick_cons rfl pick_nil) ?_; (repeat (go_big_quiet_step (fail))); refine wpQuiet_nil ?_; show ordWalk _ _ _ _ _ _ _)
          refine ord_one (pick_cons rfl pick_nil) ?_; intro K_ hK_
          have y0 := bz.cell 0
          have y1 := bz.cell 1
          have y2 := bz.free 0
          have y3 := bz.free 1
          go_wp2
          (refine ord_flo (pick_cons rfl pick_nil) ?_; (repeat (go_big_quiet_step (fail))); refine wpQuiet_nil ?_; show ordWalk _ _ _ _ _ _ _)
          refine ord_fin ?_
          go_wp2_with fail
          go_meet
          case rel =>
            exact ⟨rfl, ((((X.alloc _).alloc _).trans x6).set (by simp) _).set (by simp) _⟩
      · go_wp2
        refine ordNext.mk ((Ext.refl _).alloc _) ?_
        refine ord_ext (pick_cons rfl pick_nil) ?_; intro K_ hK_
        go_wp2
        refine ordNext.mk ((Ext.refl _).alloc _) ?_
        (refine ord_flo (pick_cons rfl pick_nil) ?_; (repeat (go_big_quiet_step (fail))); refine wpQuiet_nil ?_; show ordWalk _ _ _ _ _ _ _)
        refine ord_ext (pick_cons rfl pick_nil) ?_; intro K_ hK_
        go_wp2_with (go_at_call 13; refine (HA.out _ _ (hp.ext (((E5.trans X).alloc _).alloc _)) (Sl.zrow' _ N N3 (by simp))).mono ?_; rintro r w6 ⟨A, c, rfl, ho, x6⟩; have bz : Bk w6 w5.heap.size 28 #[.int .u64 0, .slice none 0 0] := Bk.ext ((Bk.at (by simp)).alloc _) x6)
        refine ordNext.mk x6 ?_
        (refine ord_flo (pick_cons rfl (pick_cons rfl pick_nil)) ?_; (repeat (go_big_quiet_step (fail))); refine wpQuiet_nil ?_; show ordWalk _ _ _ _ _ _ _)
        (refine ord_pur (pick_cons rfl pick_nil) ?_; (repeat (go_big_quiet_step (fail))); refine wpQuiet_nil ?_; show ordWalk _ _ _ _ _ _ _)
        refine ord_one (pick_cons rfl pick_nil) ?_; intro K_ hK_
        have y0 := bz.cell 0
        have y1 := bz.cell 1
        have y2 := bz.free 0
        have y3 := bz.free 1
        go_wp2
        (refine ord_flo (pick_cons rfl pick_nil) ?_; (repeat (go_big_quiet_step (fail))); refine wpQuiet_nil ?_; show ordWalk _ _ _ _ _ _ _)
        refine ord_fin ?_
        go_wp2_with fail
        go_meet
        case rel =>
          exact ⟨rfl, ((((X.alloc _).alloc _).trans x6).set (by simp) _).set (by simp) _⟩
    case rest =>
      obtain ⟨rfl, x6⟩ := hcut
      have Gp := Fp.ext x6
      have E6 : Ext w wc := E5.trans x6
      have p0 : wc.cell? ⟨w.heap.size, 0, none⟩ = some (.int .i64 Lp) := Gp.cell 0
      have p1 : wc.cell? ⟨w.heap.size, 1, none⟩ = some (.int .u32 ap) := Gp.cell 1
      have p2 : wc.cell? ⟨w.heap.size, 2, none⟩ = some (.slice Ap np cp) := Gp.cell 2
      have HE := Lib.hid heno
      have HN := Lib.hid hN
      clear heno hN
      go_wp2_with (go_at_call 15; refine (pleq_any Lp ap Lp ap d Ap Ap np np cp cp lp lp _ (hp.ext E6) (hp.ext E6) up up (by omega) (by omega)).mono ?_; rintro r w7 ⟨rfl, x7⟩; have E7 : Ext w w7 := E6.trans x7; have Hp := Gp.ext x7; have q0 : w7.cell? ⟨w.heap.size, 0, none⟩ = some (.int .i64 Lp) := Hp.cell 0)
      all_goals (
        refine bodyPost_ret (v := .bool true) ?_ rfl ⟨rfl, E7⟩
        simp only [results, Tryd.results4]
        go_simp)
      all_goals first
        | exact part_trans _ _ _ _ _ _ _ lp lq lr (by assumption) (by assumption)
        | (have g1 := HE.out
           have g2 := HN.out
           have g3 := part_refl Lp ap d 0 lp (List.replicate N 0) (by omega) (by omega) (by simp; omega) (by rw [← g1]; assumption)
           rename_i hx
           rw [g3] at hx
           exact absurd hx (by simp))
end Go.Proofs.YtajnlihlannmeaaDoor
