/- StampGoes: the walk, where the first way can be gone. -/
import Derived.Test.YtajnlihlannmeaaDoorGoesB
namespace Go.Proofs.YtajnlihlannmeaaDoor
open Go.RowKit

set_option maxRecDepth 100000 in
set_option maxHeartbeats 1600000 in
theorem goes_ok {ex : Int} {lx : List Int} {rl ra : Int} {rm : List Int} {fE : Int} (Lp ap Lq aq e1 e2 : Int) (Ap Aq A1 A2 : Option Addr) (np nq n1 n2 cp cq c1 c2 : Nat) (lp lq l1 l2 : List Int) (w : World) (sp : Sl w 1 Ap np cp (wds lp)) (sq : Sl w 1 Aq nq cq (wds lq)) (s1 : Sl w 1 A1 n1 c1 (wds l1)) (s2 : Sl w 1 A2 n2 c2 (wds l2))
    (up : U32 lp) (uq : U32 lq) (u1 : U32 l1) (u2 : U32 l2) (bLp : -9223372036854775808 ≤ Lp ∧ Lp ≤ 9223372036854775807) (bap : 0 ≤ ap ∧ ap ≤ 4294967295) (bLq : -9223372036854775808 ≤ Lq ∧ Lq ≤ 9223372036854775807) (baq : 0 ≤ aq ∧ aq ≤ 4294967295)
    (be1 : 0 ≤ e1 ∧ e1 ≤ 18446744073709551615) (be2 : 0 ≤ e2 ∧ e2 ≤ 18446744073709551615)
    (hf : ¬ (40 < np ∨ 40 < nq)) (hm : ¬ (40 < n1 ∨ 40 < n2)) (hx : applyT Lp ap lp e1 l1 = ((ex, lx), 0)) (ht : thenT Lp ap lp Lq aq lq = (⟨rl, ra, rm⟩, fE)) :
    Calls Tryd.prog 5 #[.agg #[.int .i64 Lp, .int .u32 ap, .slice Ap np cp], .agg #[.int .i64 Lq, .int .u32 aq, .slice Aq nq cq], .agg #[.int .u64 e1, .slice A1 n1 c1], .agg #[.int .u64 e2, .slice A2 n2 c2]] w fun e w' => e = .returned (.bool true) ∧ Ext w w' := by
  obtain ⟨⟨⟨ew, lw⟩, gE⟩, hw⟩ : ∃ r, applyT Lp ap lp e2 l2 = r := ⟨_, rfl⟩
  obtain ⟨⟨⟨ev, lv⟩, vE⟩, hv⟩ : ∃ r, applyT Lq aq lq e1 l1 = r := ⟨_, rfl⟩
  obtain ⟨⟨⟨ey, ly⟩, yE⟩, hy⟩ : ∃ r, applyT Lq aq lq ex lx = r := ⟨_, rfl⟩
  obtain ⟨⟨⟨ez, lz⟩, zE⟩, hz⟩ : ∃ r, applyT rl ra rm e1 l1 = r := ⟨_, rfl⟩
  obtain ⟨cv, hcv⟩ : ∃ v, cmpTT ey ly ez lz = v := ⟨_, rfl⟩
  obtain ⟨ab, hab⟩ : ∃ b, leqT e1 l1 e2 l2 = b := ⟨_, rfl⟩
  obtain ⟨xw, hxw⟩ : ∃ b, leqT ex lx ew lw = b := ⟨_, rfl⟩
  obtain ⟨pl, hpl⟩ : ∃ b, pathLeqT Lp ap lp Lq aq lq n1 = b := ⟨_, rfl⟩
  obtain ⟨xv, hxv⟩ : ∃ b, leqT ex lx ev lv = b := ⟨_, rfl⟩
  have k8 : ((fE == 0) = false) ∨ (fE = 0 ∧ (((yE == 0) = false) ∨ (yE = 0 ∧ (((zE == 0) = false) ∨ (zE = 0 ∧ cv = 0))))) := by
    by_cases z1 : fE = 0
    · refine Or.inr ⟨z1, ?_⟩
      by_cases z2 : yE = 0
      · refine Or.inr ⟨z2, ?_⟩
        by_cases z3 : zE = 0
        · refine Or.inr ⟨z3, ?_⟩
          subst z1 z2 z3
          have h := goes_both hx ht hy hz (by have := sp.wlen; omega) (by have := s1.wlen; omega) bLp
          rw [← hcv]
          exact cmp_zero.2 h
        · exact Or.inl (by simpa using z3)
      · exact Or.inl (by simpa using z2)
    · exact Or.inl (by simpa using z1)
  have k11 : ((gE == 0) = false) ∨ (gE = 0 ∧ (ab = false ∨ ab = true ∧ xw = true)) := by
    by_cases z1 : gE = 0
    · refine Or.inr ⟨z1, ?_⟩
      subst z1
      cases ab with
      | false => exact Or.inl rfl
      | true => exact Or.inr ⟨rfl, hxw.symm.trans (goes_mono hx hw hab)⟩
    · exact Or.inl (by simpa using z1)
  have k14 : ((vE != 0) = true) ∨ (vE = 0 ∧ (pl = false ∨ pl = true ∧ xv = true)) := by
    by_cases z1 : vE = 0
    · refine Or.inr ⟨z1, ?_⟩
      subst z1
      cases pl with
      | false => exact Or.inl rfl
      | true => exact Or.inr ⟨rfl, hxv.symm.trans (goes_never hx hv (by rw [s1.wlen]; exact hpl) be1.1 u1)⟩
    · exact Or.inl (by simpa using z1)
  have hly : ly.length ≤ 200 := by have h := (apply_bounds hy baq (apply_bounds hx bap be1 up u1).1 uq (apply_bounds hx bap be1 up u1).2.1).2.2; have h' := (apply_bounds hx bap be1 up u1).2.2; have := s1.wlen; have := sp.wlen; have := sq.wlen; omega
  have K8 := Lib.hid k8
  have K11 := Lib.hid k11
  have K14 := Lib.hid k14
  have HW := Lib.hid hw
  have HV := Lib.hid hv
  have HY := Lib.hid hy
  have HZ := Lib.hid hz
  have Hcv := Lib.hid hcv
  have Hab := Lib.hid hab
  have Hxw := Lib.hid hxw
  have Hpl := Lib.hid hpl
  have Hxv := Lib.hid hxv
  clear k8 k11 k14 hw hv hy hz hcv hab hxw hpl hxv
  have hb : false = decide (40 < np ∨ 40 < nq) := by simp [hf]
  have HB := Lib.hid hb
  have hb2 : false = decide (40 < n1 ∨ 40 < n2) := by simp [hm]
  have HB2 := Lib.hid hb2
  have hn : np ≤ 40 ∧ nq ≤ 40 ∧ n1 ≤ 40 ∧ n2 ≤ 40 := by omega
  have hlx : lx.length ≤ 80 := by have h := (apply_bounds hx bap be1 up u1).2.2; rw [s1.wlen, sp.wlen] at h; omega
  have hrm : rm.length ≤ 80 := by have h := (then_bounds ht bLp bap baq up uq).2.2.2; simp only at h; rw [sp.wlen, sq.wlen] at h; omega
  have bx := (apply_bounds hx bap be1 up u1).1
  have ux := (apply_bounds hx bap be1 up u1).2.1
  have bt := then_bounds ht bLp bap baq up uq
  simp only at bt
  have HX := Lib.hid hx
  have HT := Lib.hid ht
  clear hb hb2 hf hm hx ht
  have m1 : True := trivial
  go_enter Tryd.func5, Tryd.ntmps5
  go_upto_if 53 with (first
    | (have z := m1; clear z m1; go_at_call 10; refine (far2 _ np nq false _ Lp ap Lq aq Ap Aq cp cq (Bk.at (by simp)) HB.out).mono ?_; rintro r w1 ⟨rfl, x1⟩; have Bp := ((((Bk.new w 25 #[.int .i64 Lp, .int .u32 ap, .slice Ap np cp]).alloc _).alloc _).alloc _ |>.alloc _).ext x1; have Bq : Bk w1 (w.heap.size + 1) 25 #[.int .i64 Lq, .int .u32 aq, .slice Aq nq cq] := ((((Bk.at (by simp)).alloc _).alloc _).alloc _).ext x1; have Ba : Bk w1 (w.heap.size + 1 + 1) 28 #[.int .u64 e1, .slice A1 n1 c1] := (((Bk.at (by simp)).alloc _).alloc _).ext x1; have Bb : Bk w1 (w.heap.size + 1 + 1 + 1) 28 #[.int .u64 e2, .slice A2 n2 c2] := ((Bk.at (by simp)).alloc _).ext x1; have E1 : Ext w w1 := ((((((Ext.refl w).alloc _).alloc _).alloc _).alloc _).alloc _).trans x1; clear x1; have Ba0 : w1.cell? ⟨w.heap.size + 1 + 1, 0, none⟩ = some (.int .u64 (e1)) := Ba.cell 0; have Ba1 : w1.cell? ⟨w.heap.size + 1 + 1, 1, none⟩ = some (.slice A1 n1 c1) := Ba.cell 1; have Bb0 : w1.cell? ⟨w.heap.size + 1 + 1 + 1, 0, none⟩ = some (.int .u64 (e2)) := Bb.cell 0; have Bb1 : w1.cell? ⟨w.heap.size + 1 + 1 + 1, 1, none⟩ = some (.slice A2 n2 c2) := Bb.cell 1; have m2 : True := trivial)
    | (have z := m2; clear z m2; go_at_call 11; refine (much2 _ n1 n2 false _ e1 e2 A1 A2 c1 c2 (Bk.at (by simp)) HB2.out).mono ?_; rintro r w2 ⟨rfl, x2⟩; have X2 : Ext w1 w2 := ((Ext.refl w1).alloc _).trans x2; clear x2; have m3 : True := trivial)
    | (have z := m3; clear z m3; go_at_call 21; refine (known_true _).mono ?_; rintro r w3 ⟨rfl, x3⟩; have X3 := X2.trans x3; have Cp := Bp.ext X3; have Cq := Bq.ext X3; have Ca := Ba.ext X3; have Cb := Bb.ext X3; have E3 : Ext w w3 := E1.trans X3; clear X2 x3 X3 Ba0 Ba1 Bb0 Bb1; have Cp0 : w3.cell? ⟨w.heap.size, 0, none⟩ = some (.int .i64 (Lp)) := Cp.cell 0; have Cp1 : w3.cell? ⟨w.heap.size, 1, none⟩ = some (.int .u32 (ap)) := Cp.cell 1; have Cp2 : w3.cell? ⟨w.heap.size, 2, none⟩ = some (.slice Ap np cp) := Cp.cell 2; have Cq0 : w3.cell? ⟨w.heap.size + 1, 0, none⟩ = some (.int .i64 (Lq)) := Cq.cell 0; have Cq1 : w3.cell? ⟨w.heap.size + 1, 1, none⟩ = some (.int .u32 (aq)) := Cq.cell 1; have Cq2 : w3.cell? ⟨w.heap.size + 1, 2, none⟩ = some (.slice Aq nq cq) := Cq.cell 2; have Ca0 : w3.cell? ⟨w.heap.size + 1 + 1, 0, none⟩ = some (.int .u64 (e1)) := Ca.cell 0; have Ca1 : w3.cell? ⟨w.heap.size + 1 + 1, 1, none⟩ = some (.slice A1 n1 c1) := Ca.cell 1; have m4 : True := trivial)
    | (have z := m4; clear z m4; go_at_call 13; refine (apply_at Lp ap Ap A1 np n1 cp c1 lp l1 e1 _ HX (sp.ext E3) (s1.ext E3) u1 bap be1 (by omega) (by omega) (by omega)).mono ?_; rintro r w4 ⟨Ax, cx, rfl, ho, x4⟩; have sx := ho.sl; have Dp := (Cp.ext x4).alloc (.cells #[.int .u64 ex, .slice Ax lx.length cx] 28); have Dq := (Cq.ext x4).alloc (.cells #[.int .u64 ex, .slice Ax lx.length cx] 28); have Da := (Ca.ext x4).alloc (.cells #[.int .u64 ex, .slice Ax lx.length cx] 28); have Db := (Cb.ext x4).alloc (.cells #[.int .u64 ex, .slice Ax lx.length cx] 28); have E4 : Ext w w4 := E3.trans x4; clear ho x4; have Dp0 : (w4.alloc (.cells #[.int .u64 ex, .slice Ax lx.length cx] 28)).cell? ⟨w.heap.size, 0, none⟩ = some (.int .i64 (Lp)) := Dp.cell 0; have Dp1 : (w4.alloc (.cells #[.int .u64 ex, .slice Ax lx.length cx] 28)).cell? ⟨w.heap.size, 1, none⟩ = some (.int .u32 (ap)) := Dp.cell 1; have Dp2 : (w4.alloc (.cells #[.int .u64 ex, .slice Ax lx.length cx] 28)).cell? ⟨w.heap.size, 2, none⟩ = some (.slice Ap np cp) := Dp.cell 2; have Dq0 : (w4.alloc (.cells #[.int .u64 ex, .slice Ax lx.length cx] 28)).cell? ⟨w.heap.size + 1, 0, none⟩ = some (.int .i64 (Lq)) := Dq.cell 0; have Dq1 : (w4.alloc (.cells #[.int .u64 ex, .slice Ax lx.length cx] 28)).cell? ⟨w.heap.size + 1, 1, none⟩ = some (.int .u32 (aq)) := Dq.cell 1; have Dq2 : (w4.alloc (.cells #[.int .u64 ex, .slice Ax lx.length cx] 28)).cell? ⟨w.heap.size + 1, 2, none⟩ = some (.slice Aq nq cq) := Dq.cell 2; have m5 : True := trivial)
    | (have z := m5; clear z m5; go_at_call 14; refine (then_at Lp ap Lq aq Ap Aq np nq cp cq lp lq _ HT (sp.ext (E4.alloc _)) (sq.ext (E4.alloc _)) up bap baq (by omega) (by omega)).mono ?_; rintro r w5 ⟨At, ct, rfl, ho, x5⟩; have st := ho.sl; have sx5 := (sx.ext ((Ext.refl _).alloc _)).ext x5; have Fx := ((Bk.new w4 28 #[.int .u64 ex, .slice Ax lx.length cx]).ext x5).alloc (.cells #[.int .i64 rl, .int .u32 ra, .slice At rm.length ct] 25); have Ft := Bk.new w5 25 #[.int .i64 rl, .int .u32 ra, .slice At rm.length ct]; have Fp := (Dp.ext x5).alloc (.cells #[.int .i64 rl, .int .u32 ra, .slice At rm.length ct] 25); have Fq := (Dq.ext x5).alloc (.cells #[.int .i64 rl, .int .u32 ra, .slice At rm.length ct] 25); have Fa := (Da.ext x5).alloc (.cells #[.int .i64 rl, .int .u32 ra, .slice At rm.length ct] 25); have Fb := (Db.ext x5).alloc (.cells #[.int .i64 rl, .int .u32 ra, .slice At rm.length ct] 25); have E5 : Ext w w5 := (E4.alloc _).trans x5; clear ho x5 sx)
    | fail)
  clear Bp Bq Ba Bb Cp Cq Ca Cb Dp Dq Da Db Cp0 Cp1 Cp2 Cq0 Cq1 Cq2 Ca0 Ca1 Dp0 Dp1 Dp2 Dq0 Dq1 Dq2 E1 E3 E4
  have E6 := E5.alloc (.cells #[.int .i64 rl, .int .u32 ra, .slice At rm.length ct] 25)
  have sx6 := sx5.ext ((Ext.refl w5).alloc (.cells #[.int .i64 rl, .int .u32 ra, .slice At rm.length ct] 25))
  have st6 := st.ext ((Ext.refl w5).alloc (.cells #[.int .i64 rl, .int .u32 ra, .slice At rm.length ct] 25))
  obtain ⟨w6, hw6⟩ : ∃ w6, w6 = w5.alloc (.cells #[.int .i64 rl, .int .u32 ra, .slice At rm.length ct] 25) := ⟨_, rfl⟩
  rw [← hw6] at Fx Ft Fp Fq Fa Fb E6 sx6 st6 ⊢
  clear hw6 sx5 st E5
  have Fp0 : w6.cell? ⟨w.heap.size, 0, none⟩ = some (.int .i64 (Lp)) := Fp.cell 0; have Fp1 : w6.cell? ⟨w.heap.size, 1, none⟩ = some (.int .u32 (ap)) := Fp.cell 1; have Fp2 : w6.cell? ⟨w.heap.size, 2, none⟩ = some (.slice Ap np cp) := Fp.cell 2
  have Fq0 : w6.cell? ⟨w.heap.size + 1, 0, none⟩ = some (.int .i64 (Lq)) := Fq.cell 0; have Fq1 : w6.cell? ⟨w.heap.size + 1, 1, none⟩ = some (.int .u32 (aq)) := Fq.cell 1; have Fq2 : w6.cell? ⟨w.heap.size + 1, 2, none⟩ = some (.slice Aq nq cq) := Fq.cell 2
  have Fa0 : w6.cell? ⟨w.heap.size + 1 + 1, 0, none⟩ = some (.int .u64 (e1)) := Fa.cell 0; have Fa1 : w6.cell? ⟨w.heap.size + 1 + 1, 1, none⟩ = some (.slice A1 n1 c1) := Fa.cell 1
  have Fb0 : w6.cell? ⟨w.heap.size + 1 + 1 + 1, 0, none⟩ = some (.int .u64 (e2)) := Fb.cell 0; have Fb1 : w6.cell? ⟨w.heap.size + 1 + 1 + 1, 1, none⟩ = some (.slice A2 n2 c2) := Fb.cell 1
  have Fx0 : w6.cell? ⟨w4.heap.size, 0, none⟩ = some (.int .u64 (ex)) := Fx.cell 0; have Fx1 : w6.cell? ⟨w4.heap.size, 1, none⟩ = some (.slice Ax lx.length cx) := Fx.cell 1
  have Ft0 : w6.cell? ⟨w5.heap.size, 0, none⟩ = some (.int .i64 (rl)) := Ft.cell 0; have Ft1 : w6.cell? ⟨w5.heap.size, 1, none⟩ = some (.int .u32 (ra)) := Ft.cell 1; have Ft2 : w6.cell? ⟨w5.heap.size, 2, none⟩ = some (.slice At rm.length ct) := Ft.cell 2
  go_cut [9] (fun s wx => s = .pointer (some ⟨w4.heap.size, 0, none⟩) ∧ Ext w6 wx)
  case first =>
    rcases K8.out with z1 | ⟨rfl, z2⟩
    · go_wp2_with fail
      go_meet
      case rel => exact ⟨rfl, Ext.refl _⟩
    · have m6 : True := trivial
      rcases z2 with z2 | ⟨rfl, (z3 | ⟨rfl, rfl⟩)⟩
      all_goals
        go_wp2_with (first
          | (have z := m6; clear z m6; go_at_call 13; refine (apply_at Lq aq Aq Ax nq lx.length cq cx lq lx ex _ HY (sq.ext E6) sx6 ux baq bx (by omega) (by omega) (by omega)).mono ?_; rintro r w7 ⟨Ay, cy, rfl, ho, x7⟩; have sy := ho.sl; have Ga := (Fa.ext x7).alloc (.cells #[.int .u64 ey, .slice Ay ly.length cy] 28); have Gt := (Ft.ext x7).alloc (.cells #[.int .u64 ey, .slice Ay ly.length cy] 28); have X7 : Ext w6 w7 := x7; clear ho x7; have Gt0 : (w7.alloc (.cells #[.int .u64 ey, .slice Ay ly.length cy] 28)).cell? ⟨w5.heap.size, 0, none⟩ = some (.int .i64 (rl)) := Gt.cell 0; have Gt1 : (w7.alloc (.cells #[.int .u64 ey, .slice Ay ly.length cy] 28)).cell? ⟨w5.heap.size, 1, none⟩ = some (.int .u32 (ra)) := Gt.cell 1; have Gt2 : (w7.alloc (.cells #[.int .u64 ey, .slice Ay ly.length cy] 28)).cell? ⟨w5.heap.size, 2, none⟩ = some (.slice At rm.length ct) := Gt.cell 2; have Ga0 : (w7.alloc (.cells #[.int .u64 ey, .slice Ay ly.length cy] 28)).cell? ⟨w.heap.size + 1 + 1, 0, none⟩ = some (.int .u64 (e1)) := Ga.cell 0; have Ga1 : (w7.alloc (.cells #[.int .u64 ey, .slice Ay ly.length cy] 28)).cell? ⟨w.heap.size + 1 + 1, 1, none⟩ = some (.slice A1 n1 c1) := Ga.cell 1; have m7 : True := trivial)
          | (have z := m7; clear z m7; go_at_call 13; refine (apply_at rl ra At A1 rm.length n1 ct c1 rm l1 e1 _ HZ (st6.ext (X7.alloc _)) (s1.ext (E6.trans (X7.alloc _))) u1 bt.2.1 be1 bt.1 (by omega) (by omega)).mono ?_; rintro r w8 ⟨Az, cz, rfl, ho, x8⟩; have sz := ho.sl; have sy8 := (sy.ext ((Ext.refl _).alloc _)).ext x8; have Hy := ((Bk.new w7 28 #[.int .u64 ey, .slice Ay ly.length cy]).ext x8).alloc (.cells #[.int .u64 ez, .slice Az lz.length cz] 28); have X8 : Ext w6 w8 := (X7.alloc _).trans x8; clear ho x8; have Hy0 : (w8.alloc (.cells #[.int .u64 ez, .slice Az lz.length cz] 28)).cell? ⟨w7.heap.size, 0, none⟩ = some (.int .u64 (ey)) := Hy.cell 0; have Hy1 : (w8.alloc (.cells #[.int .u64 ez, .slice Az lz.length cz] 28)).cell? ⟨w7.heap.size, 1, none⟩ = some (.slice Ay ly.length cy) := Hy.cell 1; have Hzz := Bk.new w8 28 #[.int .u64 ez, .slice Az lz.length cz]; have Hzz0 : (w8.alloc (.cells #[.int .u64 ez, .slice Az lz.length cz] 28)).cell? ⟨w8.heap.size, 0, none⟩ = some (.int .u64 (ez)) := Hzz.cell 0; have Hzz1 : (w8.alloc (.cells #[.int .u64 ez, .slice Az lz.length cz] 28)).cell? ⟨w8.heap.size, 1, none⟩ = some (.slice Az lz.length cz) := Hzz.cell 1)
          | (go_at_call 26; refine (cmp_at ey ez Ay Az ly.length lz.length cy cz ly lz _ Hcv (sy8.ext ((Ext.refl _).alloc _)) (sz.ext ((Ext.refl _).alloc _))).mono ?_; rintro r w9 ⟨rfl, x9⟩)
          | fail)
        go_meet
        case rel => first | exact ⟨rfl, (X8.alloc _).trans x9⟩ | exact ⟨rfl, X8.alloc _⟩
  case rest =>
    obtain ⟨rfl, x7⟩ := hcut
    have Gp := Fp.ext x7
    have Gq := Fq.ext x7
    have Ga := Fa.ext x7
    have Gb := Fb.ext x7
    have Gx := Fx.ext x7
    have sx7 := sx6.ext x7
    have E7 := E6.trans x7
    clear K8 HY HZ Hcv Fp Fq Fa Fb Fx Ft sx6 st6 x7 E6
    have Gp0 : wc.cell? ⟨w.heap.size, 0, none⟩ = some (.int .i64 (Lp)) := Gp.cell 0; have Gp1 : wc.cell? ⟨w.heap.size, 1, none⟩ = some (.int .u32 (ap)) := Gp.cell 1; have Gp2 : wc.cell? ⟨w.heap.size, 2, none⟩ = some (.slice Ap np cp) := Gp.cell 2
    have Gb0 : wc.cell? ⟨w.heap.size + 1 + 1 + 1, 0, none⟩ = some (.int .u64 (e2)) := Gb.cell 0; have Gb1 : wc.cell? ⟨w.heap.size + 1 + 1 + 1, 1, none⟩ = some (.slice A2 n2 c2) := Gb.cell 1
    go_upto_region 11 with (first
      | (go_at_call 13; refine (apply_at Lp ap Ap A2 np n2 cp c2 lp l2 e2 _ HW (sp.ext E7) (s2.ext E7) u2 bap be2 (by omega) (by omega) (by omega)).mono ?_; rintro r w8 ⟨Aw, cw, rfl, ho, x8⟩; have sw := ho.sl; have Jp := (Gp.ext x8).alloc (.cells #[.int .u64 ew, .slice Aw lw.length cw] 28); have Jq := (Gq.ext x8).alloc (.cells #[.int .u64 ew, .slice Aw lw.length cw] 28); have Ja := (Ga.ext x8).alloc (.cells #[.int .u64 ew, .slice Aw lw.length cw] 28); have Jb := (Gb.ext x8).alloc (.cells #[.int .u64 ew, .slice Aw lw.length cw] 28); have Jx := (Gx.ext x8).alloc (.cells #[.int .u64 ew, .slice Aw lw.length cw] 28); have sx8 := sx7.ext x8; have E8 : Ext w w8 := E7.trans x8; clear ho x8)
      | fail)
    have Jw := Bk.new w8 28 #[.int .u64 ew, .slice Aw lw.length cw]
    have E9 := E8.alloc (.cells #[.int .u64 ew, .slice Aw lw.length cw] 28)
    have sx9 := sx8.ext ((Ext.refl w8).alloc (.cells #[.int .u64 ew, .slice Aw lw.length cw] 28))
    have sw9 := sw.ext ((Ext.refl w8).alloc (.cells #[.int .u64 ew, .slice Aw lw.length cw] 28))
    obtain ⟨w9, hw9⟩ : ∃ w9, w9 = w8.alloc (.cells #[.int .u64 ew, .slice Aw lw.length cw] 28) := ⟨_, rfl⟩
    rw [← hw9] at Jp Jq Ja Jb Jx Jw E9 sx9 sw9 ⊢
    clear hw9 sx8 sw E8 Gp Gq Ga Gb Gx Gp0 Gp1 Gp2 Gb0 Gb1
    have Ja0 : w9.cell? ⟨w.heap.size + 1 + 1, 0, none⟩ = some (.int .u64 (e1)) := Ja.cell 0; have Ja1 : w9.cell? ⟨w.heap.size + 1 + 1, 1, none⟩ = some (.slice A1 n1 c1) := Ja.cell 1
    have Jb0 : w9.cell? ⟨w.heap.size + 1 + 1 + 1, 0, none⟩ = some (.int .u64 (e2)) := Jb.cell 0; have Jb1 : w9.cell? ⟨w.heap.size + 1 + 1 + 1, 1, none⟩ = some (.slice A2 n2 c2) := Jb.cell 1
    go_cut [100] (fun s wx => s = .bool false ∧ Ext w9 wx)
    case first =>
      rcases K11.out with z1 | ⟨rfl, z2⟩
      · go_wp2_with fail
        go_meet
        case rel => exact ⟨rfl, Ext.refl _⟩
      · have m8 : True := trivial
        rcases z2 with rfl | ⟨rfl, rfl⟩
        all_goals
          go_wp2_with (first
            | (have z := m8; clear z m8; go_at_call 27; refine (leq_at e1 e2 A1 A2 n1 n2 c1 c2 l1 l2 _ Hab (s1.ext E9) (s2.ext E9)).mono ?_; rintro r w10 ⟨rfl, x10⟩; have Lx := Jx.ext x10; have Lw := Jw.ext x10; have Lx0 : w10.cell? ⟨w4.heap.size, 0, none⟩ = some (.int .u64 (ex)) := Lx.cell 0; have Lx1 : w10.cell? ⟨w4.heap.size, 1, none⟩ = some (.slice Ax lx.length cx) := Lx.cell 1; have Lw0 : w10.cell? ⟨w8.heap.size, 0, none⟩ = some (.int .u64 (ew)) := Lw.cell 0; have Lw1 : w10.cell? ⟨w8.heap.size, 1, none⟩ = some (.slice Aw lw.length cw) := Lw.cell 1; have m9 : True := trivial)
            | (have z := m9; clear z m9; go_at_call 27; refine (leq_at ex ew Ax Aw lx.length lw.length cx cw lx lw _ Hxw (sx9.ext x10) (sw9.ext x10)).mono ?_; rintro r w11 ⟨rfl, x11⟩)
            | fail)
          go_meet
          case rel => first | exact ⟨rfl, x10.trans x11⟩ | exact ⟨rfl, x10⟩
    case rest =>
      obtain ⟨rfl, x10⟩ := hcut
      have Mp := Jp.ext x10
      have Mq := Jq.ext x10
      have Ma := Ja.ext x10
      have Mx := Jx.ext x10
      have sx10 := sx9.ext x10
      have E10 := E9.trans x10
      clear K11 HW Hab Hxw Jp Jq Ja Jb Jx Jw Ja0 Ja1 Jb0 Jb1 sx9 sw9 x10 E9
      have Mq0 : wc.cell? ⟨w.heap.size + 1, 0, none⟩ = some (.int .i64 (Lq)) := Mq.cell 0; have Mq1 : wc.cell? ⟨w.heap.size + 1, 1, none⟩ = some (.int .u32 (aq)) := Mq.cell 1; have Mq2 : wc.cell? ⟨w.heap.size + 1, 2, none⟩ = some (.slice Aq nq cq) := Mq.cell 2
      have Ma0 : wc.cell? ⟨w.heap.size + 1 + 1, 0, none⟩ = some (.int .u64 (e1)) := Ma.cell 0; have Ma1 : wc.cell? ⟨w.heap.size + 1 + 1, 1, none⟩ = some (.slice A1 n1 c1) := Ma.cell 1
      go_upto_region 14 with (first
        | (go_at_call 13; refine (apply_at Lq aq Aq A1 nq n1 cq c1 lq l1 e1 _ HV (sq.ext E10) (s1.ext E10) u1 baq be1 (by omega) (by omega) (by omega)).mono ?_; rintro r w11 ⟨Av, cvv, rfl, ho, x11⟩; have sv := ho.sl; have Np := (Mp.ext x11).alloc (.cells #[.int .u64 ev, .slice Av lv.length cvv] 28); have Nq := (Mq.ext x11).alloc (.cells #[.int .u64 ev, .slice Av lv.length cvv] 28); have Na := (Ma.ext x11).alloc (.cells #[.int .u64 ev, .slice Av lv.length cvv] 28); have Nx := (Mx.ext x11).alloc (.cells #[.int .u64 ev, .slice Av lv.length cvv] 28); have sx11 := sx10.ext x11; have E11 : Ext w w11 := E10.trans x11; clear ho x11)
        | fail)
      have Nv := Bk.new w11 28 #[.int .u64 ev, .slice Av lv.length cvv]
      have E12 := E11.alloc (.cells #[.int .u64 ev, .slice Av lv.length cvv] 28)
      have sx12 := sx11.ext ((Ext.refl w11).alloc (.cells #[.int .u64 ev, .slice Av lv.length cvv] 28))
      have sv12 := sv.ext ((Ext.refl w11).alloc (.cells #[.int .u64 ev, .slice Av lv.length cvv] 28))
      obtain ⟨w12, hw12⟩ : ∃ w12, w12 = w11.alloc (.cells #[.int .u64 ev, .slice Av lv.length cvv] 28) := ⟨_, rfl⟩
      rw [← hw12] at Np Nq Na Nx Nv E12 sx12 sv12 ⊢
      clear hw12 sx11 sv E11 Mp Mq Ma Mx Mq0 Mq1 Mq2 Ma0 Ma1
      have Np0 : w12.cell? ⟨w.heap.size, 0, none⟩ = some (.int .i64 (Lp)) := Np.cell 0; have Np1 : w12.cell? ⟨w.heap.size, 1, none⟩ = some (.int .u32 (ap)) := Np.cell 1; have Np2 : w12.cell? ⟨w.heap.size, 2, none⟩ = some (.slice Ap np cp) := Np.cell 2
      have Nq0 : w12.cell? ⟨w.heap.size + 1, 0, none⟩ = some (.int .i64 (Lq)) := Nq.cell 0; have Nq1 : w12.cell? ⟨w.heap.size + 1, 1, none⟩ = some (.int .u32 (aq)) := Nq.cell 1; have Nq2 : w12.cell? ⟨w.heap.size + 1, 2, none⟩ = some (.slice Aq nq cq) := Nq.cell 2
      have Na0 : w12.cell? ⟨w.heap.size + 1 + 1, 0, none⟩ = some (.int .u64 (e1)) := Na.cell 0; have Na1 : w12.cell? ⟨w.heap.size + 1 + 1, 1, none⟩ = some (.slice A1 n1 c1) := Na.cell 1
      rcases K14.out with z1 | ⟨rfl, z2⟩
      · go_wp2_with fail
        refine bodyPost_ret (v := .bool true) (by simp only [results, Tryd.results5]; go_simp) rfl ?_
        exact ⟨rfl, E12⟩
      · rcases z2 with rfl | ⟨rfl, rfl⟩
        · go_wp2_with (first
            | (go_at_call 15; refine (pleq_at Lp ap Lq aq n1 Ap Aq np nq cp cq lp lq _ Hpl (sp.ext E12) (sq.ext E12) up uq (by omega) (by omega)).mono ?_; rintro r w13 ⟨rfl, x13⟩)
            | fail)
          refine bodyPost_ret (v := .bool true) (by simp only [results, Tryd.results5]; go_simp) rfl ?_
          exact ⟨rfl, E12.trans x13⟩
        · go_wp2_with (first
            | (go_at_call 15; refine (pleq_at Lp ap Lq aq n1 Ap Aq np nq cp cq lp lq _ Hpl (sp.ext E12) (sq.ext E12) up uq (by omega) (by omega)).mono ?_; rintro r w13 ⟨rfl, x13⟩; have Ox := Nx.ext x13; have Ov := Nv.ext x13; have Ox0 : w13.cell? ⟨w4.heap.size, 0, none⟩ = some (.int .u64 (ex)) := Ox.cell 0; have Ox1 : w13.cell? ⟨w4.heap.size, 1, none⟩ = some (.slice Ax lx.length cx) := Ox.cell 1; have Ov0 : w13.cell? ⟨w11.heap.size, 0, none⟩ = some (.int .u64 (ev)) := Ov.cell 0; have Ov1 : w13.cell? ⟨w11.heap.size, 1, none⟩ = some (.slice Av lv.length cvv) := Ov.cell 1)
            | (go_at_call 27; refine (leq_at ex ev Ax Av lx.length lv.length cx cvv lx lv _ Hxv (sx12.ext x13) (sv12.ext x13)).mono ?_; rintro r w14 ⟨rfl, x14⟩)
            | fail)
          refine bodyPost_ret (v := .bool true) (by simp only [results, Tryd.results5]; go_simp) rfl ?_
          exact ⟨rfl, (E12.trans x13).trans x14⟩

theorem goes_any (Lp ap Lq aq e1 e2 : Int) (Ap Aq A1 A2 : Option Addr) (np nq n1 n2 cp cq c1 c2 : Nat) (lp lq l1 l2 : List Int) (w : World) (sp : Sl w 1 Ap np cp (wds lp)) (sq : Sl w 1 Aq nq cq (wds lq)) (s1 : Sl w 1 A1 n1 c1 (wds l1)) (s2 : Sl w 1 A2 n2 c2 (wds l2))
    (up : U32 lp) (uq : U32 lq) (u1 : U32 l1) (u2 : U32 l2) (bLp : -9223372036854775808 ≤ Lp ∧ Lp ≤ 9223372036854775807) (bap : 0 ≤ ap ∧ ap ≤ 4294967295) (bLq : -9223372036854775808 ≤ Lq ∧ Lq ≤ 9223372036854775807) (baq : 0 ≤ aq ∧ aq ≤ 4294967295)
    (be1 : 0 ≤ e1 ∧ e1 ≤ 18446744073709551615) (be2 : 0 ≤ e2 ∧ e2 ≤ 18446744073709551615) :
    Calls Tryd.prog 5 #[.agg #[.int .i64 Lp, .int .u32 ap, .slice Ap np cp], .agg #[.int .i64 Lq, .int .u32 aq, .slice Aq nq cq], .agg #[.int .u64 e1, .slice A1 n1 c1], .agg #[.int .u64 e2, .slice A2 n2 c2]] w fun e w' => e = .returned (.bool true) ∧ Ext w w' := by
  by_cases hf : 40 < np ∨ 40 < nq
  · exact goes_far Lp ap Lq aq e1 e2 Ap Aq A1 A2 np nq n1 n2 cp cq c1 c2 w hf
  by_cases hm : 40 < n1 ∨ 40 < n2
  · exact goes_much Lp ap Lq aq e1 e2 Ap Aq A1 A2 np nq n1 n2 cp cq c1 c2 w hf hm
  obtain ⟨⟨⟨ex, lx⟩, eE⟩, hx⟩ : ∃ r, applyT Lp ap lp e1 l1 = r := ⟨_, rfl⟩
  obtain ⟨⟨⟨rl, ra, rm⟩, fE⟩, ht⟩ : ∃ r, thenT Lp ap lp Lq aq lq = r := ⟨_, rfl⟩
  by_cases hE : eE = 0
  · subst hE
    exact goes_ok Lp ap Lq aq e1 e2 Ap Aq A1 A2 np nq n1 n2 cp cq c1 c2 lp lq l1 l2 w sp sq s1 s2 up uq u1 u2 bLp bap bLq baq be1 be2 hf hm hx ht
  · exact goes_bad Lp ap Lq aq e1 e2 Ap Aq A1 A2 np nq n1 n2 cp cq c1 c2 lp lq l1 l2 w sp sq s1 s2 up uq u1 u2 bLp bap bLq baq be1 be2 hf hm hx ht hE
end Go.Proofs.YtajnlihlannmeaaDoor
