/- StampGoes: the walk, where the first way cannot be gone. -/
import Derived.Test.YtajnlihlannmeaaDoorGoes
namespace Go.Proofs.YtajnlihlannmeaaDoor
open Go.RowKit

set_option maxRecDepth 100000 in
set_option maxHeartbeats 1600000 in
theorem goes_bad {ex : Int} {lx : List Int} {eE : Int} {rl ra : Int} {rm : List Int} {fE : Int} (Lp ap Lq aq e1 e2 : Int) (Ap Aq A1 A2 : Option Addr) (np nq n1 n2 cp cq c1 c2 : Nat) (lp lq l1 l2 : List Int) (w : World) (sp : Sl w 1 Ap np cp (wds lp)) (sq : Sl w 1 Aq nq cq (wds lq)) (s1 : Sl w 1 A1 n1 c1 (wds l1)) (s2 : Sl w 1 A2 n2 c2 (wds l2))
    (up : U32 lp) (uq : U32 lq) (u1 : U32 l1) (u2 : U32 l2) (bLp : -9223372036854775808 ≤ Lp ∧ Lp ≤ 9223372036854775807) (bap : 0 ≤ ap ∧ ap ≤ 4294967295) (bLq : -9223372036854775808 ≤ Lq ∧ Lq ≤ 9223372036854775807) (baq : 0 ≤ aq ∧ aq ≤ 4294967295)
    (be1 : 0 ≤ e1 ∧ e1 ≤ 18446744073709551615) (be2 : 0 ≤ e2 ∧ e2 ≤ 18446744073709551615)
    (hf : ¬ (40 < np ∨ 40 < nq)) (hm : ¬ (40 < n1 ∨ 40 < n2)) (hx : applyT Lp ap lp e1 l1 = ((ex, lx), eE)) (ht : thenT Lp ap lp Lq aq lq = (⟨rl, ra, rm⟩, fE)) (hE : eE ≠ 0) :
    Calls Tryd.prog 5 #[.agg #[.int .i64 Lp, .int .u32 ap, .slice Ap np cp], .agg #[.int .i64 Lq, .int .u32 aq, .slice Aq nq cq], .agg #[.int .u64 e1, .slice A1 n1 c1], .agg #[.int .u64 e2, .slice A2 n2 c2]] w fun e w' => e = .returned (.bool true) ∧ Ext w w' := by
  have z1 : (eE == 0) = false := by simpa using hE
  have z2 : (eE != 0) = true := by simpa using hE
  clear hE
  obtain ⟨⟨⟨ew, lw⟩, gE⟩, hw⟩ : ∃ r, applyT Lp ap lp e2 l2 = r := ⟨_, rfl⟩
  have HW := Lib.hid hw
  clear hw
  obtain ⟨⟨⟨ev, lv⟩, vE⟩, hv⟩ : ∃ r, applyT Lq aq lq e1 l1 = r := ⟨_, rfl⟩
  have HV := Lib.hid hv
  clear hv
  have hb : false = decide (40 < np ∨ 40 < nq) := by simp [hf]
  have HB := Lib.hid hb
  have hb2 : false = decide (40 < n1 ∨ 40 < n2) := by simp [hm]
  have HB2 := Lib.hid hb2
  have hn : np ≤ 40 ∧ nq ≤ 40 ∧ n1 ≤ 40 ∧ n2 ≤ 40 := by omega
  have hlx : lx.length ≤ 80 := by have h := (apply_bounds hx bap be1 up u1).2.2; rw [s1.wlen, sp.wlen] at h; omega
  have hrm : rm.length ≤ 80 := by have h := (then_bounds ht bLp bap baq up uq).2.2.2; simp only at h; rw [sp.wlen, sq.wlen] at h; omega
  have bx := (apply_bounds hx bap be1 up u1).1
  have ux := (apply_bounds hx bap be1 up u1).2.1
  have bt := then_bounds ht bLp bap baq up uq
  simp only at bt
  have HX := Lib.hid hx
  have HT := Lib.hid ht
  clear hb hb2 hf hm hx ht
  have m1 : True := trivial
  go_enter Tryd.func5, Tryd.ntmps5
  go_upto_if 53 with (first
    | (have z := m1; clear z m1; go_at_call 10; refine (far2 _ np nq false _ Lp ap Lq aq Ap Aq cp cq (Bk.at (by simp)) HB.out).mono ?_; rintro r w1 ⟨rfl, x1⟩; have Bp := ((((Bk.new w 25 #[.int .i64 Lp, .int .u32 ap, .slice Ap np cp]).alloc _).alloc _).alloc _ |>.alloc _).ext x1; have Bq : Bk w1 (w.heap.size + 1) 25 #[.int .i64 Lq, .int .u32 aq, .slice Aq nq cq] := ((((Bk.at (by simp)).alloc _).alloc _).alloc _).ext x1; have Ba : Bk w1 (w.heap.size + 1 + 1) 28 #[.int .u64 e1, .slice A1 n1 c1] := (((Bk.at (by simp)).alloc _).alloc _).ext x1; have Bb : Bk w1 (w.heap.size + 1 + 1 + 1) 28 #[.int .u64 e2, .slice A2 n2 c2] := ((Bk.at (by simp)).alloc _).ext x1; have E1 : Ext w w1 := ((((((Ext.refl w).alloc _).alloc _).alloc _).alloc _).alloc _).trans x1; clear x1; have Ba0 : w1.cell? ⟨w.heap.size + 1 + 1, 0, none⟩ = some (.int .u64 (e1)) := Ba.cell 0; have Ba1 : w1.cell? ⟨w.heap.size + 1 + 1, 1, none⟩ = some (.slice A1 n1 c1) := Ba.cell 1; have Bb0 : w1.cell? ⟨w.heap.size + 1 + 1 + 1, 0, none⟩ = some (.int .u64 (e2)) := Bb.cell 0; have Bb1 : w1.cell? ⟨w.heap.size + 1 + 1 + 1, 1, none⟩ = some (.slice A2 n2 c2) := Bb.cell 1; have m2 : True := trivial)
    | (have z := m2; clear z m2; go_at_call 11; refine (much2 _ n1 n2 false _ e1 e2 A1 A2 c1 c2 (Bk.at (by simp)) HB2.out).mono ?_; rintro r w2 ⟨rfl, x2⟩; have X2 : Ext w1 w2 := ((Ext.refl w1).alloc _).trans x2; clear x2; have m3 : True := trivial)
    | (have z := m3; clear z m3; go_at_call 21; refine (known_true _).mono ?_; rintro r w3 ⟨rfl, x3⟩; have X3 := X2.trans x3; have Cp := Bp.ext X3; have Cq := Bq.ext X3; have Ca := Ba.ext X3; have Cb := Bb.ext X3; have E3 : Ext w w3 := E1.trans X3; clear X2 x3 X3 Ba0 Ba1 Bb0 Bb1; have Cp0 : w3.cell? ⟨w.heap.size, 0, none⟩ = some (.int .i64 (Lp)) := Cp.cell 0; have Cp1 : w3.cell? ⟨w.heap.size, 1, none⟩ = some (.int .u32 (ap)) := Cp.cell 1; have Cp2 : w3.cell? ⟨w.heap.size, 2, none⟩ = some (.slice Ap np cp) := Cp.cell 2; have Cq0 : w3.cell? ⟨w.heap.size + 1, 0, none⟩ = some (.int .i64 (Lq)) := Cq.cell 0; have Cq1 : w3.cell? ⟨w.heap.size + 1, 1, none⟩ = some (.int .u32 (aq)) := Cq.cell 1; have Cq2 : w3.cell? ⟨w.heap.size + 1, 2, none⟩ = some (.slice Aq nq cq) := Cq.cell 2; have Ca0 : w3.cell? ⟨w.heap.size + 1 + 1, 0, none⟩ = some (.int .u64 (e1)) := Ca.cell 0; have Ca1 : w3.cell? ⟨w.heap.size + 1 + 1, 1, none⟩ = some (.slice A1 n1 c1) := Ca.cell 1; have m4 : True := trivial)
    | (have z := m4; clear z m4; go_at_call 13; refine (apply_at Lp ap Ap A1 np n1 cp c1 lp l1 e1 _ HX (sp.ext E3) (s1.ext E3) u1 bap be1 (by omega) (by omega) (by omega)).mono ?_; rintro r w4 ⟨Ax, cx, rfl, ho, x4⟩; have sx := ho.sl; have Dp := (Cp.ext x4).alloc (.cells #[.int .u64 ex, .slice Ax lx.length cx] 28); have Dq := (Cq.ext x4).alloc (.cells #[.int .u64 ex, .slice Ax lx.length cx] 28); have Da := (Ca.ext x4).alloc (.cells #[.int .u64 ex, .slice Ax lx.length cx] 28); have Db := (Cb.ext x4).alloc (.cells #[.int .u64 ex, .slice Ax lx.length cx] 28); have E4 : Ext w w4 := E3.trans x4; clear ho x4; have Dp0 : (w4.alloc (.cells #[.int .u64 ex, .slice Ax lx.length cx] 28)).cell? ⟨w.heap.size, 0, none⟩ = some (.int .i64 (Lp)) := Dp.cell 0; have Dp1 : (w4.alloc (.cells #[.int .u64 ex, .slice Ax lx.length cx] 28)).cell? ⟨w.heap.size, 1, none⟩ = some (.int .u32 (ap)) := Dp.cell 1; have Dp2 : (w4.alloc (.cells #[.int .u64 ex, .slice Ax lx.length cx] 28)).cell? ⟨w.heap.size, 2, none⟩ = some (.slice Ap np cp) := Dp.cell 2; have Dq0 : (w4.alloc (.cells #[.int .u64 ex, .slice Ax lx.length cx] 28)).cell? ⟨w.heap.size + 1, 0, none⟩ = some (.int .i64 (Lq)) := Dq.cell 0; have Dq1 : (w4.alloc (.cells #[.int .u64 ex, .slice Ax lx.length cx] 28)).cell? ⟨w.heap.size + 1, 1, none⟩ = some (.int .u32 (aq)) := Dq.cell 1; have Dq2 : (w4.alloc (.cells #[.int .u64 ex, .slice Ax lx.length cx] 28)).cell? ⟨w.heap.size + 1, 2, none⟩ = some (.slice Aq nq cq) := Dq.cell 2; have m5 : True := trivial)
    | (have z := m5; clear z m5; go_at_call 14; refine (then_at Lp ap Lq aq Ap Aq np nq cp cq lp lq _ HT (sp.ext (E4.alloc _)) (sq.ext (E4.alloc _)) up bap baq (by omega) (by omega)).mono ?_; rintro r w5 ⟨At, ct, rfl, ho, x5⟩; have st := ho.sl; have sx5 := (sx.ext ((Ext.refl _).alloc _)).ext x5; have Fx := ((Bk.new w4 28 #[.int .u64 ex, .slice Ax lx.length cx]).ext x5).alloc (.cells #[.int .i64 rl, .int .u32 ra, .slice At rm.length ct] 25); have Ft := Bk.new w5 25 #[.int .i64 rl, .int .u32 ra, .slice At rm.length ct]; have Fp := (Dp.ext x5).alloc (.cells #[.int .i64 rl, .int .u32 ra, .slice At rm.length ct] 25); have Fq := (Dq.ext x5).alloc (.cells #[.int .i64 rl, .int .u32 ra, .slice At rm.length ct] 25); have Fa := (Da.ext x5).alloc (.cells #[.int .i64 rl, .int .u32 ra, .slice At rm.length ct] 25); have Fb := (Db.ext x5).alloc (.cells #[.int .i64 rl, .int .u32 ra, .slice At rm.length ct] 25); have E5 : Ext w w5 := (E4.alloc _).trans x5; clear ho x5 sx)
    | fail)
  clear Bp Bq Ba Bb Cp Cq Ca Cb Dp Dq Da Db Cp0 Cp1 Cp2 Cq0 Cq1 Cq2 Ca0 Ca1 Dp0 Dp1 Dp2 Dq0 Dq1 Dq2 E1 E3 E4
  have E6 := E5.alloc (.cells #[.int .i64 rl, .int .u32 ra, .slice At rm.length ct] 25)
  have sx6 := sx5.ext ((Ext.refl w5).alloc (.cells #[.int .i64 rl, .int .u32 ra, .slice At rm.length ct] 25))
  have st6 := st.ext ((Ext.refl w5).alloc (.cells #[.int .i64 rl, .int .u32 ra, .slice At rm.length ct] 25))
  obtain ⟨w6, hw6⟩ : ∃ w6, w6 = w5.alloc (.cells #[.int .i64 rl, .int .u32 ra, .slice At rm.length ct] 25) := ⟨_, rfl⟩
  rw [← hw6] at Fx Ft Fp Fq Fa Fb E6 sx6 st6 ⊢
  clear hw6 sx5 st E5
  have Fp0 : w6.cell? ⟨w.heap.size, 0, none⟩ = some (.int .i64 (Lp)) := Fp.cell 0; have Fp1 : w6.cell? ⟨w.heap.size, 1, none⟩ = some (.int .u32 (ap)) := Fp.cell 1; have Fp2 : w6.cell? ⟨w.heap.size, 2, none⟩ = some (.slice Ap np cp) := Fp.cell 2
  have Fq0 : w6.cell? ⟨w.heap.size + 1, 0, none⟩ = some (.int .i64 (Lq)) := Fq.cell 0; have Fq1 : w6.cell? ⟨w.heap.size + 1, 1, none⟩ = some (.int .u32 (aq)) := Fq.cell 1; have Fq2 : w6.cell? ⟨w.heap.size + 1, 2, none⟩ = some (.slice Aq nq cq) := Fq.cell 2
  have Fa0 : w6.cell? ⟨w.heap.size + 1 + 1, 0, none⟩ = some (.int .u64 (e1)) := Fa.cell 0; have Fa1 : w6.cell? ⟨w.heap.size + 1 + 1, 1, none⟩ = some (.slice A1 n1 c1) := Fa.cell 1
  have Fb0 : w6.cell? ⟨w.heap.size + 1 + 1 + 1, 0, none⟩ = some (.int .u64 (e2)) := Fb.cell 0; have Fb1 : w6.cell? ⟨w.heap.size + 1 + 1 + 1, 1, none⟩ = some (.slice A2 n2 c2) := Fb.cell 1
  have Fx0 : w6.cell? ⟨w4.heap.size, 0, none⟩ = some (.int .u64 (ex)) := Fx.cell 0; have Fx1 : w6.cell? ⟨w4.heap.size, 1, none⟩ = some (.slice Ax lx.length cx) := Fx.cell 1
  have Ft0 : w6.cell? ⟨w5.heap.size, 0, none⟩ = some (.int .i64 (rl)) := Ft.cell 0; have Ft1 : w6.cell? ⟨w5.heap.size, 1, none⟩ = some (.int .u32 (ra)) := Ft.cell 1; have Ft2 : w6.cell? ⟨w5.heap.size, 2, none⟩ = some (.slice At rm.length ct) := Ft.cell 2
  have m6 : True := trivial
  go_wp2_with (first
    | (have z := m6; clear z m6; go_at_call 13; refine (apply_at Lp ap Ap A2 np n2 cp c2 lp l2 e2 _ HW (sp.ext E6) (s2.ext E6) u2 bap be2 (by omega) (by omega) (by omega)).mono ?_; rintro r w7 ⟨Aw, cw, rfl, ho, x7⟩; have Gq := (Fq.ext x7).alloc (.cells #[.int .u64 ew, .slice Aw lw.length cw] 28); have Ga := (Fa.ext x7).alloc (.cells #[.int .u64 ew, .slice Aw lw.length cw] 28); have E7 : Ext w w7 := E6.trans x7; clear ho x7; have Gq0 : (w7.alloc (.cells #[.int .u64 ew, .slice Aw lw.length cw] 28)).cell? ⟨w.heap.size + 1, 0, none⟩ = some (.int .i64 (Lq)) := Gq.cell 0; have Gq1 : (w7.alloc (.cells #[.int .u64 ew, .slice Aw lw.length cw] 28)).cell? ⟨w.heap.size + 1, 1, none⟩ = some (.int .u32 (aq)) := Gq.cell 1; have Gq2 : (w7.alloc (.cells #[.int .u64 ew, .slice Aw lw.length cw] 28)).cell? ⟨w.heap.size + 1, 2, none⟩ = some (.slice Aq nq cq) := Gq.cell 2; have Ga0 : (w7.alloc (.cells #[.int .u64 ew, .slice Aw lw.length cw] 28)).cell? ⟨w.heap.size + 1 + 1, 0, none⟩ = some (.int .u64 (e1)) := Ga.cell 0; have Ga1 : (w7.alloc (.cells #[.int .u64 ew, .slice Aw lw.length cw] 28)).cell? ⟨w.heap.size + 1 + 1, 1, none⟩ = some (.slice A1 n1 c1) := Ga.cell 1; have m7 : True := trivial)
    | (have z := m7; clear z m7; go_at_call 13; refine (apply_at Lq aq Aq A1 nq n1 cq c1 lq l1 e1 _ HV (sq.ext (E7.alloc _)) (s1.ext (E7.alloc _)) u1 baq be1 (by omega) (by omega) (by omega)).mono ?_; rintro r w8 ⟨Av, cv, rfl, ho, x8⟩)
    | fail)
  refine bodyPost_ret (v := .bool true) (by simp only [results, Tryd.results5]; go_simp) rfl ?_
  exact ⟨rfl, ((E7.alloc _).trans x8).alloc _⟩
end Go.Proofs.YtajnlihlannmeaaDoor
