/- StampOrder: the walk where all three times have one depth. -/
import Derived.Test.YtajnlihlannmeaaDoorOrder
namespace Go.Proofs.YtajnlihlannmeaaDoor
open Go.RowKit

theorem cmp_at {v : Int} (e1 e2 : Int) (A1 A2 : Option Addr) (n1 n2 c1 c2 : Nat) (l1 l2 : List Int) (w : World) (hb : Hid (cmpTT e1 l1 e2 l2 = v)) (h1 : Sl w 1 A1 n1 c1 (wds l1)) (h2 : Sl w 1 A2 n2 c2 (wds l2)) :
    Calls Tryd.prog 26 #[.agg #[.int .u64 e1, .slice A1 n1 c1], .agg #[.int .u64 e2, .slice A2 n2 c2]] w fun e w' => e = .returned (.int .i64 v) ∧ Ext w w' := hb.out ▸ cmp_any e1 e2 A1 A2 n1 n2 c1 c2 l1 l2 w h1 h2

set_option maxRecDepth 100000 in
set_option maxHeartbeats 1600000 in
theorem order_same (e1 e2 e3 : Int) (A1 A2 A3 : Option Addr) (n c1 c2 c3 : Nat) (l1 l2 l3 : List Int) (w : World) (s1 : Sl w 1 A1 n c1 (wds l1)) (s2 : Sl w 1 A2 n c2 (wds l2)) (s3 : Sl w 1 A3 n c3 (wds l3)) (u1 : U32 l1) (u2 : U32 l2) (hn : n ≤ 40) :
    Calls Tryd.prog 6 #[.agg #[.int .u64 e1, .slice A1 n c1], .agg #[.int .u64 e2, .slice A2 n c2], .agg #[.int .u64 e3, .slice A3 n c3]] w fun e w' => e = .returned (.bool true) ∧ Ext w w' := by
  have hb : false = decide (40 < n ∨ 40 < n ∨ 40 < n) := by simp; omega
  have HB := Lib.hid hb
  clear hb
  have hl12 : l1.length = l2.length := by rw [s1.wlen, s2.wlen]
  obtain ⟨ab, hab⟩ : ∃ b, leqT e1 l1 e2 l2 = b := ⟨_, rfl⟩
  obtain ⟨bc, hbc⟩ : ∃ b, leqT e2 l2 e3 l3 = b := ⟨_, rfl⟩
  obtain ⟨ac, hac⟩ : ∃ b, leqT e1 l1 e3 l3 = b := ⟨_, rfl⟩
  obtain ⟨ba, hba⟩ : ∃ b, leqT e2 l2 e1 l1 = b := ⟨_, rfl⟩
  obtain ⟨ca, hca⟩ : ∃ b, leqT e3 l3 e1 l1 = b := ⟨_, rfl⟩
  obtain ⟨cb, hcb⟩ : ∃ b, leqT e3 l3 e2 l2 = b := ⟨_, rfl⟩
  obtain ⟨jc, hjc⟩ : ∃ b, leqT (max e1 e2) (List.zipWith max l1 l2) e3 l3 = b := ⟨_, rfl⟩
  obtain ⟨cm, hcm⟩ : ∃ b, leqT e3 l3 (min e1 e2) (List.zipWith min l1 l2) = b := ⟨_, rfl⟩
  obtain ⟨cv, hcv⟩ : ∃ v, cmpTT e1 l1 e2 l2 = v := ⟨_, rfl⟩
  have k12 : (ab = false ∧ (cv == 0) = false) ∨ (ab = true ∧ decide (cv ≤ 0) = true ∧ (bc = false ∨ bc = true ∧ ac = true) ∧ (ba = false ∧ (cv == 0) = false ∨ ba = true ∧ (cv == 0) = true)) := by
    have hz := cmp_both (e1 := e1) (e2 := e2) (l1 := l1) (l2 := l2)
    rw [hab, hba, hcv] at hz
    cases ab with
    | false => exact Or.inl ⟨rfl, by simpa using hz⟩
    | true =>
      refine Or.inr ⟨rfl, by simpa using hcv ▸ cmp_le hab, ?_, ?_⟩
      · cases bc with
        | false => exact Or.inl rfl
        | true => exact Or.inr ⟨rfl, hac.symm.trans (leq_trans hab hbc)⟩
      · cases ba with
        | false => exact Or.inl ⟨rfl, by simpa using hz⟩
        | true => exact Or.inr ⟨rfl, by simpa using hz⟩
  have k14 : (ac = false ∧ jc = false) ∨ (ac = true ∧ bc = false ∧ jc = false) ∨ (ac = true ∧ bc = true ∧ jc = true) := by
    have := join_least (e1 := e1) (e2 := e2) (e3 := e3) (l3 := l3) hl12
    rw [hjc, hac, hbc] at this
    cases ac <;> cases bc <;> simp_all
  have k15 : (ca = false ∧ cm = false) ∨ (ca = true ∧ cb = false ∧ cm = false) ∨ (ca = true ∧ cb = true ∧ cm = true) := by
    have := meet_greatest (e1 := e1) (e2 := e2) (e3 := e3) (l3 := l3) hl12
    rw [hcm, hca, hcb] at this
    cases ca <;> cases cb <;> simp_all
  have Haa := Lib.hid (leq_refl e1 l1)
  have Haj := Lib.hid (join_up1 (e1 := e1) (e2 := e2) hl12)
  have Hbj := Lib.hid (join_up2 (e1 := e1) (e2 := e2) hl12)
  have Hma := Lib.hid (meet_low1 (e1 := e1) (e2 := e2) hl12)
  have Hmb := Lib.hid (meet_low2 (e1 := e1) (e2 := e2) hl12)
  have Hab := Lib.hid hab
  have Hbc := Lib.hid hbc
  have Hac := Lib.hid hac
  have Hba := Lib.hid hba
  have Hca := Lib.hid hca
  have Hcb := Lib.hid hcb
  have Hjc := Lib.hid hjc
  have Hcm := Lib.hid hcm
  have Hcv := Lib.hid hcv
  have K12 := Lib.hid k12
  have K14 := Lib.hid k14
  have K15 := Lib.hid k15
  clear hab hbc hac hba hca hcb hjc hcm hcv k12 k14 k15 hl12
  have q0 : ((n : Int) != (n : Int)) = false := by simp
  have m1 : True := trivial
  go_enter Tryd.func6, Tryd.ntmps6
  go_upto_region 12 with (first
    | (have z := m1; clear z m1; go_at_call 11; refine (much3 _ n n n false _ e1 e2 e3 A1 A2 A3 c1 c2 c3 (Bk.at (by simp)) HB.out).mono ?_; rintro r w1 ⟨rfl, x1⟩; have m2 : True := trivial)
    | (have z := m2; clear z m2; go_at_call 21; refine (known_true _).mono ?_; rintro r w2 ⟨rfl, x2⟩; have X2 := x1.trans x2; have Ba : Bk w2 (w.heap.size) 28 #[.int .u64 e1, .slice A1 n c1] := ((((Bk.new w _ _).alloc _).alloc _).alloc _).ext X2; have Bb : Bk w2 (w.heap.size + 1) 28 #[.int .u64 e2, .slice A2 n c2] := (((Bk.at (by simp)).alloc _).alloc _).ext X2; have Bc : Bk w2 (w.heap.size + 1 + 1) 28 #[.int .u64 e3, .slice A3 n c3] := ((Bk.at (by simp)).alloc _).ext X2; have E2 : Ext w w2 := (((((Ext.refl w).alloc _).alloc _).alloc _).alloc _).trans X2; clear x1 x2 X2; have Ba0 : w2.cell? ⟨w.heap.size, 0, none⟩ = some (.int .u64 (e1)) := Ba.cell 0; have Ba1 : w2.cell? ⟨w.heap.size, 1, none⟩ = some (.slice A1 n c1) := Ba.cell 1; have Bb0 : w2.cell? ⟨w.heap.size + 1, 0, none⟩ = some (.int .u64 (e2)) := Bb.cell 0; have Bb1 : w2.cell? ⟨w.heap.size + 1, 1, none⟩ = some (.slice A2 n c2) := Bb.cell 1; have Bc0 : w2.cell? ⟨w.heap.size + 1 + 1, 0, none⟩ = some (.int .u64 (e3)) := Bc.cell 0; have Bc1 : w2.cell? ⟨w.heap.size + 1 + 1, 1, none⟩ = some (.slice A3 n c3) := Bc.cell 1; have m3 : True := trivial)
    | (have z := m3; clear z m3; go_at_call 28; refine (join_same e1 e2 A1 A2 n c1 c2 l1 l2 _ (s1.ext E2) (s2.ext E2) u1 u2 (by omega)).mono ?_; rintro r w3 ⟨Aj, cj, rfl, ho, x3⟩; have sj := ho.sl; have Ca := (Ba.ext x3).alloc (.cells #[.int .u64 (max e1 e2), .slice Aj n cj] 28); have Cb := (Bb.ext x3).alloc (.cells #[.int .u64 (max e1 e2), .slice Aj n cj] 28); have Cc := (Bc.ext x3).alloc (.cells #[.int .u64 (max e1 e2), .slice Aj n cj] 28); have E3 : Ext w w3 := E2.trans x3; clear ho x3; have Ca0 : (w3.alloc (.cells #[.int .u64 (max e1 e2), .slice Aj n cj] 28)).cell? ⟨w.heap.size, 0, none⟩ = some (.int .u64 (e1)) := Ca.cell 0; have Ca1 : (w3.alloc (.cells #[.int .u64 (max e1 e2), .slice Aj n cj] 28)).cell? ⟨w.heap.size, 1, none⟩ = some (.slice A1 n c1) := Ca.cell 1; have Cb0 : (w3.alloc (.cells #[.int .u64 (max e1 e2), .slice Aj n cj] 28)).cell? ⟨w.heap.size + 1, 0, none⟩ = some (.int .u64 (e2)) := Cb.cell 0; have Cb1 : (w3.alloc (.cells #[.int .u64 (max e1 e2), .slice Aj n cj] 28)).cell? ⟨w.heap.size + 1, 1, none⟩ = some (.slice A2 n c2) := Cb.cell 1; have m4 : True := trivial)
    | (have z := m4; clear z m4; go_at_call 29; refine (meet_same e1 e2 A1 A2 n c1 c2 l1 l2 _ (s1.ext (E3.alloc _)) (s2.ext (E3.alloc _)) u1 u2 (by omega)).mono ?_; rintro r w4 ⟨Am, cm', rfl, ho, x4⟩; have sm := ho.sl; have sj4 := sj.ext (((Ext.refl _).alloc _).trans x4); have E4 : Ext w w4 := (E3.alloc _).trans x4; have Bj := ((Bk.new w3 28 #[.int .u64 (max e1 e2), .slice Aj n cj]).ext x4).alloc (.cells #[.int .u64 (min e1 e2), .slice Am n cm'] 28); have Bm := Bk.new w4 28 #[.int .u64 (min e1 e2), .slice Am n cm']; have Da := (Ca.ext x4).alloc (.cells #[.int .u64 (min e1 e2), .slice Am n cm'] 28); have Db := (Cb.ext x4).alloc (.cells #[.int .u64 (min e1 e2), .slice Am n cm'] 28); have Dc := (Cc.ext x4).alloc (.cells #[.int .u64 (min e1 e2), .slice Am n cm'] 28); clear ho x4 sj; have Da0 : (w4.alloc (.cells #[.int .u64 (min e1 e2), .slice Am n cm'] 28)).cell? ⟨w.heap.size, 0, none⟩ = some (.int .u64 (e1)) := Da.cell 0; have Da1 : (w4.alloc (.cells #[.int .u64 (min e1 e2), .slice Am n cm'] 28)).cell? ⟨w.heap.size, 1, none⟩ = some (.slice A1 n c1) := Da.cell 1; have Db0 : (w4.alloc (.cells #[.int .u64 (min e1 e2), .slice Am n cm'] 28)).cell? ⟨w.heap.size + 1, 0, none⟩ = some (.int .u64 (e2)) := Db.cell 0; have Db1 : (w4.alloc (.cells #[.int .u64 (min e1 e2), .slice Am n cm'] 28)).cell? ⟨w.heap.size + 1, 1, none⟩ = some (.slice A2 n c2) := Db.cell 1; have Dc0 : (w4.alloc (.cells #[.int .u64 (min e1 e2), .slice Am n cm'] 28)).cell? ⟨w.heap.size + 1 + 1, 0, none⟩ = some (.int .u64 (e3)) := Dc.cell 0; have Dc1 : (w4.alloc (.cells #[.int .u64 (min e1 e2), .slice Am n cm'] 28)).cell? ⟨w.heap.size + 1 + 1, 1, none⟩ = some (.slice A3 n c3) := Dc.cell 1; have m5 : True := trivial)
    | (have z := m5; clear z m5; go_at_call 27; refine (leq_at e1 e2 A1 A2 n n c1 c2 l1 l2 _ Hab (s1.ext (E4.alloc _)) (s2.ext (E4.alloc _))).mono ?_; rintro r w5 ⟨rfl, x5⟩; have Ej5 := Bj.ext x5; have Em5 := Bm.ext x5; have Ea5 := Da.ext x5; have Eb5 := Db.ext x5; have Ec5 := Dc.ext x5; have sj5 := (sj4.ext ((Ext.refl _).alloc _)).ext x5; have sm5 := (sm.ext ((Ext.refl _).alloc _)).ext x5; have E5 : Ext w w5 := (E4.alloc _).trans x5; clear x5; have Ea50 : w5.cell? ⟨w.heap.size, 0, none⟩ = some (.int .u64 (e1)) := Ea5.cell 0; have Ea51 : w5.cell? ⟨w.heap.size, 1, none⟩ = some (.slice A1 n c1) := Ea5.cell 1; have Eb50 : w5.cell? ⟨w.heap.size + 1, 0, none⟩ = some (.int .u64 (e2)) := Eb5.cell 0; have Eb51 : w5.cell? ⟨w.heap.size + 1, 1, none⟩ = some (.slice A2 n c2) := Eb5.cell 1; have Ec50 : w5.cell? ⟨w.heap.size + 1 + 1, 0, none⟩ = some (.int .u64 (e3)) := Ec5.cell 0; have Ec51 : w5.cell? ⟨w.heap.size + 1 + 1, 1, none⟩ = some (.slice A3 n c3) := Ec5.cell 1; have m6 : True := trivial)
    | (have z := m6; clear z m6; go_at_call 27; refine (leq_at e2 e3 A2 A3 n n c2 c3 l2 l3 _ Hbc (s2.ext E5) (s3.ext E5)).mono ?_; rintro r w6 ⟨rfl, x6⟩; have Ej6 := Ej5.ext x6; have Em6 := Em5.ext x6; have Ea6 := Ea5.ext x6; have Eb6 := Eb5.ext x6; have Ec6 := Ec5.ext x6; have sj6 := sj5.ext x6; have sm6 := sm5.ext x6; have E6 : Ext w w6 := E5.trans x6; clear x6; have Ea60 : w6.cell? ⟨w.heap.size, 0, none⟩ = some (.int .u64 (e1)) := Ea6.cell 0; have Ea61 : w6.cell? ⟨w.heap.size, 1, none⟩ = some (.slice A1 n c1) := Ea6.cell 1; have Ec60 : w6.cell? ⟨w.heap.size + 1 + 1, 0, none⟩ = some (.int .u64 (e3)) := Ec6.cell 0; have Ec61 : w6.cell? ⟨w.heap.size + 1 + 1, 1, none⟩ = some (.slice A3 n c3) := Ec6.cell 1; have m7 : True := trivial)
    | (have z := m7; clear z m7; go_at_call 27; refine (leq_at e1 e3 A1 A3 n n c1 c3 l1 l3 _ Hac (s1.ext E6) (s3.ext E6)).mono ?_; rintro r w7 ⟨rfl, x7⟩; have Fj := Ej6.ext x7; have Fm := Em6.ext x7; have Fa := Ea6.ext x7; have Fb := Eb6.ext x7; have Fc := Ec6.ext x7; have sj7 := sj6.ext x7; have sm7 := sm6.ext x7; have E7 : Ext w w7 := E6.trans x7; clear x7)
    | fail)
  clear Ba0 Ba1 Bb0 Bb1 Bc0 Bc1 Ca0 Ca1 Cb0 Cb1 Da0 Da1 Db0 Db1 Dc0 Dc1 Ea50 Ea51 Eb50 Eb51 Ec50 Ec51 Ea60 Ea61 Ec60 Ec61 Ba Bb Bc Ca Cb Cc Da Db Dc Bj Bm Ea5 Eb5 Ec5 Ej5 Em5 Ea6 Eb6 Ec6 Ej6 Em6 E2 E3 E4 E5 E6 sj4 sj5 sj6 sm sm5 sm6
  go_cut [14] (fun s wx => s = .bool true ∧ Ext w7 wx)
  case first =>
    have X : Ext w7 w7.drew := (Ext.refl w7).drew
    have Fa' := Fa.ext X
    have Fa'X0 : ∀ y : Xt (w7.drew), y.W.cell? ⟨w.heap.size, 0, none⟩ = some (.int .u64 (e1)) := fun y => (Fa'.ext y.x).cell 0; have Fa'X1 : ∀ y : Xt (w7.drew), y.W.cell? ⟨w.heap.size, 1, none⟩ = some (.slice A1 n c1) := fun y => (Fa'.ext y.x).cell 1
    have G1 := K12.out
    rcases G1 with ⟨rfl, hz⟩ | ⟨rfl, hz, hbc⟩
    · refine wp_region_ord [0,0,3,7,15,31,63,127,255,511,1023,2047,4095,8191,16383,32767,65535,131071,262143,262143,1048575,2097151,4194303,8388607,16777215,33554431,67108863,134217727,134217727,536870911,1073741823,33554431,33554431,7516192767,16106127359,34359738367,68719476735,137438953471] (.flo [0,1] (.one 2 (.flo [3,4,5,6,7,8,9,10,11,12,13,14,15,16,17,18,19] (.one 20 (.flo [21,22,23,24,25,26,27,28,31,32] (.ext 29 (.pur [30] (.one 33 (.flo [34,35,36,37] (.fin)))))))))) (by kernel_rfl) (by kernel_rfl) (by intro _ _ d _ _ h; cases d <;> exact h) ?_
      (refine ord_flo (pick_cons rfl (pick_cons rfl pick_nil)) ?_; (repeat (go_big_quiet_step (fail))); refine wpQuiet_nil ?_; show ordWalk _ _ _ _ _ _ _)
      refine ord_one (pick_cons rfl pick_nil) ?_; intro K_ hK_
      go_wp2_with (refine (leq_at e1 e1 A1 A1 n n c1 c1 l1 l1 _ Haa (s1.ext (E7.trans X)) (s1.ext (E7.trans X))).mono ?_; rintro r w8 ⟨rfl, x8⟩)
      have Ga := (Fa.ext X).ext x8
      have Gb := (Fb.ext X).ext x8
      have E8 := (E7.trans X).trans x8
      have GaX0 : ∀ y : Xt (w8), y.W.cell? ⟨w.heap.size, 0, none⟩ = some (.int .u64 (e1)) := fun y => (Ga.ext y.x).cell 0; have GaX1 : ∀ y : Xt (w8), y.W.cell? ⟨w.heap.size, 1, none⟩ = some (.slice A1 n c1) := fun y => (Ga.ext y.x).cell 1
      have GbX0 : ∀ y : Xt (w8), y.W.cell? ⟨w.heap.size + 1, 0, none⟩ = some (.int .u64 (e2)) := fun y => (Gb.ext y.x).cell 0; have GbX1 : ∀ y : Xt (w8), y.W.cell? ⟨w.heap.size + 1, 1, none⟩ = some (.slice A2 n c2) := fun y => (Gb.ext y.x).cell 1
      (refine ord_flo (pick_cons rfl (pick_cons rfl (pick_cons rfl (pick_cons rfl (pick_cons rfl (pick_cons rfl (pick_cons rfl (pick_cons rfl (pick_cons rfl (pick_cons rfl (pick_cons rfl (pick_cons rfl (pick_cons rfl (pick_cons rfl (pick_cons rfl (pick_cons rfl (pick_cons rfl pick_nil))))))))))))))))) ?_; (repeat (go_big_quiet_step (fail))); refine wpQuiet_nil ?_; show ordWalk _ _ _ _ _ _ _)
      refine ord_one (pick_cons rfl pick_nil) ?_; intro K_ hK_
      go_wp2_with fail
      (refine ord_flo (pick_cons rfl (pick_cons rfl (pick_cons rfl (pick_cons rfl (pick_cons rfl (pick_cons rfl (pick_cons rfl (pick_cons rfl (pick_cons rfl (pick_cons rfl pick_nil)))))))))) ?_; (repeat (go_big_quiet_step (fail))); refine wpQuiet_nil ?_; show ordWalk _ _ _ _ _ _ _)
      refine ord_ext (pick_cons rfl pick_nil) ?_; intro K_ hK_
      go_wp2_with fail
      refine ordNext.mk (Ext.refl _) ?_
      (refine ord_pur (pick_cons rfl pick_nil) ?_; (repeat (go_big_quiet_step (fail))); refine wpQuiet_nil ?_; show ordWalk _ _ _ _ _ _ _)
      refine ord_one (pick_cons rfl pick_nil) ?_; intro K_ hK_
      go_wp2_with (refine (cmp_at e1 e2 A1 A2 n n c1 c2 l1 l2 _ Hcv (s1.ext E8) (s2.ext E8)).mono ?_; rintro r w9 ⟨rfl, x9⟩)
      (refine ord_flo (pick_cons rfl (pick_cons rfl (pick_cons rfl (pick_cons rfl pick_nil)))) ?_; (repeat (go_big_quiet_step (fail))); refine wpQuiet_nil ?_; show ordWalk _ _ _ _ _ _ _)
      refine ord_fin ?_
      go_wp2_with fail
      go_meet
      case rel => exact ⟨rfl, (X.trans x8).trans x9⟩
    · rcases hbc with ⟨rfl | ⟨rfl, rfl⟩, ⟨rfl, hz2⟩ | ⟨rfl, hz2⟩⟩
      all_goals
        refine wp_region_ord [0,0,3,7,15,31,63,127,255,511,1023,2047,4095,8191,16383,32767,65535,131071,262143,262143,1048575,2097151,4194303,8388607,16777215,33554431,67108863,134217727,134217727,536870911,1073741823,33554431,33554431,7516192767,16106127359,34359738367,68719476735,137438953471] (.flo [0,1] (.one 2 (.flo [3,4,5,6,7,8,9,10,11,12,13,14,15,16,17,18,19] (.one 20 (.flo [21,22,23,24,25,26,27,28,31,32] (.ext 29 (.pur [30] (.one 33 (.flo [34,35,36,37] (.fin)))))))))) (by kernel_rfl) (by kernel_rfl) (by intro _ _ d _ _ h; cases d <;> exact h) ?_
        (refine ord_flo (pick_cons rfl (pick_cons rfl pick_nil)) ?_; (repeat (go_big_quiet_step (fail))); refine wpQuiet_nil ?_; show ordWalk _ _ _ _ _ _ _)
        refine ord_one (pick_cons rfl pick_nil) ?_; intro K_ hK_
        go_wp2_with (refine (leq_at e1 e1 A1 A1 n n c1 c1 l1 l1 _ Haa (s1.ext (E7.trans X)) (s1.ext (E7.trans X))).mono ?_; rintro r w8 ⟨rfl, x8⟩)
        have Ga := (Fa.ext X).ext x8
        have Gb := (Fb.ext X).ext x8
        have E8 := (E7.trans X).trans x8
        have GaX0 : ∀ y : Xt (w8), y.W.cell? ⟨w.heap.size, 0, none⟩ = some (.int .u64 (e1)) := fun y => (Ga.ext y.x).cell 0; have GaX1 : ∀ y : Xt (w8), y.W.cell? ⟨w.heap.size, 1, none⟩ = some (.slice A1 n c1) := fun y => (Ga.ext y.x).cell 1
        have GbX0 : ∀ y : Xt (w8), y.W.cell? ⟨w.heap.size + 1, 0, none⟩ = some (.int .u64 (e2)) := fun y => (Gb.ext y.x).cell 0; have GbX1 : ∀ y : Xt (w8), y.W.cell? ⟨w.heap.size + 1, 1, none⟩ = some (.slice A2 n c2) := fun y => (Gb.ext y.x).cell 1
        (refine ord_flo (pick_cons rfl (pick_cons rfl (pick_cons rfl (pick_cons rfl (pick_cons rfl (pick_cons rfl (pick_cons rfl (pick_cons rfl (pick_cons rfl (pick_cons rfl (pick_cons rfl (pick_cons rfl (pick_cons rfl (pick_cons rfl (pick_cons rfl (pick_cons rfl (pick_cons rfl pick_nil))))))))))))))))) ?_; (repeat (go_big_quiet_step (fail))); refine wpQuiet_nil ?_; show ordWalk _ _ _ _ _ _ _)
        refine ord_one (pick_cons rfl pick_nil) ?_; intro K_ hK_
        go_wp2_with (refine (cmp_at e1 e2 A1 A2 n n c1 c2 l1 l2 _ Hcv (s1.ext E8) (s2.ext E8)).mono ?_; rintro r w9 ⟨rfl, x9⟩)
        have Ha := Ga.ext x9
        have Hb := Gb.ext x9
        have E9 := E8.trans x9
        have HaX0 : ∀ y : Xt (w9), y.W.cell? ⟨w.heap.size, 0, none⟩ = some (.int .u64 (e1)) := fun y => (Ha.ext y.x).cell 0; have HaX1 : ∀ y : Xt (w9), y.W.cell? ⟨w.heap.size, 1, none⟩ = some (.slice A1 n c1) := fun y => (Ha.ext y.x).cell 1
        have HbX0 : ∀ y : Xt (w9), y.W.cell? ⟨w.heap.size + 1, 0, none⟩ = some (.int .u64 (e2)) := fun y => (Hb.ext y.x).cell 0; have HbX1 : ∀ y : Xt (w9), y.W.cell? ⟨w.heap.size + 1, 1, none⟩ = some (.slice A2 n c2) := fun y => (Hb.ext y.x).cell 1
        (refine ord_flo (pick_cons rfl (pick_cons rfl (pick_cons rfl (pick_cons rfl (pick_cons rfl (pick_cons rfl (pick_cons rfl (pick_cons rfl (pick_cons rfl (pick_cons rfl pick_nil)))))))))) ?_; (repeat (go_big_quiet_step (fail))); refine wpQuiet_nil ?_; show ordWalk _ _ _ _ _ _ _)
        refine ord_ext (pick_cons rfl pick_nil) ?_; intro K_ hK_
        go_wp2_with (refine (leq_at e2 e1 A2 A1 n n c2 c1 l2 l1 _ Hba (s2.ext E9) (s1.ext E9)).mono ?_; rintro r w10 ⟨rfl, x10⟩)
        refine ordNext.mk x10 ?_
        (refine ord_pur (pick_cons rfl pick_nil) ?_; (repeat (go_big_quiet_step (fail))); refine wpQuiet_nil ?_; show ordWalk _ _ _ _ _ _ _)
        refine ord_one (pick_cons rfl pick_nil) ?_; intro K_ hK_
        go_wp2_with (refine (cmp_at e1 e2 A1 A2 n n c1 c2 l1 l2 _ Hcv (s1.ext (E9.trans x10)) (s2.ext (E9.trans x10))).mono ?_; rintro r w11 ⟨rfl, x11⟩)
        (refine ord_flo (pick_cons rfl (pick_cons rfl (pick_cons rfl (pick_cons rfl pick_nil)))) ?_; (repeat (go_big_quiet_step (fail))); refine wpQuiet_nil ?_; show ordWalk _ _ _ _ _ _ _)
        refine ord_fin ?_
        go_wp2_with fail
        go_meet
        case rel => exact ⟨rfl, (((X.trans x8).trans x9).trans x10).trans x11⟩
  case rest =>
    obtain ⟨rfl, x8⟩ := hcut
    have Ga := Fa.ext x8
    have Gb := Fb.ext x8
    have Gc := Fc.ext x8
    have Gj := Fj.ext x8
    have Gm := Fm.ext x8
    have sj8 := sj7.ext x8
    have sm8 := sm7.ext x8
    have E8 := E7.trans x8
    clear K12 Haa Hba Hcv Hab Hbc Hac Fa Fb Fc Fj Fm sj7 sm7 x8 E7
    have Ga0 : wc.cell? ⟨w.heap.size, 0, none⟩ = some (.int .u64 (e1)) := Ga.cell 0; have Ga1 : wc.cell? ⟨w.heap.size, 1, none⟩ = some (.slice A1 n c1) := Ga.cell 1
    have Gj0 : wc.cell? ⟨w3.heap.size, 0, none⟩ = some (.int .u64 (max e1 e2)) := Gj.cell 0; have Gj1 : wc.cell? ⟨w3.heap.size, 1, none⟩ = some (.slice Aj n cj) := Gj.cell 1
    have m8 : True := trivial
    go_upto_region 14 with (first
      | (have z := m8; clear z m8; go_at_call 27; refine (leq_at e1 (max e1 e2) A1 Aj n n c1 cj l1 (List.zipWith max l1 l2) _ Haj (s1.ext E8) sj8).mono ?_; rintro r w9 ⟨rfl, x9⟩; have Ja := Ga.ext x9; have Jb := Gb.ext x9; have Jc := Gc.ext x9; have Jj := Gj.ext x9; have Jm := Gm.ext x9; have sj9 := sj8.ext x9; have sm9 := sm8.ext x9; have E9 : Ext w w9 := E8.trans x9; clear x9; have Jb0 : w9.cell? ⟨w.heap.size + 1, 0, none⟩ = some (.int .u64 (e2)) := Jb.cell 0; have Jb1 : w9.cell? ⟨w.heap.size + 1, 1, none⟩ = some (.slice A2 n c2) := Jb.cell 1; have Jj0 : w9.cell? ⟨w3.heap.size, 0, none⟩ = some (.int .u64 (max e1 e2)) := Jj.cell 0; have Jj1 : w9.cell? ⟨w3.heap.size, 1, none⟩ = some (.slice Aj n cj) := Jj.cell 1; have m9 : True := trivial)
      | (have z := m9; clear z m9; go_at_call 27; refine (leq_at e2 (max e1 e2) A2 Aj n n c2 cj l2 (List.zipWith max l1 l2) _ Hbj (s2.ext E9) sj9).mono ?_; rintro r w10 ⟨rfl, x10⟩; have La := Ja.ext x10; have Lb := Jb.ext x10; have Lc := Jc.ext x10; have Lj := Jj.ext x10; have Lm := Jm.ext x10; have sj10 := sj9.ext x10; have sm10 := sm9.ext x10; have E10 : Ext w w10 := E9.trans x10; clear x10; have La0 : w10.cell? ⟨w.heap.size, 0, none⟩ = some (.int .u64 (e1)) := La.cell 0; have La1 : w10.cell? ⟨w.heap.size, 1, none⟩ = some (.slice A1 n c1) := La.cell 1; have Lm0 : w10.cell? ⟨w4.heap.size, 0, none⟩ = some (.int .u64 (min e1 e2)) := Lm.cell 0; have Lm1 : w10.cell? ⟨w4.heap.size, 1, none⟩ = some (.slice Am n cm') := Lm.cell 1; have m10 : True := trivial)
      | (have z := m10; clear z m10; go_at_call 27; refine (leq_at (min e1 e2) e1 Am A1 n n cm' c1 (List.zipWith min l1 l2) l1 _ Hma sm10 (s1.ext E10)).mono ?_; rintro r w11 ⟨rfl, x11⟩; have Ma := La.ext x11; have Mb := Lb.ext x11; have Mc := Lc.ext x11; have Mj := Lj.ext x11; have Mm := Lm.ext x11; have sj11 := sj10.ext x11; have sm11 := sm10.ext x11; have E11 : Ext w w11 := E10.trans x11; clear x11; have Mb0 : w11.cell? ⟨w.heap.size + 1, 0, none⟩ = some (.int .u64 (e2)) := Mb.cell 0; have Mb1 : w11.cell? ⟨w.heap.size + 1, 1, none⟩ = some (.slice A2 n c2) := Mb.cell 1; have Mm0 : w11.cell? ⟨w4.heap.size, 0, none⟩ = some (.int .u64 (min e1 e2)) := Mm.cell 0; have Mm1 : w11.cell? ⟨w4.heap.size, 1, none⟩ = some (.slice Am n cm') := Mm.cell 1; have m11 : True := trivial)
      | (have z := m11; clear z m11; go_at_call 27; refine (leq_at (min e1 e2) e2 Am A2 n n cm' c2 (List.zipWith min l1 l2) l2 _ Hmb sm11 (s2.ext E11)).mono ?_; rintro r w12 ⟨rfl, x12⟩; have Na := Ma.ext x12; have Nb := Mb.ext x12; have Nc := Mc.ext x12; have Nj := Mj.ext x12; have Nm := Mm.ext x12; have sj12 := sj11.ext x12; have sm12 := sm11.ext x12; have E12 : Ext w w12 := E11.trans x12; clear x12)
      | fail)
    have G4 := K14.out
    have G5 := K15.out
    rcases G5 with ⟨rfl, rfl⟩ | G5
    · rcases G4 with ⟨rfl, rfl⟩ | ⟨rfl, rfl, rfl⟩ | ⟨rfl, rfl, rfl⟩
      all_goals
        have X : Ext w12 w12.drew := (Ext.refl w12).drew
        have Pc := Nc.ext X
        have Pj := Nj.ext X
        have PcX0 : ∀ y : Xt (w12.drew), y.W.cell? ⟨w.heap.size + 1 + 1, 0, none⟩ = some (.int .u64 (e3)) := fun y => (Pc.ext y.x).cell 0; have PcX1 : ∀ y : Xt (w12.drew), y.W.cell? ⟨w.heap.size + 1 + 1, 1, none⟩ = some (.slice A3 n c3) := fun y => (Pc.ext y.x).cell 1
        have PjX0 : ∀ y : Xt (w12.drew), y.W.cell? ⟨w3.heap.size, 0, none⟩ = some (.int .u64 (max e1 e2)) := fun y => (Pj.ext y.x).cell 0; have PjX1 : ∀ y : Xt (w12.drew), y.W.cell? ⟨w3.heap.size, 1, none⟩ = some (.slice Aj n cj) := fun y => (Pj.ext y.x).cell 1
        refine wp_region_ord [0,0,3,0,15,31,63,127,255,511,511,2047,511,511,16383,32767,65535,65535,262143,524287,1048575,2097151,4194303] (.flo [0,1] (.pur [3] (.one 2 (.flo [4,5,6,7,8,9,10,12,13] (.ext 11 (.one 14 (.flo [15,16,17] (.one 18 (.flo [19,20,21,22] (.fin)))))))))) (by kernel_rfl) (by kernel_rfl) (by intro _ _ d _ _ h; cases d <;> exact h) ?_
        (refine ord_flo (pick_cons rfl (pick_cons rfl pick_nil)) ?_; (repeat (go_big_quiet_step (fail))); refine wpQuiet_nil ?_; show ordWalk _ _ _ _ _ _ _)
        (refine ord_pur (pick_cons rfl pick_nil) ?_; (repeat (go_big_quiet_step (fail))); refine wpQuiet_nil ?_; show ordWalk _ _ _ _ _ _ _)
        refine ord_one (pick_cons rfl pick_nil) ?_; intro K_ hK_
        go_wp2_with (refine (leq_at (max e1 e2) e3 Aj A3 n n cj c3 (List.zipWith max l1 l2) l3 _ Hjc (sj12.ext X) (s3.ext (E12.trans X))).mono ?_; rintro r w13 ⟨rfl, x13⟩)
        have Qc := Pc.ext x13
        have Qa := (Na.ext X).ext x13
        have Qm := (Nm.ext X).ext x13
        have E13 := (E12.trans X).trans x13
        have sm13 := (sm12.ext X).ext x13
        have QaX0 : ∀ y : Xt (w13), y.W.cell? ⟨w.heap.size, 0, none⟩ = some (.int .u64 (e1)) := fun y => (Qa.ext y.x).cell 0; have QaX1 : ∀ y : Xt (w13), y.W.cell? ⟨w.heap.size, 1, none⟩ = some (.slice A1 n c1) := fun y => (Qa.ext y.x).cell 1
        have QcX0 : ∀ y : Xt (w13), y.W.cell? ⟨w.heap.size + 1 + 1, 0, none⟩ = some (.int .u64 (e3)) := fun y => (Qc.ext y.x).cell 0; have QcX1 : ∀ y : Xt (w13), y.W.cell? ⟨w.heap.size + 1 + 1, 1, none⟩ = some (.slice A3 n c3) := fun y => (Qc.ext y.x).cell 1
        have QmX0 : ∀ y : Xt (w13), y.W.cell? ⟨w4.heap.size, 0, none⟩ = some (.int .u64 (min e1 e2)) := fun y => (Qm.ext y.x).cell 0; have QmX1 : ∀ y : Xt (w13), y.W.cell? ⟨w4.heap.size, 1, none⟩ = some (.slice Am n cm') := fun y => (Qm.ext y.x).cell 1
        (refine ord_flo (pick_cons rfl (pick_cons rfl (pick_cons rfl (pick_cons rfl (pick_cons rfl (pick_cons rfl (pick_cons rfl (pick_cons rfl (pick_cons rfl pick_nil))))))))) ?_; (repeat (go_big_quiet_step (fail))); refine wpQuiet_nil ?_; show ordWalk _ _ _ _ _ _ _)
        refine ord_ext (pick_cons rfl pick_nil) ?_; intro K_ hK_
        go_wp2_with (refine (leq_at e3 (min e1 e2) A3 Am n n c3 cm' l3 (List.zipWith min l1 l2) _ Hcm (s3.ext E13) sm13).mono ?_; rintro r w14 ⟨rfl, x14⟩)
        refine ordNext.mk x14 ?_
        have E14 := E13.trans x14
        refine ord_one (pick_cons rfl pick_nil) ?_; intro K_ hK_
        go_wp2_with (refine (leq_at e3 e1 A3 A1 n n c3 c1 l3 l1 _ Hca (s3.ext E14) (s1.ext E14)).mono ?_; rintro r w15 ⟨rfl, x15⟩)
        have E15 := E14.trans x15
        have Rb := (((Nb.ext X).ext x13).ext x14).ext x15
        have Rc := (Qc.ext x14).ext x15
        have RbX0 : ∀ y : Xt (w15), y.W.cell? ⟨w.heap.size + 1, 0, none⟩ = some (.int .u64 (e2)) := fun y => (Rb.ext y.x).cell 0; have RbX1 : ∀ y : Xt (w15), y.W.cell? ⟨w.heap.size + 1, 1, none⟩ = some (.slice A2 n c2) := fun y => (Rb.ext y.x).cell 1
        have RcX0 : ∀ y : Xt (w15), y.W.cell? ⟨w.heap.size + 1 + 1, 0, none⟩ = some (.int .u64 (e3)) := fun y => (Rc.ext y.x).cell 0; have RcX1 : ∀ y : Xt (w15), y.W.cell? ⟨w.heap.size + 1 + 1, 1, none⟩ = some (.slice A3 n c3) := fun y => (Rc.ext y.x).cell 1
        (refine ord_flo (pick_cons rfl (pick_cons rfl (pick_cons rfl pick_nil))) ?_; (repeat (go_big_quiet_step (fail))); refine wpQuiet_nil ?_; show ordWalk _ _ _ _ _ _ _)
        refine ord_one (pick_cons rfl pick_nil) ?_; intro K_ hK_
        go_wp2_with fail
        (refine ord_flo (pick_cons rfl (pick_cons rfl (pick_cons rfl (pick_cons rfl pick_nil)))) ?_; (repeat (go_big_quiet_step (fail))); refine wpQuiet_nil ?_; show ordWalk _ _ _ _ _ _ _)
        refine ord_fin ?_
        go_wp2_with fail
        refine bodyPost_ret (v := .bool true) (by simp only [results, Tryd.results6]; go_simp) rfl ?_
        exact ⟨rfl, E15⟩
    · rcases G5 with ⟨rfl, rfl, rfl⟩ | ⟨rfl, rfl, rfl⟩ <;> rcases G4 with ⟨rfl, rfl⟩ | ⟨rfl, rfl, rfl⟩ | ⟨rfl, rfl, rfl⟩
      all_goals
        have X : Ext w12 w12.drew := (Ext.refl w12).drew
        have Pc := Nc.ext X
        have Pj := Nj.ext X
        have PcX0 : ∀ y : Xt (w12.drew), y.W.cell? ⟨w.heap.size + 1 + 1, 0, none⟩ = some (.int .u64 (e3)) := fun y => (Pc.ext y.x).cell 0; have PcX1 : ∀ y : Xt (w12.drew), y.W.cell? ⟨w.heap.size + 1 + 1, 1, none⟩ = some (.slice A3 n c3) := fun y => (Pc.ext y.x).cell 1
        have PjX0 : ∀ y : Xt (w12.drew), y.W.cell? ⟨w3.heap.size, 0, none⟩ = some (.int .u64 (max e1 e2)) := fun y => (Pj.ext y.x).cell 0; have PjX1 : ∀ y : Xt (w12.drew), y.W.cell? ⟨w3.heap.size, 1, none⟩ = some (.slice Aj n cj) := fun y => (Pj.ext y.x).cell 1
        refine wp_region_ord [0,0,3,0,15,31,63,127,255,511,511,2047,511,511,16383,32767,65535,65535,262143,524287,1048575,2097151,4194303] (.flo [0,1] (.pur [3] (.one 2 (.flo [4,5,6,7,8,9,10,12,13] (.ext 11 (.one 14 (.flo [15,16,17] (.one 18 (.flo [19,20,21,22] (.fin)))))))))) (by kernel_rfl) (by kernel_rfl) (by intro _ _ d _ _ h; cases d <;> exact h) ?_
        (refine ord_flo (pick_cons rfl (pick_cons rfl pick_nil)) ?_; (repeat (go_big_quiet_step (fail))); refine wpQuiet_nil ?_; show ordWalk _ _ _ _ _ _ _)
        (refine ord_pur (pick_cons rfl pick_nil) ?_; (repeat (go_big_quiet_step (fail))); refine wpQuiet_nil ?_; show ordWalk _ _ _ _ _ _ _)
        refine ord_one (pick_cons rfl pick_nil) ?_; intro K_ hK_
        go_wp2_with (refine (leq_at (max e1 e2) e3 Aj A3 n n cj c3 (List.zipWith max l1 l2) l3 _ Hjc (sj12.ext X) (s3.ext (E12.trans X))).mono ?_; rintro r w13 ⟨rfl, x13⟩)
        have Qc := Pc.ext x13
        have Qa := (Na.ext X).ext x13
        have Qm := (Nm.ext X).ext x13
        have E13 := (E12.trans X).trans x13
        have sm13 := (sm12.ext X).ext x13
        have QaX0 : ∀ y : Xt (w13), y.W.cell? ⟨w.heap.size, 0, none⟩ = some (.int .u64 (e1)) := fun y => (Qa.ext y.x).cell 0; have QaX1 : ∀ y : Xt (w13), y.W.cell? ⟨w.heap.size, 1, none⟩ = some (.slice A1 n c1) := fun y => (Qa.ext y.x).cell 1
        have QcX0 : ∀ y : Xt (w13), y.W.cell? ⟨w.heap.size + 1 + 1, 0, none⟩ = some (.int .u64 (e3)) := fun y => (Qc.ext y.x).cell 0; have QcX1 : ∀ y : Xt (w13), y.W.cell? ⟨w.heap.size + 1 + 1, 1, none⟩ = some (.slice A3 n c3) := fun y => (Qc.ext y.x).cell 1
        have QmX0 : ∀ y : Xt (w13), y.W.cell? ⟨w4.heap.size, 0, none⟩ = some (.int .u64 (min e1 e2)) := fun y => (Qm.ext y.x).cell 0; have QmX1 : ∀ y : Xt (w13), y.W.cell? ⟨w4.heap.size, 1, none⟩ = some (.slice Am n cm') := fun y => (Qm.ext y.x).cell 1
        (refine ord_flo (pick_cons rfl (pick_cons rfl (pick_cons rfl (pick_cons rfl (pick_cons rfl (pick_cons rfl (pick_cons rfl (pick_cons rfl (pick_cons rfl pick_nil))))))))) ?_; (repeat (go_big_quiet_step (fail))); refine wpQuiet_nil ?_; show ordWalk _ _ _ _ _ _ _)
        refine ord_ext (pick_cons rfl pick_nil) ?_; intro K_ hK_
        go_wp2_with (refine (leq_at e3 (min e1 e2) A3 Am n n c3 cm' l3 (List.zipWith min l1 l2) _ Hcm (s3.ext E13) sm13).mono ?_; rintro r w14 ⟨rfl, x14⟩)
        refine ordNext.mk x14 ?_
        have E14 := E13.trans x14
        refine ord_one (pick_cons rfl pick_nil) ?_; intro K_ hK_
        go_wp2_with (refine (leq_at e3 e1 A3 A1 n n c3 c1 l3 l1 _ Hca (s3.ext E14) (s1.ext E14)).mono ?_; rintro r w15 ⟨rfl, x15⟩)
        have E15 := E14.trans x15
        have Rb := (((Nb.ext X).ext x13).ext x14).ext x15
        have Rc := (Qc.ext x14).ext x15
        have RbX0 : ∀ y : Xt (w15), y.W.cell? ⟨w.heap.size + 1, 0, none⟩ = some (.int .u64 (e2)) := fun y => (Rb.ext y.x).cell 0; have RbX1 : ∀ y : Xt (w15), y.W.cell? ⟨w.heap.size + 1, 1, none⟩ = some (.slice A2 n c2) := fun y => (Rb.ext y.x).cell 1
        have RcX0 : ∀ y : Xt (w15), y.W.cell? ⟨w.heap.size + 1 + 1, 0, none⟩ = some (.int .u64 (e3)) := fun y => (Rc.ext y.x).cell 0; have RcX1 : ∀ y : Xt (w15), y.W.cell? ⟨w.heap.size + 1 + 1, 1, none⟩ = some (.slice A3 n c3) := fun y => (Rc.ext y.x).cell 1
        (refine ord_flo (pick_cons rfl (pick_cons rfl (pick_cons rfl pick_nil))) ?_; (repeat (go_big_quiet_step (fail))); refine wpQuiet_nil ?_; show ordWalk _ _ _ _ _ _ _)
        refine ord_one (pick_cons rfl pick_nil) ?_; intro K_ hK_
        go_wp2_with (refine (leq_at e3 e2 A3 A2 n n c3 c2 l3 l2 _ Hcb (s3.ext E15) (s2.ext E15)).mono ?_; rintro r w16 ⟨rfl, x16⟩)
        (refine ord_flo (pick_cons rfl (pick_cons rfl (pick_cons rfl (pick_cons rfl pick_nil)))) ?_; (repeat (go_big_quiet_step (fail))); refine wpQuiet_nil ?_; show ordWalk _ _ _ _ _ _ _)
        refine ord_fin ?_
        go_wp2_with fail
        refine bodyPost_ret (v := .bool true) (by simp only [results, Tryd.results6]; go_simp) rfl ?_
        exact ⟨rfl, E15.trans x16⟩

theorem order_any (e1 e2 e3 : Int) (A1 A2 A3 : Option Addr) (n1 n2 n3 c1 c2 c3 : Nat) (l1 l2 l3 : List Int) (w : World) (s1 : Sl w 1 A1 n1 c1 (wds l1)) (s2 : Sl w 1 A2 n2 c2 (wds l2)) (s3 : Sl w 1 A3 n3 c3 (wds l3)) (u1 : U32 l1) (u2 : U32 l2) :
    Calls Tryd.prog 6 #[.agg #[.int .u64 e1, .slice A1 n1 c1], .agg #[.int .u64 e2, .slice A2 n2 c2], .agg #[.int .u64 e3, .slice A3 n3 c3]] w fun e w' => e = .returned (.bool true) ∧ Ext w w' := by
  by_cases hm : 40 < n1 ∨ 40 < n2 ∨ 40 < n3
  · exact order_much e1 e2 e3 A1 A2 A3 n1 n2 n3 c1 c2 c3 w hm
  · by_cases hd : n1 = n2 ∧ n2 = n3
    · obtain ⟨rfl, rfl⟩ := hd
      exact order_same e1 e2 e3 A1 A2 A3 n1 c1 c2 c3 l1 l2 l3 w s1 s2 s3 u1 u2 (by omega)
    · exact order_diff e1 e2 e3 A1 A2 A3 n1 n2 n3 c1 c2 c3 l1 l2 l3 w s1 s2 s3 hm hd
end Go.Proofs.YtajnlihlannmeaaDoor
