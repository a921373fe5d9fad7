/- RowOnce: the walk. Conditions: the library's tables stand; the rows are as readings give them. -/
import Derived.Test.YtngeioghihbkeaaDoorRowOnceA
namespace Go.Proofs.YtngeioghihbkeaaDoor
open Go.RowKit

theorem Perm.rot {α : Type} (l : List α) (k : Nat) : (l.drop k ++ l.take k).Perm l := List.perm_append_comm.trans (by rw [List.take_append_drop])
/-- a list made of two others, put one behind the other -/
def Two2 (w w' : World) (A : Option Addr) (c : Nat) (L : List Ct) : Prop := Cin w' A c L ∧ Ext w w'
theorem rot_place (fr : Int) (t : Nat) (h0 : 0 < t) (h : t ≤ 1000) : ∃ q : Nat, wrap64 ((IntKind.u64.wrap fr).tmod (t : Int)) = (q : Int) ∧ q < t := by
  have hu : 0 ≤ IntKind.u64.wrap fr := by simp only [IntKind.wrap_u64]; omega
  generalize IntKind.u64.wrap fr = u at hu ⊢
  have e : u.tmod (t : Int) = u % (t : Int) := Int.tmod_eq_emod_of_nonneg hu
  rw [e]
  have h1 := Int.emod_nonneg u (show (t : Int) ≠ 0 by omega)
  have h2 := Int.emod_lt_of_pos u (show 0 < (t : Int) by omega)
  refine ⟨(u % (t : Int)).toNat, ?_, by omega⟩
  rw [Int.toNat_of_nonneg h1]
  generalize u % (t : Int) = r at h1 h2 ⊢
  unfold wrap64
  omega
theorem rot_cin {w w' : World} {P t q c4 d : Nat} {A4 B : Option Addr} {L : List Ct} (o : Own w' P 32 2 A4 (t - q + q) c4 (ctsC (L.drop q) ++ ctsC (L.take q))) (h : Cin w B d L) (hn : t = L.length) (hq : q ≤ t) (X : Ext w w') : Cin w' A4 c4 (L.drop q ++ L.take q) :=
  cin_app2 o (by rw [List.length_drop, hn]) (by rw [List.length_take]; omega) (fun x hx => (h.rows x (List.mem_of_mem_drop hx)).ext X) (fun x hx => (h.rows x (List.mem_of_mem_take hx)).ext X)
theorem sumTo_lenV (D : List V) : (sumAll D).length ≤ D.length := by
  refine snoc_ind (p := fun D => (sumAll D).length ≤ D.length) (Nat.le_refl 0) (fun l x ih => ?_) D
  unfold sumAll at ih ⊢
  rw [List.foldl_append]
  show (addV (l.foldl addV []) x).length ≤ _
  have := addV_len (l.foldl addV []) x
  rw [List.length_append, List.length_singleton]
  omega
theorem sumV_len (D : List V) : (sumV D).length ≤ D.length := by
  unfold sumV
  refine Nat.le_trans (List.length_filter_le _ _) ?_
  have := sumTo_lenV D
  omega
/-- what a sum's rows are like -/
theorem once_facts {L R : List Ct} (h : AllOk L) (hv : R.map valC = sumV (L.map valC)) : (∀ i, i + 1 < R.length → cmpR (R.getD i Ct.zero).l (R.getD (i + 1) Ct.zero).l < 0) ∧ ∀ x ∈ R, (x.k == 0) = false := by
  have hs := (sumV_spec h.inv).1
  rw [← hv] at hs
  refine ⟨fun i hi => ?_, fun x hx => ?_⟩
  · have := List.pairwise_iff_getElem.1 hs i (i + 1) (by rw [List.length_map]; omega) (by rw [List.length_map]; exact hi) (Nat.lt_succ_self i)
    rw [List.getElem_map, List.getElem_map] at this
    rw [List.getD_eq_getElem?_getD, List.getD_eq_getElem?_getD, List.getElem?_eq_getElem (by omega), List.getElem?_eq_getElem hi]
    exact this
  · have : valC x ∈ sumV (L.map valC) := by rw [← hv]; exact List.mem_map.2 ⟨x, hx, rfl⟩
    have := (sumV_mem h.inv this).2.1
    have e : (valC x).2 = x.k := rfl
    simpa [nzV, e] using this
set_option maxRecDepth 100000 in
set_option maxHeartbeats 1200000 in
theorem rowOnce_any (A B : Option Addr) (c d : Nat) (L M : List Ct) (fr : Int) (w : World) (h : Cin w A c L) (h2 : Cin w B d M) (hin : InL L) (hin2 : InL M) (G : Good w) (hfr : -9223372036854775808 ≤ fr ∧ fr ≤ 9223372036854775807) :
    Calls Tryd.prog 5 #[.slice A L.length c, .slice B M.length d, .int .i64 fr] w fun e w' => e = .returned (.bool true) ∧ Ext w w' := by
  obtain ⟨n, hn⟩ : ∃ n, n = L.length := ⟨_, rfl⟩
  obtain ⟨m, hm⟩ : ∃ m, m = M.length := ⟨_, rfl⟩
  rw [← hn, ← hm]
  have hcap := h.sl.cap
  have hcap2 := h2.sl.cap
  rw [← hn] at hcap
  rw [← hm] at hcap2
  obtain ⟨k1, hk1⟩ : ∃ k, k = min n 300 := ⟨_, rfl⟩
  obtain ⟨k2, hk2⟩ : ∃ k, k = min m 300 := ⟨_, rfl⟩
  have hkn : k1 ≤ n := by omega
  have hk3 : k1 ≤ 300 := by omega
  have hki : min (n : Int) 300 = (k1 : Int) := by omega
  have hkm : k2 ≤ m := by omega
  have hk4 : k2 ≤ 300 := by omega
  have hkj : min (m : Int) 300 = (k2 : Int) := by omega
  obtain ⟨L1, hL1⟩ : ∃ L1, L1 = L.take k1 := ⟨_, rfl⟩
  obtain ⟨M1, hM1⟩ : ∃ M1, M1 = M.take k2 := ⟨_, rfl⟩
  have HN1 : Hid (k1 = L1.length) := Lib.hid (by rw [hL1, List.length_take]; omega)
  have HM1 : Hid (k2 = M1.length) := Lib.hid (by rw [hM1, List.length_take]; omega)
  have H1 : Hid (Cin w A c L1) := Lib.hid (by rw [hL1]; exact h.takeC (by omega))
  have H2 : Hid (Cin w B d M1) := Lib.hid (by rw [hM1]; exact h2.takeC (by omega))
  have HI1 : Hid (InL L1) := Lib.hid (by rw [hL1]; exact fun x hx => hin x (List.mem_of_mem_take hx))
  have HI2 : Hid (InL M1) := Lib.hid (by rw [hM1]; exact fun x hx => hin2 x (List.mem_of_mem_take hx))
  have HT1 : Hid (∀ x ∈ L1, RwTxt x.l) := Lib.hid (fun x hx => (HI1.out x hx).1.txt)
  have HT2 : Hid (∀ x ∈ M1, RwTxt x.l) := Lib.hid (fun x hx => (HI2.out x hx).1.txt)
  have XR := Ext.refl w
  have m1 : True := trivial
  clear hn hm h h2 hin hin2 hk1 hk2 hL1 hM1
  by_cases hp1 : OkAll L1
  · have HB1 : Hid (OkAll L1) := Lib.hid hp1
    have HO1 : Hid (AllOk L1) := Lib.hid ⟨HI1.out, hp1⟩
    clear hp1
    by_cases hp2 : OkAll M1
    · have HB2 : Hid (OkAll M1) := Lib.hid hp2
      have HO2 : Hid (AllOk M1) := Lib.hid ⟨HI2.out, hp2⟩
      have HOA := Lib.hid (HO1.out.app HO2.out)
      have hfr1 := hfr.1
      have hfr2 := hfr.2
      clear hp2 hfr
      go_enter Tryd.func5, Tryd.ntmps5
      go_upto_region 9 with (first
        | (go_at_call 22; have mk := m1; clear m1 mk; go_loud (refine (plain_t A c k1 L1 _ HB1 HN1 (Lib.hid (H1.out.ext XR)) HT1 (G.ext XR)).mono ?_); rintro e w1 ⟨rfl, x1⟩; have X1 := Ext.trans XR x1; have m2 : True := trivial)
        | (go_at_call 22; have mk := m2; clear m2 mk; go_loud (refine (plain_t B d k2 M1 _ HB2 HM1 (Lib.hid (H2.out.ext X1)) HT2 (G.ext X1)).mono ?_); rintro e w2 ⟨rfl, x2⟩; have X2 := Ext.trans X1 x2; have m3 : True := trivial)
        | (at_builtin; have mk := m3; clear m3 mk; go_loud (refine wpList_append_two _ elem_ct w2.heap.size _ _ rfl rfl none 0 0 [] rfl (Own.nil _ _ _ _) A k1 c (ctsC L1) rfl (by have := (H1.out.ext X2).sl; rwa [← HN1.out] at this) (ctsC_one _) (by omega) (by decide) (Nat.le_refl _) ?_); intro A3 c3 w3 o3 g3 h3; clear h3; have y3 : Ext w2 w3 := Ext.grown (Ext.refl _) g3 (fun k e => nomatch e); have X3 := Ext.trans X2 y3; have O3 : Hid (Own w3 w2.heap.size 32 2 A3 k1 c3 (ctsC L1)) := Lib.hid (by have := o3; rwa [Nat.zero_add, List.nil_append] at this); clear o3 g3; have m4 : True := trivial)
        | (at_builtin; have mk := m4; clear m4 mk; go_loud (refine wpList_append_two _ elem_ct w2.heap.size _ _ rfl rfl A3 k1 c3 (ctsC L1) rfl O3.out B k2 d (ctsC M1) rfl (by have := (H2.out.ext X3).sl; rwa [← HM1.out] at this) (ctsC_one _) (by omega) (by decide) y3.size ?_); intro A4 c4 w4 o4 g4 h4; clear h4; go_loud (have y4 : Ext w2 w4 := Ext.grown y3 g4 (fun k e => (O3.out.lt k e).1)); go_loud (have X4 := Ext.trans X2 y4); have HNA : Hid (k1 + k2 = (L1 ++ M1).length) := Lib.hid (by rw [List.length_append, ← HN1.out, ← HM1.out]); go_loud (have HCA : Hid (Cin w4 A4 c4 (L1 ++ M1)) := Lib.hid (cin_app o4 HN1.out HM1.out H1.out H2.out X4)); clear o4 g4; have m5 : True := trivial)
        | (go_at_call 18; have mk := m5; clear m5 mk; refine (sum_lit2 A4 c4 (k1 + k2) (L1 ++ M1) _ HNA (by omega) HCA (Lib.hid HOA.out.inc) (G.ext X4)).mono ?_; rintro e w5 hs; obtain ⟨A5, n5, c5, R5, rfl, e5, hc5, hv5, x5⟩ := hs.cin; have HE5 := Lib.hid e5; have HC5 := Lib.hid hc5; have HV5 := Lib.hid hv5; have X5 := X4.trans x5; have HCA5 := Lib.hid (HCA.out.ext x5); have hn5 : n5 ≤ 9223372036854775807 := (by have := hc5.sl.le; omega); clear hs e5 hc5 hv5; have m6 : True := trivial))
      go_wp2
      go_loopg [9] n5 (fun z v wr => ∃ i : Nat, z = n5 - i ∧ i ≤ n5 ∧ v = .int .i64 i ∧ Ext w5 wr)
      case atStart => exact ⟨0, rfl, Nat.zero_le _, rfl, Ext.refl _⟩
      case round =>
        obtain ⟨i, rfl, hi, rfl, er⟩ := hrel
        obtain ⟨hs5, hz5⟩ := once_facts HOA.out HV5.out
        by_cases hlt : i < n5
        · have hil : i < R5.length := by rw [← HE5.out]; exact hlt
          have hcells := (HC5.out.ext er).at hil
          have hm := getD_mem hil
          have hzi := hz5 _ hm
          obtain ⟨x, hx⟩ : ∃ x, R5.getD i Ct.zero = x := ⟨_, rfl⟩
          rw [hx] at hcells hm hzi
          obtain ⟨ad, eA, p0, p1⟩ := hcells
          subst eA
          obtain ⟨nx, hnx⟩ : ∃ nx, nx = x.l.length := ⟨_, rfl⟩
          rw [← hnx] at p0
          have XE : Ext wr wr.drew := (Ext.refl wr).drew
          have HRX := Lib.hid (((HC5.out.rows x hm).ext er).ext XE)
          have HNX := Lib.hid hnx
          have P0 : ∀ z : Xt wr.drew, z.W.cell? (ad.add (i * 2)) = some (.slice x.A nx x.c) := fun z => (XE.trans z.x).cell p0
          have P1 : ∀ z : Xt wr.drew, z.W.cell? ⟨(ad.add (i * 2)).block, (ad.add (i * 2)).off + 1, none⟩ = some (.int .i64 x.k) := fun z => (XE.trans z.x).cell p1
          rcases Nat.eq_zero_or_pos i with hi0 | hi0
          · have hi1 : ¬ 0 < i := by omega
            clear hil hm hx hnx hs5 hz5 hi0
            go_upto_region 12 with fail
            refine wp_region_ord [0,0,3,7,15,31,63,127,255,511,1023,1023,3071,8191,16383,32767,1023,1023,197631,459775,984063,2097151,4194303,8388607,16777215] (.flo [0,1,2,3,4,5,6,7,8,9,10,11,12,13,14,15,16,17,18,19,20] (.one 21 (.flo [22,23,24] (.fin)))) (by kernel_rfl) (by kernel_rfl) (by intro _ _ d _ _ h; cases d <;> exact h) ?_
            (refine ord_flo (pick_cons rfl (pick_cons rfl (pick_cons rfl (pick_cons rfl (pick_cons rfl (pick_cons rfl (pick_cons rfl (pick_cons rfl (pick_cons rfl (pick_cons rfl (pick_cons rfl (pick_cons rfl (pick_cons rfl (pick_cons rfl (pick_cons rfl (pick_cons rfl (pick_cons rfl (pick_cons rfl (pick_cons rfl (pick_cons rfl (pick_cons rfl pick_nil))))))))))))))))))))) ?_; (repeat (go_big_quiet_step (fail))); refine wpQuiet_nil ?_; show ordWalk _ _ _ _ _ _ _)
            refine ord_one (pick_cons rfl pick_nil) ?_; intro K_ hK_
            go_wp2
            (refine ord_flo (pick_cons rfl (pick_cons rfl (pick_cons rfl pick_nil))) ?_; (repeat (go_big_quiet_step (fail))); refine wpQuiet_nil ?_; show ordWalk _ _ _ _ _ _ _)
            refine ord_fin ?_
            go_wp2
            go_roundg (n5 - (i + 1))
            case measure => omega
            case rel => exact ⟨i + 1, rfl, by omega, by go_num, er.trans XE⟩
          · obtain ⟨j, hj⟩ : ∃ j, j = i - 1 := ⟨_, rfl⟩
            have hj1 : (i : Int) - 1 = (j : Int) := by omega
            have hji : i = j + 1 := by omega
            have hjn : j < n5 := by omega
            obtain ⟨ad', eA', q0, q1⟩ := (HC5.out.ext er).at (i := j) (by omega)
            obtain rfl : ad = ad' := by injection eA'
            have hmy := getD_mem (L := R5) (i := j) (by omega)
            have hv := hs5 j (by omega)
            rw [← hji, hx] at hv
            obtain ⟨y, hy⟩ : ∃ y, R5.getD j Ct.zero = y := ⟨_, rfl⟩
            rw [hy] at q0 q1 hmy hv
            obtain ⟨ny, hny⟩ : ∃ ny, ny = y.l.length := ⟨_, rfl⟩
            rw [← hny] at q0
            obtain ⟨v, hvv⟩ : ∃ v, cmpR y.l x.l = v := ⟨_, rfl⟩
            rw [hvv] at hv
            have zv : decide (0 ≤ v) = false := decide_eq_false (by omega)
            have HV := Lib.hid hvv
            have HRY := Lib.hid (((HC5.out.rows y hmy).ext er).ext XE)
            have HNY := Lib.hid hny
            have Q0 : ∀ z : Xt wr.drew, z.W.cell? (ad.add (j * 2)) = some (.slice y.A ny y.c) := fun z => (XE.trans z.x).cell q0
            clear hil hm hx hnx hs5 hz5 hj hji eA' hmy hy hny hvv
            go_upto_region 12 with fail
            refine wp_region_ord [0,0,3,7,15,31,63,127,255,511,1023,1023,3071,8191,16383,32767,1023,1023,197631,459775,984063,2097151,4194303,8388607,16777215] (.flo [0,1,2,3,4,5,6,7,8,9,10,11,12,13,14,15,16,17,18,19,20] (.one 21 (.flo [22,23,24] (.fin)))) (by kernel_rfl) (by kernel_rfl) (by intro _ _ d _ _ h; cases d <;> exact h) ?_
            (refine ord_flo (pick_cons rfl (pick_cons rfl (pick_cons rfl (pick_cons rfl (pick_cons rfl (pick_cons rfl (pick_cons rfl (pick_cons rfl (pick_cons rfl (pick_cons rfl (pick_cons rfl (pick_cons rfl (pick_cons rfl (pick_cons rfl (pick_cons rfl (pick_cons rfl (pick_cons rfl (pick_cons rfl (pick_cons rfl (pick_cons rfl (pick_cons rfl pick_nil))))))))))))))))))))) ?_; (repeat (go_big_quiet_step (fail))); refine wpQuiet_nil ?_; show ordWalk _ _ _ _ _ _ _)
            refine ord_one (pick_cons rfl pick_nil) ?_; intro K_ hK_
            go_wp2_with (go_at_call 14; refine (rowCmp_lit y.A x.A y.c x.c ny nx y.l x.l _ HV HNY HNX HRY HRX).mono ?_; rintro e w6 ⟨rfl, x6⟩)
            (refine ord_flo (pick_cons rfl (pick_cons rfl (pick_cons rfl pick_nil))) ?_; (repeat (go_big_quiet_step (fail))); refine wpQuiet_nil ?_; show ordWalk _ _ _ _ _ _ _)
            refine ord_fin ?_
            go_wp2
            go_roundg (n5 - (i + 1))
            case measure => omega
            case rel => exact ⟨i + 1, rfl, by omega, by go_num, er.trans (XE.trans x6)⟩
        · obtain rfl : i = n5 := by omega
          clear hs5 hz5
          have HIX : Hid (∀ x ∈ R5, InC x) := Lib.hid (HOA.out.sum HV5.out).inc
          have X5r := X5.trans er
          have HA6 := Lib.hid (H1.out.ext X5r)
          have mz0 : True := trivial
          obtain ⟨w6, hw6⟩ : ∃ w6 : World, w6 = wr := ⟨_, rfl⟩
          rw [← hw6] at X5r HA6 er ⊢
          clear hw6
          go_upto_region 18 with (first
            | (go_at_call 18; have mk := mz0; clear mz0 mk; refine (sum_lit2 A c k1 L1 _ HN1 (by omega) HA6 (Lib.hid HO1.out.inc) (G.ext X5r)).mono ?_; rintro e w7 hs; obtain ⟨A7, n7, c7, R7, rfl, e7, hc7, hv7, x7⟩ := hs.cin; have X7 := X5r.trans x7; have HE7 := Lib.hid e7; have HC7 := Lib.hid hc7; have HV7 := Lib.hid hv7; have hn7 : n7 ≤ 300 := (by rw [e7, ← List.length_map (f := valC), hv7]; have := sumV_len (L1.map valC); rw [List.length_map, ← HN1.out] at this; omega); clear hs e7 hc7 hv7; have mz1 : True := trivial)
            | (at_builtin; have mk := mz1; clear mz1 mk; go_loud (refine wpList_append_two _ elem_ct w7.heap.size _ _ rfl rfl none 0 0 [] rfl (Own.nil _ _ _ _) A7 n7 c7 (ctsC R7) rfl (by have := HC7.out.sl; rwa [← HE7.out] at this) (ctsC_one _) (by omega) (by decide) (Nat.le_refl _) ?_); intro A8 c8 w8 o8 g8 h8; clear h8; have y8 : Ext w7 w8 := Ext.grown (Ext.refl _) g8 (fun k e => nomatch e); have X8 := Ext.trans X7 y8; have O8 : Hid (Own w8 w7.heap.size 32 2 A8 n7 c8 (ctsC R7)) := Lib.hid (by have := o8; rwa [Nat.zero_add, List.nil_append] at this); have HB8 := Lib.hid (H2.out.ext X8); clear o8 g8; have mz2 : True := trivial)
            | (go_at_call 18; have mk := mz2; clear mz2 mk; refine (sum_lit2 B d k2 M1 _ HM1 (by omega) HB8 (Lib.hid HO2.out.inc) (G.ext X8)).mono ?_; rintro e w9 hs; obtain ⟨A9, n9, c9, R9, rfl, e9, hc9, hv9, x9, hr9⟩ := hs.cin2; have HR9 := Lib.hid hr9; clear hr9; have X9 := X8.trans x9; have HE9 := Lib.hid e9; have HC9 := Lib.hid hc9; have HV9 := Lib.hid hv9; have O9 := Lib.hid (O8.out.ext x9); have hn9 : n9 ≤ 300 := (by rw [e9, ← List.length_map (f := valC), hv9]; have := sumV_len (M1.map valC); rw [List.length_map, ← HM1.out] at this; omega); clear hs e9 hc9 hv9; have mz3 : True := trivial)
            | (at_builtin; have mk := mz3; clear mz3 mk; go_loud (refine wpList_append_two _ elem_ct w7.heap.size _ _ rfl rfl A8 n7 c8 (ctsC R7) rfl O9.out A9 n9 c9 (ctsC R9) rfl (by have := HC9.out.sl; rwa [← HE9.out] at this) (ctsC_one _) (by omega) (by decide) (Ext.size (y8.trans x9)) ?_); intro Aa ca wa oa ga ha; clear ha; have ya : Ext w7 wa := Ext.grown (y8.trans x9) ga (fun k e => (O9.out.lt k e).1); have Xa := Ext.trans X7 ya; have HCP : Hid (Cin wa Aa ca (R7 ++ R9)) := Lib.hid (cin_app2 oa HE7.out HE9.out (fun x hx => (HC7.out.rows x hx).ext ya) (fun x hx => rw_row (HC9.out.rows x hx) ga (fun g e ad e2 => by have q1 := (O8.out.lt g e).2; have q2 := HR9.out x hx ad e2; omega))); have HNP : Hid (n7 + n9 = (R7 ++ R9).length) := Lib.hid (by rw [List.length_append, ← HE7.out, ← HE9.out]); clear oa ga; have mz4 : True := trivial))
          have HVP : Hid (sumV ((R7 ++ R9).map valC) = R5.map valC) := Lib.hid (by
            rw [List.map_append, HV7.out, HV9.out, sumV_parts (by rw [← List.map_append]; exact HOA.out.canon) (by rw [← List.map_append]; exact HOA.out.inv), ← List.map_append, HV5.out])
          have HIP : Hid (∀ x ∈ R7 ++ R9, InC x) := Lib.hid ((HO1.out.sum HV7.out).app (HO2.out.sum HV9.out)).inc
          have Y5 : Ext w5 wa := er.trans (x7.trans ya)
          have HCA6 : Hid (Cin wa A4 c4 (L1 ++ M1)) := Lib.hid (HCA5.out.ext Y5)
          have HC5a : Hid (Cin wa A5 c5 R5) := Lib.hid (HC5.out.ext Y5)
          clear HV7 HV9
          rcases Nat.eq_zero_or_pos (k1 + k2) with ht | ht
          · have HT0 : Hid (L1 ++ M1 = []) := Lib.hid (List.eq_nil_of_length_eq_zero (by have := HNA.out; omega))
            have HVT : Hid (sumV (([] : List Ct).map valC) = R5.map valC) := Lib.hid (by rw [HV5.out, HT0.out])
            have ht1 : ¬ 0 < k1 + k2 := by omega
            have hk10 : k1 = 0 := by omega
            have hk20 : k2 = 0 := by omega
            have n1_ : True := trivial
            clear ht
            go_wp2_with (first
              | (go_at_call 13; have mk := n1_; clear n1_ mk; refine (known_true _ (G.ext Xa)).mono ?_; rintro e wk ⟨rfl, xk⟩; have Xk := Ext.trans Xa xk; have HPk := Lib.hid (HCP.out.ext xk); have HSk := Lib.hid (HC5a.out.ext xk); have n2_ : True := trivial)
              | (go_at_call 18; have mk := n2_; clear n2_ mk; refine (sum_lit2 Aa ca (n7 + n9) (R7 ++ R9) _ HNP (by omega) HPk HIP (G.ext Xk)).mono ?_; rintro e wl hs; obtain ⟨Al, nl, cl, Rl, rfl, el, hcl, hvl, xl⟩ := hs.cin; have Xl := Ext.trans Xk xl; have HEl := Lib.hid el; have HCl := Lib.hid hcl; have HVl : Hid (Rl.map valC = R5.map valC) := Lib.hid (hvl.trans HVP.out); have HSl := Lib.hid (HSk.out.ext xl); clear hs el hcl hvl; have n3_ : True := trivial)
              | (go_at_call 19; have mk := n3_; clear n3_ mk; refine (sameCts_lit Al A5 cl c5 nl i Rl R5 _ HEl HE5 HCl HSl HVl).mono ?_; rintro e wm ⟨rfl, xm⟩; have Xm := Ext.trans Xl xm; have HSm := Lib.hid (HSl.out.ext xm); have HTm : Hid (Cin wm none 0 []) := (Lib.hid ⟨Sl.nil _ 2, fun x hx => (nomatch hx)⟩); have n4_ : True := trivial)
              | (go_at_call 18; have mk := n4_; clear n4_ mk; refine (sum_lit2 none 0 0 [] _ (Lib.hid rfl) (by omega) HTm (Lib.hid (fun x hx => (nomatch hx))) (G.ext Xm)).mono ?_; rintro e wn hs; obtain ⟨An, nn, cn, Rn, rfl, en, hcn, hvn, xn⟩ := hs.cin; have Xn := Ext.trans Xm xn; have HEn := Lib.hid en; have HCn := Lib.hid hcn; have HVn : Hid (Rn.map valC = R5.map valC) := Lib.hid (hvn.trans HVT.out); have HSn := Lib.hid (HSm.out.ext xn); clear hs en hcn hvn; have n5_ : True := trivial)
              | (go_at_call 19; have mk := n5_; clear n5_ mk; refine (sameCts_lit An A5 cn c5 nn i Rn R5 _ HEn HE5 HCn HSn HVn).mono ?_; rintro e wz ⟨rfl, xz⟩; have XZ := Ext.trans Xn xz))
            go_ret
            exact ⟨rfl, XZ⟩
          · obtain ⟨q, hq, hqt⟩ := rot_place fr (k1 + k2) ht (by omega)
            have hq2 : wrap64 ((IntKind.u64.wrap fr).tmod ((k1 : Int) + (k2 : Int))) = (q : Int) := by
              have e : ((k1 : Int) + (k2 : Int)) = ((k1 + k2 : Nat) : Int) := by omega
              rw [e]; exact hq
            have hcq := HCA6.out.sl.cap
            rw [List.length_append, ← HN1.out, ← HM1.out] at hcq
            have hc4q : ¬ c4 = q := by omega
            have hqle : q ≤ k1 + k2 := by omega
            have HVT : Hid (sumV (((L1 ++ M1).drop q ++ (L1 ++ M1).take q).map valC) = R5.map valC) := Lib.hid (by
              rw [sumV_perm ((Perm.rot (L1 ++ M1) q).map valC) HOA.out.canon HOA.out.inv, HV5.out])
            have HIT : Hid (∀ x ∈ (L1 ++ M1).drop q ++ (L1 ++ M1).take q, InC x) := Lib.hid (HOA.out.sub (fun x hx => (Perm.rot (L1 ++ M1) q).mem_iff.1 hx)).inc
            have HNT : Hid (k1 + k2 = ((L1 ++ M1).drop q ++ (L1 ++ M1).take q).length) := Lib.hid (by rw [(Perm.rot (L1 ++ M1) q).length_eq, ← HNA.out])
            obtain ⟨ad4, hA4⟩ : ∃ ad, A4 = some ad := by
              obtain ⟨ad, e, _⟩ := HCA6.out.sl.2.2.2.2 (by rw [← HNA.out]; exact ht)
              exact ⟨ad, e⟩
            have HNA2 : Hid (k1 + k2 = (L1 ++ M1).length) := HNA
            subst hA4
            have nA_ : True := trivial
            clear hq
            go_wp2_with (first
              | (at_builtin; have mk := nA_; clear nA_ mk; go_loud (refine wpList_append_two _ elem_ct wa.heap.size _ _ rfl rfl none 0 0 [] rfl (Own.nil _ _ _ _) _ _ _ (ctsC ((L1 ++ M1).drop q)) rfl (HCA6.out.drop2 HNA2.out hqle hc4q) (ctsC_one _) (by omega) (by decide) (Nat.le_refl _) ?_); intro Ab cb wb ob gb hb; clear hb; have yb : Ext wa wb := Ext.grown (Ext.refl _) gb (fun k e => nomatch e); have Ob : Hid (Own wb wa.heap.size 32 2 Ab (k1 + k2 - q) cb (ctsC ((L1 ++ M1).drop q))) := Lib.hid (by have := ob; rwa [Nat.zero_add, List.nil_append] at this); clear ob gb; have nB_ : True := trivial)
              | (at_builtin; have mk := nB_; clear nB_ mk; go_loud (refine wpList_append_two _ elem_ct wa.heap.size _ _ rfl rfl Ab (k1 + k2 - q) cb (ctsC ((L1 ++ M1).drop q)) rfl Ob.out (some ad4) q c4 (ctsC ((L1 ++ M1).take q)) rfl (Sl.ext (HCA6.out.takeS HNA2.out hqle) yb) (ctsC_one _) (by omega) (by decide) yb.size ?_); intro Ac cc wc oc gc hc; clear hc; have yc : Ext wa wc := Ext.grown yb gc (fun k e => (Ob.out.lt k e).1); have Xc := Ext.trans Xa yc; have HCT : Hid (Cin wc Ac cc ((L1 ++ M1).drop q ++ (L1 ++ M1).take q)) := Lib.hid (rot_cin oc HCA6.out HNA2.out hqle yc); have HCc := Lib.hid (HC5a.out.ext yc); have HPc := Lib.hid (HCP.out.ext yc); clear oc gc; have n1_ : True := trivial)
              | (go_at_call 13; have mk := n1_; clear n1_ mk; refine (known_true _ (G.ext Xc)).mono ?_; rintro e wk ⟨rfl, xk⟩; have Xk := Ext.trans Xc xk; have HPk := Lib.hid (HPc.out.ext xk); have HSk := Lib.hid (HCc.out.ext xk); have n2_ : True := trivial)
              | (go_at_call 18; have mk := n2_; clear n2_ mk; refine (sum_lit2 Aa ca (n7 + n9) (R7 ++ R9) _ HNP (by omega) HPk HIP (G.ext Xk)).mono ?_; rintro e wl hs; obtain ⟨Al, nl, cl, Rl, rfl, el, hcl, hvl, xl⟩ := hs.cin; have Xl := Ext.trans Xk xl; have HEl := Lib.hid el; have HCl := Lib.hid hcl; have HVl : Hid (Rl.map valC = R5.map valC) := Lib.hid (hvl.trans HVP.out); have HSl := Lib.hid (HSk.out.ext xl); clear hs el hcl hvl; have n3_ : True := trivial)
              | (go_at_call 19; have mk := n3_; clear n3_ mk; refine (sameCts_lit Al A5 cl c5 nl i Rl R5 _ HEl HE5 HCl HSl HVl).mono ?_; rintro e wm ⟨rfl, xm⟩; have Xm := Ext.trans Xl xm; have HSm := Lib.hid (HSl.out.ext xm); have HTm : Hid (Cin wm Ac cc ((L1 ++ M1).drop q ++ (L1 ++ M1).take q)) := (Lib.hid (HCT.out.ext ((xk.trans xl).trans xm))); have n4_ : True := trivial)
              | (go_at_call 18; have mk := n4_; clear n4_ mk; refine (sum_lit2 Ac cc (k1 + k2) ((L1 ++ M1).drop q ++ (L1 ++ M1).take q) _ HNT (by omega) HTm HIT (G.ext Xm)).mono ?_; rintro e wn hs; obtain ⟨An, nn, cn, Rn, rfl, en, hcn, hvn, xn⟩ := hs.cin; have Xn := Ext.trans Xm xn; have HEn := Lib.hid en; have HCn := Lib.hid hcn; have HVn : Hid (Rn.map valC = R5.map valC) := Lib.hid (hvn.trans HVT.out); have HSn := Lib.hid (HSm.out.ext xn); clear hs en hcn hvn; have n5_ : True := trivial)
              | (go_at_call 19; have mk := n5_; clear n5_ mk; refine (sameCts_lit An A5 cn c5 nn i Rn R5 _ HEn HE5 HCn HSn HVn).mono ?_; rintro e wz ⟨rfl, xz⟩; have XZ := Ext.trans Xn xz))
            go_ret
            exact ⟨rfl, XZ⟩
    · have HB2 : Hid (NotOk M1) := Lib.hid hp2
      clear hp2
      go_enter Tryd.func5, Tryd.ntmps5
      go_wp2_with (first
        | (go_at_call 22; have mk := m1; clear m1 mk; go_loud (refine (plain_t A c k1 L1 _ HB1 HN1 (Lib.hid (H1.out.ext XR)) HT1 (G.ext XR)).mono ?_); rintro e w1 ⟨rfl, x1⟩; have X1 := Ext.trans XR x1; have m2 : True := trivial)
        | (go_at_call 22; have mk := m2; clear m2 mk; go_loud (refine (plain_f B d k2 M1 _ HB2 HM1 (Lib.hid (H2.out.ext X1)) HT2 (G.ext X1)).mono ?_); rintro e w2 ⟨rfl, x2⟩; have X2 := Ext.trans X1 x2; have m3 : True := trivial)
        | (go_at_call 13; have mk := m3; clear m3 mk; refine (known_true _ (G.ext X2)).mono ?_; rintro e w3 ⟨rfl, x3⟩; have X3 := Ext.trans X2 x3; have m4 : True := trivial))
      go_ret
      exact ⟨rfl, X3⟩
  · have HB1 : Hid (NotOk L1) := Lib.hid hp1
    have m3 : True := trivial
    clear hp1
    go_enter Tryd.func5, Tryd.ntmps5
    go_wp2_with (first
      | (go_at_call 22; have mk := m1; clear m1 mk; go_loud (refine (plain_f A c k1 L1 _ HB1 HN1 (Lib.hid (H1.out.ext XR)) HT1 (G.ext XR)).mono ?_); rintro e w1 ⟨rfl, x1⟩; have X1 := Ext.trans XR x1; have m2 : True := trivial)
      | (go_at_call 13; have mk := m3; clear m3 mk; refine (known_true _ (G.ext X1)).mono ?_; rintro e w2 ⟨rfl, x2⟩; have X2 := Ext.trans X1 x2; have m4 : True := trivial))
    go_ret
    exact ⟨rfl, X2⟩
end Go.Proofs.YtngeioghihbkeaaDoor
