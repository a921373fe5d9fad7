/- row.Sum of rows that all may be: the walk. Conditions: the rows lie in memory; fewer than 20 of them. -/
import Derived.Test.YtngeioghihbkeaaDoorSumC
namespace Go.Proofs.YtngeioghihbkeaaDoor
open Go.RowKit Go.Maps

set_option maxRecDepth 100000 in
set_option maxHeartbeats 16000000 in
theorem sum_plain (A : Option Addr) (c n : Nat) (L : List Ct) (w : World) (h0 : 0 < n) (hn : n = L.length) (h20 : n < 20) (h : Cin w A c L) (hin : ∀ x ∈ L, InC x) (hok : ∀ x ∈ L, checkR x.l = 0) (G : Good w) :
    Calls Tryd.prog 18 #[.slice A n c] w (SumRes w L) := by
  have HN := Lib.hid hn
  have H := Lib.hid h
  have HIN := Lib.hid hin
  have HOK := Lib.hid hok
  have hmk := make_cts n (by omega)
  have hmm := make_map (n : Int)
  clear hn h hin hok
  go_enter Tryd.func18, Tryd.ntmps18
  go_upto_region 4 with fail
  obtain ⟨w0, hw0⟩ : ∃ x, x = (w.alloc (madeCts n)).alloc (.map #[] 0) := ⟨_, rfl⟩
  have X0 : Ext w w0 := hw0 ▸ ((Ext.refl w).alloc _).alloc _
  have HP0 : Hid (SumP w w.heap.size (w.heap.size + 1) n L w0 0 [] (.map [])) := Lib.hid (SumP.start L h0 (by omega) hw0)
  rw [← hw0]
  clear hw0 hmk hmm
  go_wp2
  go_loopw [5, 24] (fun u v wr => ∃ i : Nat, i ≤ n ∧ u = .bool true ∧ v = .int .i64 i ∧ Ext w0 wr) (fun _ v _ => n - (intOf v).toNat)
  case atStart => exact ⟨0, Nat.zero_le _, rfl, rfl, Ext.refl _⟩
  case round =>
    obtain ⟨i, hi, rfl, rfl, er0⟩ := hrel
    by_cases hlt : i < n
    · have hil : i < L.length := by rw [← HN.out]; exact hlt
      have er := X0.trans er0
      obtain ⟨ad, rfl, p0, p1⟩ := (H.out.ext er).at hil
      have hm := getD_mem hil
      obtain ⟨x, hx⟩ : ∃ x, L.getD i Ct.zero = x := ⟨_, rfl⟩
      rw [hx] at p0 p1 hm
      obtain ⟨nx, hnx⟩ : ∃ nx, nx = x.l.length := ⟨_, rfl⟩
      rw [← hnx] at p0
      have hnx9 : nx ≤ 1000000000 := by have := (HIN.out x hm).len; omega
      have HT := Lib.hid (HIN.out x hm).txt
      have HI := Lib.hid (HIN.out x hm).int
      have HR := Lib.hid ((H.out.rows x hm).ext (er.alloc (.cells #[.slice x.A nx x.c, .int .i64 x.k] 32)))
      have GW := Lib.hid (G.ext (er.alloc (.cells #[.slice x.A nx x.c, .int .i64 x.k] 32)))
      have HNX := Lib.hid hnx
      have HX := Lib.hid hx
      have HIL := Lib.hid hil
      have HM := Lib.hid hm
      have HC := Lib.hid (HOK.out x hm)
      clear hil hm hx hnx
      go_wp2_with (go_at_call 25; refine (rowCheck_lit x.A x.c nx x.l _ HC HNX HR HT GW.out).mono ?_; rintro e w1 ⟨rfl, x1⟩)
      go_roundw
      case rel => exact ⟨i + 1, by omega, rfl, by go_num, (er0.alloc _).trans x1⟩
      case measure => simp [intOf]; omega
    · go_wp2
      go_loopg [3, 38] n (fun z u v wr => ∃ (i : Nat) (O : List Ct) (D : MD), z = n - i ∧ i ≤ n ∧ u = .slice (some ⟨w.heap.size, 0, none⟩) O.length n ∧ v = .int .i64 i ∧ Hid (SumP w w.heap.size (w.heap.size + 1) n L wr i O D))
      case atStart => exact ⟨0, [], .map [], rfl, Nat.zero_le _, rfl, rfl, Lib.hid (HP0.out.mono er0)⟩
      case round =>
        clear hi hlt er0 HP0 X0
        obtain ⟨i, O, D, rfl, hi, rfl, rfl, HP⟩ := hrel
        by_cases hlt : i < n
        · have hil : i < L.length := by rw [← HN.out]; exact hlt
          have er := HP.out.at_.ext
          obtain ⟨ad, rfl, p0, p1⟩ := (H.out.ext er).at hil
          have hm := getD_mem hil
          obtain ⟨x, hx⟩ : ∃ x, L.getD i Ct.zero = x := ⟨_, rfl⟩
          rw [hx] at p0 p1 hm
          obtain ⟨nx, hnx⟩ : ∃ nx, nx = x.l.length := ⟨_, rfl⟩
          rw [← hnx] at p0
          have hnx9 : nx ≤ 1000000000 := by have := (HIN.out x hm).len; omega
          have HT := Lib.hid (HIN.out x hm).txt
          have HI := Lib.hid (HIN.out x hm).int
          have HR := Lib.hid ((H.out.rows x hm).ext (er.alloc (.cells #[.slice x.A nx x.c, .int .i64 x.k] 32)))
          have GW := Lib.hid (G.ext (er.alloc (.cells #[.slice x.A nx x.c, .int .i64 x.k] 32)))
          have HNX := Lib.hid hnx
          have HX := Lib.hid hx
          have HIL := Lib.hid hil
          have HM := Lib.hid hm
          have HC := Lib.hid (HOK.out x hm)
          have HKS := Lib.hid (key_small HC.out)
          have hbx : w.heap.size + 1 < wr.heap.size := HP.out.at_.gg.2.2
          obtain ⟨m, hmO⟩ : ∃ m, m = O.length := ⟨_, rfl⟩
          have hmi : m ≤ i := by rw [hmO]; exact HP.out.vals.len
          rw [← hmO]
          cases hth : Maps.has D (.string (keyT x.l))
          · have HAW := Lib.hid (HP.out.away HOK.out HIN.out hm hth)
            have HTH := Lib.hid hth
            have HMO := Lib.hid hmO
            clear hil hm hx hnx hmO
            go_upto_region 19 with (first
              | (go_at_call 56; refine (key_lit x.A x.c nx x.l _ HNX HR HI HC).mono ?_; rintro e w1 ⟨A1, n1, c1, rfl, o1, b1⟩; have O1 := Lib.hid o1; have X1 : Ext (wr.alloc (.cells #[.slice x.A nx x.c, .int .i64 x.k] 32)) w1 := b1; have hcv := conv_own o1; have BX := (Bk.new wr 32 #[.slice x.A nx x.c, .int .i64 x.k]).ext X1; have bx0 := BX.cell 0; have bx1 := BX.cell 1; have XX := ((Ext.refl wr).alloc (.cells #[.slice x.A nx x.c, .int .i64 x.k] 32)).trans X1; have HP1 := Lib.hid (HP.out.mono XX); clear o1 b1)
              | (at_lookup; refine wpList_lookup_own_ok_int _ rfl _ _ 95 rfl 9 3 .i64 map_law Tryd.underlying95 Tryd.underlying3 (zero_int _) (w.heap.size + 1) i D rfl HP1.out.map _ (.string (keyT x.l)) rfl (key_of HKS.out) ?_; intro cc hat hwc; clear hat hwc)
              | (at_mapUpdate; refine wpList_mapUpdate_own _ rfl _ _ _ 95 rfl 9 3 map_law Tryd.underlying95 (plainElem Tryd.prog 3) (w.heap.size + 1) i D rfl HP1.out.map (by unfold maxLen; omega) _ _ (.string (keyT x.l)) rfl rfl (key_of HKS.out) (int_ m) [] (plainElem_int Tryd.underlying3 (WalkArith.wf_i64 (by omega))) ?_; intro w2 hown2 hgrow2; have HO2 := Lib.hid hown2; have HG2 := Lib.hid hgrow2; have HS2 := Lib.hid (HP1.out.at_.map hgrow2); have BX2 := BX.grown hgrow2 (by intro e; injection e with e; omega); clear hown2 hgrow2))
            have X2 : Ext w2 w2.drew := (Ext.refl w2).drew
            have HR2 := Lib.hid ((H.out.rows x HM.out).ext (HS2.out.ext.trans X2))
            have B0 : ∀ z : Xt w2.drew, z.W.cell? ⟨wr.heap.size, 0, none⟩ = some (.slice x.A nx x.c) := fun z => (X2.trans z.x).cell (BX2.cell 0)
            have B1 : ∀ z : Xt w2.drew, z.W.cell? ⟨wr.heap.size, 1, none⟩ = some (.int .i64 x.k) := fun z => (X2.trans z.x).cell (BX2.cell 1)
            go_simp
            refine wp_region_ord [0,0,2,6,0,16,62,126,255,511] (.pur [0] (.flo [1,2,4,5] (.ext 3 (.flo [6] (.one 7 (.one 8 (.flo [9] (.fin)))))))) (by kernel_rfl) (by kernel_rfl) (by intro _ _ d _ _ h; cases d <;> exact h) ?_
            (refine ord_pur (pick_cons rfl pick_nil) ?_; (repeat (go_big_quiet_step (fail))); refine wpQuiet_nil ?_; show ordWalk _ _ _ _ _ _ _)
            (refine ord_flo (pick_cons rfl (pick_cons rfl (pick_cons rfl (pick_cons rfl pick_nil)))) ?_; (repeat (go_big_quiet_step (fail))); refine wpQuiet_nil ?_; show ordWalk _ _ _ _ _ _ _)
            refine ord_ext (pick_cons rfl pick_nil) ?_; intro K_ hK_
            go_wp2_with (go_at_call 57; refine (clone_lit x.A x.c nx x.l _ HNX HR2 hnx9).mono ?_; rintro e w3 ⟨⟨A3, c3, rfl, o3, b3⟩, x3⟩)
            refine ordNext.mk x3 ?_
            have O3 := Lib.hid o3
            have HB3 := Lib.hid b3
            have X3 := Lib.hid (X2.trans x3)
            clear o3 b3
            (refine ord_flo (pick_cons rfl pick_nil) ?_; (repeat (go_big_quiet_step (fail))); refine wpQuiet_nil ?_; show ordWalk _ _ _ _ _ _ _)
            refine ord_one (pick_cons rfl pick_nil) ?_; intro K_ hK_
            go_wp2
            refine ord_one (pick_cons rfl pick_nil) ?_; intro K_ hK_
            have HS3 := Lib.hid (HS2.out.mono X3.out)
            go_wp2_with (at_builtin; refine wpList_append_stay _ elem_ct w.heap.size _ _ rfl rfl w.heap.size m n (ctsC O) rfl (by rw [HMO.out]; exact (HS3.out.arr.ext ((Ext.refl _).alloc _)).1) h0 ⟨w3.heap.size, 0, none⟩ 1 1 [.slice A3 nx c3, .int .i64 x.k] rfl (sl_ct _ _ _ _) (by decide) (by intro u hu; simp at hu; rcases hu with rfl | rfl <;> rfl) (by omega) ?_; intro w4 o4 g4)
            have O4 := Lib.hid o4
            have G4 := Lib.hid ((upd_ext ((Ext.refl w3).alloc (.cells #[.slice A3 nx c3, .int .i64 x.k] 32)) w.heap.size).trans g4)
            clear o4 g4
            go_simp
            (refine ord_flo (pick_cons rfl pick_nil) ?_; (repeat (go_big_quiet_step (fail))); refine wpQuiet_nil ?_; show ordWalk _ _ _ _ _ _ _)
            refine ord_fin ?_
            go_wp2
            go_roundg (n - (i + 1))
            case measure => omega
            case rel => exact ⟨i + 1, O ++ [⟨A3, c3, x.l, x.k⟩], D.put (.string (keyT x.l)) (int_ m), rfl, by omega, by rw [HMO.out]; simp, by go_num, Lib.hid (SumP.new HP1.out HIL.out HX.out (HIN.out x HM.out).num HAW.out HTH.out HMO.out HNX.out HO2.out HG2.out X3.out (by have := O3.out; exact this) (fun ad e => by have := HB3.out ad e; have := X2.size; omega) O4.out G4.out)⟩
          · obtain ⟨P, y, Q, rfl, hy, hat0⟩ := HP.out.there HOK.out HIN.out hm hth
            obtain ⟨j, hj⟩ : ∃ j, j = P.length := ⟨_, rfl⟩
            rw [← hj] at hat0
            have hjm : j < m := by rw [hmO, hj]; simp
            obtain ⟨s, hs⟩ : ∃ s, w64 (y.k + x.k) = s := ⟨_, rfl⟩
            have hs2 : IntKind.i64.wrap (y.k + x.k) = s := hs
            have HAT := Lib.hid hat0
            have HJ := Lib.hid hj
            have HMO := Lib.hid hmO
            have HY := Lib.hid hy
            have HS := Lib.hid hs
            clear hil hm hx hnx hmO hy hat0 hj hs
            go_upto_region 17 with (first
              | (go_at_call 56; refine (key_lit x.A x.c nx x.l _ HNX HR HI HC).mono ?_; rintro e w1 ⟨A1, n1, c1, rfl, o1, b1⟩; have O1 := Lib.hid o1; have X1 : Ext (wr.alloc (.cells #[.slice x.A nx x.c, .int .i64 x.k] 32)) w1 := b1; have hcv := conv_own o1; have BX := (Bk.new wr 32 #[.slice x.A nx x.c, .int .i64 x.k]).ext X1; have bx0 := BX.cell 0; have bx1 := BX.cell 1; have XX := ((Ext.refl wr).alloc (.cells #[.slice x.A nx x.c, .int .i64 x.k] 32)).trans X1; have HP1 := Lib.hid (HP.out.mono XX); clear o1 b1)
              | (at_lookup; refine wpList_lookup_own_ok_int _ rfl _ _ 95 rfl 9 3 .i64 map_law Tryd.underlying95 Tryd.underlying3 (zero_int _) (w.heap.size + 1) i D rfl HP1.out.map _ (.string (keyT x.l)) rfl (key_of HKS.out) ?_; intro cc hat hwc; obtain rfl : cc = (j : Int) := at_inj hat HAT.out; clear hat hwc))
            have hA1 := HP1.out.at_.arr
            have hq := hA1.at (i := j) (by rw [HJ.out]; simp)
            rw [HJ.out, getD_mid, ← HJ.out] at hq
            have q1 := hq.2
            have f1 := hA1.free (j * 2 + 1)
            have X2 : Ext w1 w1.drew := (Ext.refl w1).drew
            have Q1 : ∀ z : Xt w1.drew, z.W.cell? ⟨w.heap.size, j * 2 + 1, none⟩ = some (.int .i64 y.k) := fun z => (X2.trans z.x).cell q1
            have B1 : ∀ z : Xt w1.drew, z.W.cell? ⟨wr.heap.size, 1, none⟩ = some (.int .i64 x.k) := fun z => (X2.trans z.x).cell bx1
            clear hA1 hq
            refine wp_region_ord [0,0,3,7,15,0,32,127,255,511,1023] (.flo [0,1,2,3,4,5,6,7,8,9] (.one 10 (.fin))) (by kernel_rfl) (by kernel_rfl) (by intro _ _ d _ _ h; cases d <;> exact h) ?_
            (refine ord_flo (pick_cons rfl (pick_cons rfl (pick_cons rfl (pick_cons rfl (pick_cons rfl (pick_cons rfl (pick_cons rfl (pick_cons rfl (pick_cons rfl (pick_cons rfl pick_nil)))))))))) ?_; (repeat (go_big_quiet_step (fail))); refine wpQuiet_nil ?_; show ordWalk _ _ _ _ _ _ _)
            refine ord_one (pick_cons rfl pick_nil) ?_; intro K_ hK_
            go_wp2
            refine ord_fin ?_
            go_wp2
            go_roundg (n - (i + 1))
            case measure => omega
            case rel => exact ⟨i + 1, P ++ ⟨y.A, y.c, y.l, s⟩ :: Q, D, rfl, by omega, by rw [HMO.out]; simp, by go_num, Lib.hid ((HP1.out.mono X2).old HIL.out HX.out HY.out HJ.out HS.out)⟩
        · have hin' : i = n := by omega
          have HE : Hid (SumEnd w w.heap.size (w.heap.size + 1) n L O wr) := Lib.hid (by have := HP.out; rw [hin'] at this; exact this.vals.out HN.out this.at_)
          have hmn : O.length ≤ n := arr_len HE.out.at_.arr
          obtain ⟨m, hmO⟩ : ∃ m, m = O.length := ⟨_, rfl⟩
          rw [← hmO] at hmn ⊢
          have HMO := Lib.hid hmO
          have HINV : Hid (∀ x ∈ L, InV (valC x)) := Lib.hid fun x hx => (HIN.out x hx).num
          have hg0 : w.heap.size + 1 < wr.heap.size := HE.out.at_.gg.2.2
          clear hmO hin' HP
          go_wp2_with (go_at_call 58; go_loud (refine (sortStable_small w.heap.size w.heap.size n m O _ HMO.out (by omega) HE.out.at_.arr HE.out.at_.off).mono ?_; rintro e w1 ⟨rfl, S, st, ar, up⟩; have HME := Lib.hid (MergeAt.start HE.out st ar up); have HST := Lib.hid st; have HSL : Hid (m = S.length) := Lib.hid (by rw [stable_len st]; exact HMO.out); clear st ar up))
          go_loopg [13, 82] m (fun z u v wr => ∃ (i q : Nat) (T M X R : List Ct), z = m - i ∧ i ≤ m ∧ q ≤ i ∧ u = .int .i64 q ∧ v = .int .i64 i ∧ Hid (q = M.length) ∧ Hid (MergeAt w w.heap.size (w.heap.size + 1) n S wr i T M X R))
          case atStart => exact ⟨0, 0, [], [], [], S, rfl, Nat.zero_le _, Nat.le_refl _, rfl, rfl, Lib.hid rfl, HME⟩
          case round =>
            clear HME
            obtain ⟨i, q, T, M, X, R, rfl, hi, hqi, rfl, rfl, HQ, HG⟩ := hrel
            have hbx : w.heap.size + 1 < wr.heap.size := HG.out.gg.2.2
            by_cases hlt : i < m
            · obtain ⟨x, R, rfl⟩ : ∃ x R', R = x :: R' := by
                cases R with
                | nil =>
                  have h1 := HG.out.spl
                  have h2 := HG.out.tl
                  have h3 := HSL.out
                  rw [h1, List.append_nil, h2] at h3
                  omega
                | cons x R => exact ⟨x, R, rfl⟩
              have hA := HG.out.arr
              have hxl : i < (M ++ (X ++ x :: R)).length := by have := HG.out.len; simp only [List.length_append, List.length_cons] at this ⊢; omega
              obtain ⟨p0, p1⟩ := hA.at hxl
              have e : (M ++ (X ++ x :: R)).getD i Ct.zero = x := by
                rw [← List.append_assoc, show i = (M ++ X).length by rw [List.length_append]; exact HG.out.len]
                exact getD_mid _ x R
              rw [e] at p0 p1
              obtain ⟨nx, hnx⟩ : ∃ nx, nx = x.l.length := ⟨_, rfl⟩
              rw [← hnx] at p0
              have HNX := Lib.hid hnx
              have hqm : q < m := by omega
              have XB : Ext wr (wr.alloc (.cells #[.slice x.A nx x.c, .int .i64 x.k] 32)) := (Ext.refl wr).alloc _
              have HG1 := Lib.hid (HG.out.mono XB)
              have BX := Bk.new wr 32 #[.slice x.A nx x.c, .int .i64 x.k]
              have f0 := HG1.out.arr.free (q * 2)
              have f1 := HG1.out.arr.free (q * 2 + 1)
              have hqn : q < n := by omega
              obtain ⟨u0, d0⟩ := Option.isSome_iff_exists.1 (HG1.out.arr.cells_past (j := q * 2) (by omega))
              obtain ⟨u1, d1⟩ := Option.isSome_iff_exists.1 (HG1.out.arr.cells_past (j := q * 2 + 1) (by omega))
              clear hA hxl e hnx
              rcases snoc_cases M with rfl | ⟨M, y, rfl⟩
              · have hq0 : q = 0 := HQ.out
                subst hq0
                have HK : Hid (mergeStep (([] : List Ct).map valC) (valC x) = ([] : List Ct).map valC ++ [valC x]) := Lib.hid rfl
                go_upto_region 26 with fail
                have X2 : Ext (wr.alloc (.cells #[.slice x.A nx x.c, .int .i64 x.k] 32)) (wr.alloc (.cells #[.slice x.A nx x.c, .int .i64 x.k] 32)).drew := (Ext.refl _).drew
                refine wp_region_ord [0,1,3,7,7,23,63,127,255,7,519,2047,4095,8191] (.flo [0,1,2,3,4,5,6,7,8,9,10] (.one 11 (.flo [12,13] (.fin)))) (by kernel_rfl) (by kernel_rfl) (by intro _ _ d _ _ h; cases d <;> exact h) ?_
                (refine ord_flo (pick_cons rfl (pick_cons rfl (pick_cons rfl (pick_cons rfl (pick_cons rfl (pick_cons rfl (pick_cons rfl (pick_cons rfl (pick_cons rfl (pick_cons rfl (pick_cons rfl pick_nil))))))))))) ?_; (repeat (go_big_quiet_step (fail))); refine wpQuiet_nil ?_; show ordWalk _ _ _ _ _ _ _)
                refine ord_one (pick_cons rfl pick_nil) ?_; intro K_ hK_
                go_wp2
                (refine ord_flo (pick_cons rfl (pick_cons rfl pick_nil)) ?_; (repeat (go_big_quiet_step (fail))); refine wpQuiet_nil ?_; show ordWalk _ _ _ _ _ _ _)
                refine ord_fin ?_
                have BX2 := BX.drew
                go_wp2
                go_roundg (m - (i + 1))
                case measure => omega
                case rel => exact ⟨i + 1, 1, T ++ [x], [x], (X ++ [x]).tail, R, rfl, by omega, by omega, rfl, by go_num, Lib.hid rfl, Lib.hid ((HG1.out.mono X2).keep HK.out rfl HNX.out)⟩
              · obtain ⟨p, hp⟩ : ∃ p, p = M.length := ⟨_, rfl⟩
                have hqp : q = p + 1 := by have := HQ.out; rw [List.length_append, List.length_singleton] at this; omega
                subst hqp
                have hy := HG1.out.arr.at (i := p) (by rw [hp]; simp)
                have ey : (M ++ [y] ++ (X ++ x :: R)).getD p Ct.zero = y := by rw [hp, List.append_assoc]; exact getD_mid M y _
                rw [ey] at hy
                obtain ⟨y0, y1⟩ := hy
                obtain ⟨ny, hny⟩ : ∃ ny, ny = y.l.length := ⟨_, rfl⟩
                rw [← hny] at y0
                have HNY := Lib.hid hny
                have HPL := Lib.hid hp
                have f3 := HG1.out.arr.free (p * 2 + 1)
                obtain ⟨v, hv⟩ : ∃ v, cmpR y.l x.l = v := ⟨_, rfl⟩
                have HV := Lib.hid hv
                have za : decide ((0 : Int) < (p : Int) + 1) = true := decide_eq_true (by omega)
                obtain ⟨wb, hwb⟩ : ∃ z, z = wr.alloc (.cells #[.slice x.A nx x.c, .int .i64 x.k] 32) := ⟨_, rfl⟩
                have hgb : w.heap.size + 1 < wb.heap.size := by rw [hwb]; exact HG1.out.gg.2.2
                go_upto_region 26 with fail
                rw [← hwb] at XB HG1 BX f0 f1 d0 d1 y0 y1 f3 ⊢
                clear ey hny hp hv hwb
                have X2 : Ext wb wb.drew := (Ext.refl wb).drew
                have HRY := Lib.hid ((HG1.out.rows y (by simp)).1.ext X2)
                have HRX := Lib.hid ((HG1.out.rows x (by simp)).1.ext X2)
                have Y0 : ∀ z : Xt wb.drew, z.W.cell? ⟨w.heap.size, p * 2, none⟩ = some (.slice y.A ny y.c) := fun z => (X2.trans z.x).cell y0
                have B0 : ∀ z : Xt wb.drew, z.W.cell? ⟨wr.heap.size, 0, none⟩ = some (.slice x.A nx x.c) := fun z => (X2.trans z.x).cell (BX.cell 0)
                by_cases hv0 : v = 0
                · subst hv0
                  refine wp_region_ord [0,1,3,7,7,23,63,127,255,7,519,2047,4095,8191] (.flo [0,1,2,3,4,5,6,7,8,9,10] (.one 11 (.flo [12,13] (.fin)))) (by kernel_rfl) (by kernel_rfl) (by intro _ _ d _ _ h; cases d <;> exact h) ?_
                  (refine ord_flo (pick_cons rfl (pick_cons rfl (pick_cons rfl (pick_cons rfl (pick_cons rfl (pick_cons rfl (pick_cons rfl (pick_cons rfl (pick_cons rfl (pick_cons rfl (pick_cons rfl pick_nil))))))))))) ?_; (repeat (go_big_quiet_step (fail))); refine wpQuiet_nil ?_; show ordWalk _ _ _ _ _ _ _)
                  refine ord_one (pick_cons rfl pick_nil) ?_; intro K_ hK_
                  go_wp2_with (go_at_call 14; refine (rowCmp_any y.A x.A y.c x.c ny nx y.l x.l _ HNY.out HNX.out HRY.out HRX.out).mono ?_; rintro e w1 ⟨rfl, x1⟩; rw [HV.out])
                  (refine ord_flo (pick_cons rfl (pick_cons rfl pick_nil)) ?_; (repeat (go_big_quiet_step (fail))); refine wpQuiet_nil ?_; show ordWalk _ _ _ _ _ _ _)
                  refine ord_fin ?_
                  have X3 := X2.trans x1
                  have HG2 := Lib.hid (HG1.out.mono X3)
                  have yk := X3.cell y1
                  have bk := X3.cell (BX.cell 1)
                  have f4 := HG2.out.arr.free (p * 2 + 1)
                  obtain ⟨s, hs⟩ : ∃ s, w64 (y.k + x.k) = s := ⟨_, rfl⟩
                  have hs2 : IntKind.i64.wrap (y.k + x.k) = s := hs
                  have HS := Lib.hid hs
                  have X4 : Ext w1 w1.drew := (Ext.refl w1).drew
                  have Y1 : ∀ z : Xt w1.drew, z.W.cell? ⟨w.heap.size, p * 2 + 1, none⟩ = some (.int .i64 y.k) := fun z => (X4.trans z.x).cell yk
                  have B1 : ∀ z : Xt w1.drew, z.W.cell? ⟨wr.heap.size, 1, none⟩ = some (.int .i64 x.k) := fun z => (X4.trans z.x).cell bk
                  clear hs
                  go_upto_region 27 with fail
                  refine wp_region_ord [0,0,2,7,15,31,0,64,255,511,1023,2047] (.flo [0,1,2,3,4,5,6,7,8,9,10] (.one 11 (.fin))) (by kernel_rfl) (by kernel_rfl) (by intro _ _ d _ _ h; cases d <;> exact h) ?_
                  (refine ord_flo (pick_cons rfl (pick_cons rfl (pick_cons rfl (pick_cons rfl (pick_cons rfl (pick_cons rfl (pick_cons rfl (pick_cons rfl (pick_cons rfl (pick_cons rfl (pick_cons rfl pick_nil))))))))))) ?_; (repeat (go_big_quiet_step (fail))); refine wpQuiet_nil ?_; show ordWalk _ _ _ _ _ _ _)
                  refine ord_one (pick_cons rfl pick_nil) ?_; intro K_ hK_
                  go_wp2
                  refine ord_fin ?_
                  go_wp2
                  go_roundg (m - (i + 1))
                  case measure => omega
                  case rel => exact ⟨i + 1, p + 1, T ++ [x], M ++ [(⟨y.A, y.c, y.l, s⟩ : Ct)], X ++ [x], R, rfl, by omega, by omega, by go_num, by go_num, Lib.hid (by rw [List.length_append, List.length_singleton, ← HPL.out]), Lib.hid ((HG2.out.mono X4).join HV.out HPL.out HS.out)⟩
                · have zv : (v == 0) = false := by simpa using hv0
                  have HK : Hid (mergeStep ((M ++ [y]).map valC) (valC x) = (M ++ [y]).map valC ++ [valC x]) := Lib.hid (by
                    rw [List.map_append, List.map_singleton, mergeStep_snoc, if_neg (show ¬ cmpV (valC y) (valC x) = 0 from fun q => hv0 (HV.out.symm.trans q))])
                  clear hv0
                  refine wp_region_ord [0,1,3,7,7,23,63,127,255,7,519,2047,4095,8191] (.flo [0,1,2,3,4,5,6,7,8,9,10] (.one 11 (.flo [12,13] (.fin)))) (by kernel_rfl) (by kernel_rfl) (by intro _ _ d _ _ h; cases d <;> exact h) ?_
                  (refine ord_flo (pick_cons rfl (pick_cons rfl (pick_cons rfl (pick_cons rfl (pick_cons rfl (pick_cons rfl (pick_cons rfl (pick_cons rfl (pick_cons rfl (pick_cons rfl (pick_cons rfl pick_nil))))))))))) ?_; (repeat (go_big_quiet_step (fail))); refine wpQuiet_nil ?_; show ordWalk _ _ _ _ _ _ _)
                  refine ord_one (pick_cons rfl pick_nil) ?_; intro K_ hK_
                  go_wp2_with (go_at_call 14; refine (rowCmp_any y.A x.A y.c x.c ny nx y.l x.l _ HNY.out HNX.out HRY.out HRX.out).mono ?_; rintro e w1 ⟨rfl, x1⟩; rw [HV.out])
                  (refine ord_flo (pick_cons rfl (pick_cons rfl pick_nil)) ?_; (repeat (go_big_quiet_step (fail))); refine wpQuiet_nil ?_; show ordWalk _ _ _ _ _ _ _)
                  refine ord_fin ?_
                  have X3 := X2.trans x1
                  have HG2 := Lib.hid (HG1.out.mono X3)
                  have b0 := X3.cell (BX.cell 0)
                  have b1 := X3.cell (BX.cell 1)
                  have g0 := HG2.out.arr.free ((p + 1) * 2)
                  have g1 := HG2.out.arr.free ((p + 1) * 2 + 1)
                  have e0 := X3.cell d0
                  have e1 := X3.cell d1
                  go_wp2
                  go_roundg (m - (i + 1))
                  case measure => omega
                  case rel => exact ⟨i + 1, p + 1 + 1, T ++ [x], M ++ [y] ++ [x], (X ++ [x]).tail, R, rfl, by omega, by omega, by go_num, by go_num, Lib.hid (by rw [List.length_append, List.length_singleton, ← HQ.out]), Lib.hid (HG2.out.keep HK.out HQ.out HNX.out)⟩
            · have hR : R = [] := List.eq_nil_of_length_eq_zero (by
                have h1 := HG.out.spl
                have h2 := HG.out.tl
                have h3 := HSL.out
                rw [h1, List.length_append, h2] at h3
                omega)
              subst hR
              have hqn : q ≤ n := by omega
              go_wp2_with (go_at_call 60; refine (deleteFunc_any w.heap.size w.heap.size n q M _ HQ.out HG.out.arr.prefix_).mono ?_; rintro e w2 ⟨mf, rfl, hmf, ar2, up2⟩; have HR2 := Lib.hid (fun c' hc => sum_res (c' := c') HE.out HINV.out HST.out HG.out ar2 up2 hmf hc); clear hmf ar2 up2)
              go_ret
              exact HR2.out n rfl
end Go.Proofs.YtngeioghihbkeaaDoor
