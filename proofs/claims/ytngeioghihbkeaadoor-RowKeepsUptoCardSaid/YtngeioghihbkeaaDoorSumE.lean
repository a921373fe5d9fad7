/- row.Sum of any rows: the walk of rows that may not all be, and of none. Conditions: the rows lie in memory. -/
import Derived.Test.YtngeioghihbkeaaDoorSumAll
namespace Go.Proofs.YtngeioghihbkeaaDoor
open Go.RowKit Go.Maps

/-- the loop's relation, of rows that may not all be -/
structure SumO (w : World) (g gm n : Nat) (L : List Ct) (wr : World) (i : Nat) (O : List Ct) : Prop where
  at_ : SumAt w g gm n wr O
  vals : O.map valC = (L.take i).map valC
  len : O.length = i
theorem SumO.mono {w wr wz : World} {g gm n i : Nat} {L O : List Ct} (h : SumO w g gm n L wr i O) (x : Ext wr wz) : SumO w g gm n L wz i O := ⟨h.at_.mono x, h.vals, h.len⟩
theorem SumO.start {w w0 : World} {n : Nat} (L : List Ct) (h0 : 0 < n) (hn : n ≤ 1000000000) (hw : w0 = (w.alloc (madeCts n)).alloc (.map #[] 0)) : SumO w w.heap.size (w.heap.size + 1) n L w0 0 [] := by
  subst hw
  exact ⟨⟨(arr_made w n h0 hn).ext ((Ext.refl _).alloc _), fun x h => (nomatch h), List.Pairwise.nil, ((Ext.refl w).alloc _).alloc _, by simp⟩, rfl, rfl⟩
theorem SumO.new {w w1 w3 w4 : World} {g gm n i m : Nat} {L O : List Ct} {x : Ct} {A : Option Addr} {c nx : Nat} (h : SumO w g gm n L w1 i O) (hi : i < L.length) (hx : L.getD i Ct.zero = x) (hm : m = O.length) (hnx : nx = x.l.length) (x3 : Ext w1 w3)
    (o3 : Own w3 w1.heap.size 91 4 A nx c (rowC x.l)) (b3 : ∀ ad, A = some ad → w1.heap.size ≤ ad.block ∧ ad.block < w3.heap.size)
    (o4 : Own w4 w.heap.size 32 2 (some ⟨g, 0, none⟩) (m + 1) n (ctsC O ++ [.slice A nx c, .int .i64 x.k])) (g4 : w3.grownBy w4 (some g)) : SumO w g gm n L w4 (i + 1) (O ++ [⟨A, c, x.l, x.k⟩]) := by
  subst hnx hm
  have s3 := h.at_.mono x3
  have hg := h.at_.gg
  refine ⟨s3.push (x := ⟨A, c, x.l, x.k⟩) (Own.mono o3 (Nat.zero_le _)) (fun ad e => by have := b3 ad e; omega) (fun y hy a b e1 e2 => by have := (h.at_.rows y hy).2 a e1; have := b3 b e2; omega) o4 g4, ?_, by rw [List.length_append, h.len]; rfl⟩
  rw [take_snocC hi, hx, List.map_append, List.map_append, h.vals]
  rfl
theorem SumO.out {w wx : World} {g gm n : Nat} {L O : List Ct} (h : SumO w g gm n L wx n O) (hn : n = L.length) (hin : ∀ x ∈ L, InV (valC x)) : SumEnd w g gm n L O wx := by
  have e : O.map valC = L.map valC := by rw [h.vals, List.take_of_length_le (by omega)]
  refine ⟨h.at_, fun c => by rw [e], fun x hx => ?_⟩
  have : valC x ∈ O.map valC := List.mem_map.2 ⟨x, hx, rfl⟩
  rw [e] at this
  obtain ⟨y, hy, e2⟩ := List.mem_map.1 this
  rw [← e2]
  exact hin y hy
def okTo (L : List Ct) (i : Nat) : Prop := ∀ x ∈ L.take i, checkR x.l = 0
theorem okTo.step {L : List Ct} {i : Nat} {x : Ct} (hi : i < L.length) (hx : L.getD i Ct.zero = x) : okTo L (i + 1) ↔ okTo L i ∧ checkR x.l = 0 := by
  unfold okTo
  rw [take_snocC hi, hx]
  exact ⟨fun h => ⟨fun y hy => h y (List.mem_append_left _ hy), h x (by simp)⟩, fun h y hy => by
    rcases List.mem_append.1 hy with q | q
    · exact h.1 y q
    · rw [List.mem_singleton.1 q]; exact h.2⟩
/-- the first loop's answer -/
def Plain (L : List Ct) (i : Nat) (b : Bool) : Prop := b = true ↔ okTo L i
set_option maxRecDepth 100000 in
set_option maxHeartbeats 16000000 in
theorem sum_other (A : Option Addr) (c n : Nat) (L : List Ct) (w : World) (h0 : 0 < n) (hn : n = L.length) (h20 : n ≤ 100000000) (h : Cin w A c L) (hin : ∀ x ∈ L, InC x) (hbad : ∃ x ∈ L, checkR x.l ≠ 0) (G : Good w) :
    Calls Tryd.prog 18 #[.slice A n c] w (SumRes w L) := by
  have HN := Lib.hid hn
  have H := Lib.hid h
  have HIN := Lib.hid hin
  have HBAD := Lib.hid hbad
  have hmk := make_cts n (by omega)
  have hmm := make_map (n : Int)
  clear hn h hin hbad
  go_enter Tryd.func18, Tryd.ntmps18
  go_upto_region 4 with fail
  obtain ⟨w0, hw0⟩ : ∃ x, x = (w.alloc (madeCts n)).alloc (.map #[] 0) := ⟨_, rfl⟩
  have X0 : Ext w w0 := hw0 ▸ ((Ext.refl w).alloc _).alloc _
  have HP0 : Hid (SumO w w.heap.size (w.heap.size + 1) n L w0 0 []) := Lib.hid (SumO.start L h0 (by omega) hw0)
  rw [← hw0]
  clear hw0 hmk hmm
  go_wp2
  go_loopw [5, 24] (fun u v wr => ∃ (i : Nat) (b : Bool), i ≤ n ∧ u = .bool b ∧ v = .int .i64 i ∧ Hid (Plain L i b) ∧ Ext w0 wr) (fun _ v _ => n - (intOf v).toNat)
  case atStart => exact ⟨0, true, Nat.zero_le _, rfl, rfl, Lib.hid ⟨fun _ x hx => by simp at hx, fun _ => rfl⟩, Ext.refl _⟩
  case round =>
    obtain ⟨i, b, hi, rfl, rfl, HB, er0⟩ := hrel
    by_cases hlt : i < n
    · have hil : i < L.length := by rw [← HN.out]; exact hlt
      have er := X0.trans er0
      obtain ⟨ad, rfl, p0, p1⟩ := (H.out.ext er).at hil
      have hm := getD_mem hil
      obtain ⟨x, hx⟩ : ∃ x, L.getD i Ct.zero = x := ⟨_, rfl⟩
      rw [hx] at p0 p1 hm
      obtain ⟨nx, hnx⟩ : ∃ nx, nx = x.l.length := ⟨_, rfl⟩
      rw [← hnx] at p0
      have hnx9 : nx ≤ 1000000000 := by have := (HIN.out x hm).len; omega
      have HT := Lib.hid (HIN.out x hm).txt
      have HI := Lib.hid (HIN.out x hm).int
      have HR := Lib.hid ((H.out.rows x hm).ext (er.alloc (.cells #[.slice x.A nx x.c, .int .i64 x.k] 32)))
      have GW := Lib.hid (G.ext (er.alloc (.cells #[.slice x.A nx x.c, .int .i64 x.k] 32)))
      have HNX := Lib.hid hnx
      have HX := Lib.hid hx
      have HIL := Lib.hid hil
      have HM := Lib.hid hm
      clear hil hm hx hnx
      cases b
      · have HB2 : Hid (Plain L (i + 1) false) := Lib.hid ⟨fun q => (nomatch q), fun q => absurd (HB.out.2 ((okTo.step HIL.out HX.out).1 q).1) (by decide)⟩
        clear HB
        go_wp2
        go_roundw
        case rel => exact ⟨i + 1, false, by omega, rfl, by go_num, HB2, er0.alloc _⟩
        case measure => simp [intOf]; omega
      · obtain ⟨v, hv⟩ : ∃ v, checkR x.l = v := ⟨_, rfl⟩
        have HV := Lib.hid hv
        by_cases hv0 : v = 0
        · subst hv0
          have HB2 : Hid (Plain L (i + 1) true) := Lib.hid ⟨fun _ => (okTo.step HIL.out HX.out).2 ⟨HB.out.1 rfl, HV.out⟩, fun _ => rfl⟩
          clear hv HB
          go_wp2_with (go_at_call 25; refine (rowCheck_lit x.A x.c nx x.l _ HV HNX HR HT GW.out).mono ?_; rintro e w1 ⟨rfl, x1⟩)
          go_roundw
          case rel => exact ⟨i + 1, true, by omega, rfl, by go_num, HB2, (er0.alloc _).trans x1⟩
          case measure => simp [intOf]; omega
        · have zv : (v == 0) = false := by simpa using hv0
          have HV0 := Lib.hid hv0
          have HB2 : Hid (Plain L (i + 1) false) := Lib.hid ⟨fun q => (nomatch q), fun q => absurd (HV.out.symm.trans ((okTo.step HIL.out HX.out).1 q).2) HV0.out⟩
          clear hv HB hv0
          go_wp2_with (go_at_call 25; refine (rowCheck_lit x.A x.c nx x.l _ HV HNX HR HT GW.out).mono ?_; rintro e w1 ⟨rfl, x1⟩)
          go_roundw
          case rel => exact ⟨i + 1, false, by omega, rfl, by go_num, HB2, (er0.alloc _).trans x1⟩
          case measure => simp [intOf]; omega
    · have hbf : b = false := by
        cases b with
        | false => rfl
        | true =>
          obtain ⟨x, hx, q⟩ := HBAD.out
          exact absurd (HB.out.1 rfl x (by rw [List.take_of_length_le (by rw [← HN.out]; omega)]; exact hx)) q
      subst hbf
      clear HB
      go_wp2
      go_loopg [3, 38] n (fun z u v wr => ∃ (i : Nat) (O : List Ct), z = n - i ∧ i ≤ n ∧ u = .slice (some ⟨w.heap.size, 0, none⟩) O.length n ∧ v = .int .i64 i ∧ Hid (SumO w w.heap.size (w.heap.size + 1) n L wr i O))
      case atStart => exact ⟨0, [], rfl, Nat.zero_le _, rfl, rfl, Lib.hid (HP0.out.mono er0)⟩
      case round =>
        clear hi hlt er0 HP0 X0
        obtain ⟨i, O, rfl, hi, rfl, rfl, HP⟩ := hrel
        by_cases hlt : i < n
        · have hil : i < L.length := by rw [← HN.out]; exact hlt
          have er := HP.out.at_.ext
          obtain ⟨ad, rfl, p0, p1⟩ := (H.out.ext er).at hil
          have hm := getD_mem hil
          obtain ⟨x, hx⟩ : ∃ x, L.getD i Ct.zero = x := ⟨_, rfl⟩
          rw [hx] at p0 p1 hm
          obtain ⟨nx, hnx⟩ : ∃ nx, nx = x.l.length := ⟨_, rfl⟩
          rw [← hnx] at p0
          have hnx9 : nx ≤ 1000000000 := by have := (HIN.out x hm).len; omega
          have HT := Lib.hid (HIN.out x hm).txt
          have HI := Lib.hid (HIN.out x hm).int
          have HR := Lib.hid ((H.out.rows x hm).ext (er.alloc (.cells #[.slice x.A nx x.c, .int .i64 x.k] 32)))
          have GW := Lib.hid (G.ext (er.alloc (.cells #[.slice x.A nx x.c, .int .i64 x.k] 32)))
          have HNX := Lib.hid hnx
          have HX := Lib.hid hx
          have HIL := Lib.hid hil
          have HM := Lib.hid hm
          have hbx : w.heap.size + 1 < wr.heap.size := HP.out.at_.gg.2.2
          obtain ⟨m, hmO⟩ : ∃ m, m = O.length := ⟨_, rfl⟩
          have hmi : m ≤ i := by rw [hmO, HP.out.len]; exact Nat.le_refl _
          rw [← hmO]
          have HMO := Lib.hid hmO
          clear hil hm hx hnx hmO
          have p0' := ((Ext.refl wr).alloc (.cells #[.slice x.A nx x.c, .int .i64 x.k] 32)).cell p0
          have p1' := ((Ext.refl wr).alloc (.cells #[.slice x.A nx x.c, .int .i64 x.k] 32)).cell p1
          obtain ⟨wb, hwb⟩ : ∃ z, z = wr.alloc (.cells #[.slice x.A nx x.c, .int .i64 x.k] 32) := ⟨_, rfl⟩
          have BX2 : Bk wb wr.heap.size 32 #[.slice x.A nx x.c, .int .i64 x.k] := by rw [hwb]; exact Bk.new _ _ _
          have HS2 : Hid (SumAt w w.heap.size (w.heap.size + 1) n wb O) := Lib.hid (by rw [hwb]; exact HP.out.at_.mono ((Ext.refl wr).alloc _))
          have HP2 : Hid (SumO w w.heap.size (w.heap.size + 1) n L wb i O) := Lib.hid (by rw [hwb]; exact HP.out.mono ((Ext.refl wr).alloc _))
          go_upto_region 19 with fail
          rw [← hwb] at ⊢
          clear hwb p0' p1'
          have X2 : Ext wb wb.drew := (Ext.refl wb).drew
          have HR2 := Lib.hid ((H.out.rows x HM.out).ext (HS2.out.ext.trans X2))
          have B0 : ∀ z : Xt wb.drew, z.W.cell? ⟨wr.heap.size, 0, none⟩ = some (.slice x.A nx x.c) := fun z => (X2.trans z.x).cell (BX2.cell 0)
          have B1 : ∀ z : Xt wb.drew, z.W.cell? ⟨wr.heap.size, 1, none⟩ = some (.int .i64 x.k) := fun z => (X2.trans z.x).cell (BX2.cell 1)
          go_simp
          refine wp_region_ord [0,0,2,6,0,16,62,126,255,511] (.pur [0] (.flo [1,2,4,5] (.ext 3 (.flo [6] (.one 7 (.one 8 (.flo [9] (.fin)))))))) (by kernel_rfl) (by kernel_rfl) (by intro _ _ d _ _ h; cases d <;> exact h) ?_
          (refine ord_pur (pick_cons rfl pick_nil) ?_; (repeat (go_big_quiet_step (fail))); refine wpQuiet_nil ?_; show ordWalk _ _ _ _ _ _ _)
          (refine ord_flo (pick_cons rfl (pick_cons rfl (pick_cons rfl (pick_cons rfl pick_nil)))) ?_; (repeat (go_big_quiet_step (fail))); refine wpQuiet_nil ?_; show ordWalk _ _ _ _ _ _ _)
          refine ord_ext (pick_cons rfl pick_nil) ?_; intro K_ hK_
          go_wp2_with (go_at_call 57; refine (clone_lit x.A x.c nx x.l _ HNX HR2 hnx9).mono ?_; rintro e w3 ⟨⟨A3, c3, rfl, o3, b3⟩, x3⟩)
          refine ordNext.mk x3 ?_
          have O3 := Lib.hid o3
          have HB3 := Lib.hid b3
          have X3 := Lib.hid (X2.trans x3)
          clear o3 b3
          (refine ord_flo (pick_cons rfl pick_nil) ?_; (repeat (go_big_quiet_step (fail))); refine wpQuiet_nil ?_; show ordWalk _ _ _ _ _ _ _)
          refine ord_one (pick_cons rfl pick_nil) ?_; intro K_ hK_
          go_wp2
          refine ord_one (pick_cons rfl pick_nil) ?_; intro K_ hK_
          have HS3 := Lib.hid (HS2.out.mono X3.out)
          go_wp2_with (at_builtin; refine wpList_append_stay _ elem_ct w.heap.size _ _ rfl rfl w.heap.size m n (ctsC O) rfl (by rw [HMO.out]; exact (HS3.out.arr.ext ((Ext.refl _).alloc _)).1) h0 ⟨w3.heap.size, 0, none⟩ 1 1 [.slice A3 nx c3, .int .i64 x.k] rfl (sl_ct _ _ _ _) (by decide) (by intro u hu; simp at hu; rcases hu with rfl | rfl <;> rfl) (by omega) ?_; intro w4 o4 g4)
          have O4 := Lib.hid o4
          have G4 := Lib.hid ((upd_ext ((Ext.refl w3).alloc (.cells #[.slice A3 nx c3, .int .i64 x.k] 32)) w.heap.size).trans g4)
          clear o4 g4
          go_simp
          (refine ord_flo (pick_cons rfl pick_nil) ?_; (repeat (go_big_quiet_step (fail))); refine wpQuiet_nil ?_; show ordWalk _ _ _ _ _ _ _)
          refine ord_fin ?_
          go_wp2
          go_roundg (n - (i + 1))
          case measure => omega
          case rel => exact ⟨i + 1, O ++ [⟨A3, c3, x.l, x.k⟩], rfl, by omega, by rw [HMO.out]; simp, by go_num, Lib.hid (HP2.out.new HIL.out HX.out HMO.out HNX.out X3.out (by have := O3.out; exact this) (fun ad e => by have := HB3.out ad e; have := X2.size; omega) O4.out G4.out)⟩
        · have hin' : i = n := by omega
          have HE : Hid (SumEnd w w.heap.size (w.heap.size + 1) n L O wr) := Lib.hid (by have := HP.out; rw [hin'] at this; exact this.out HN.out (fun x hx => (HIN.out x hx).num))
          have hmn : O.length ≤ n := arr_len HE.out.at_.arr
          obtain ⟨m, hmO⟩ : ∃ m, m = O.length := ⟨_, rfl⟩
          rw [← hmO] at hmn ⊢
          have HMO := Lib.hid hmO
          have HINV : Hid (∀ x ∈ L, InV (valC x)) := Lib.hid fun x hx => (HIN.out x hx).num
          have hg0 : w.heap.size + 1 < wr.heap.size := HE.out.at_.gg.2.2
          clear hmO hin' HP
          go_wp2_with (go_at_call 58; go_loud (refine (sortStable_any w.heap.size w.heap.size n m O _ HMO.out (by omega) HE.out.at_.arr HE.out.at_.off).mono ?_; rintro e w1 ⟨rfl, S, st, ar, up⟩; have HME := Lib.hid (MergeAt.start HE.out st ar up); have HST := Lib.hid st; have HSL : Hid (m = S.length) := Lib.hid (by rw [stable_len st]; exact HMO.out); clear st ar up))
          go_loopg [13, 82] m (fun z u v wr => ∃ (i q : Nat) (T M X R : List Ct), z = m - i ∧ i ≤ m ∧ q ≤ i ∧ u = .int .i64 q ∧ v = .int .i64 i ∧ Hid (q = M.length) ∧ Hid (MergeAt w w.heap.size (w.heap.size + 1) n S wr i T M X R))
          case atStart => exact ⟨0, 0, [], [], [], S, rfl, Nat.zero_le _, Nat.le_refl _, rfl, rfl, Lib.hid rfl, HME⟩
          case round =>
            clear HME
            obtain ⟨i, q, T, M, X, R, rfl, hi, hqi, rfl, rfl, HQ, HG⟩ := hrel
            have hbx : w.heap.size + 1 < wr.heap.size := HG.out.gg.2.2
            by_cases hlt : i < m
            · obtain ⟨x, R, rfl⟩ : ∃ x R', R = x :: R' := by
                cases R with
                | nil =>
                  have h1 := HG.out.spl
                  have h2 := HG.out.tl
                  have h3 := HSL.out
                  rw [h1, List.append_nil, h2] at h3
                  omega
                | cons x R => exact ⟨x, R, rfl⟩
              have hA := HG.out.arr
              have hxl : i < (M ++ (X ++ x :: R)).length := by have := HG.out.len; simp only [List.length_append, List.length_cons] at this ⊢; omega
              obtain ⟨p0, p1⟩ := hA.at hxl
              have e : (M ++ (X ++ x :: R)).getD i Ct.zero = x := by
                rw [← List.append_assoc, show i = (M ++ X).length by rw [List.length_append]; exact HG.out.len]
                exact getD_mid _ x R
              rw [e] at p0 p1
              obtain ⟨nx, hnx⟩ : ∃ nx, nx = x.l.length := ⟨_, rfl⟩
              rw [← hnx] at p0
              have HNX := Lib.hid hnx
              have hqm : q < m := by omega
              have XB : Ext wr (wr.alloc (.cells #[.slice x.A nx x.c, .int .i64 x.k] 32)) := (Ext.refl wr).alloc _
              have HG1 := Lib.hid (HG.out.mono XB)
              have BX := Bk.new wr 32 #[.slice x.A nx x.c, .int .i64 x.k]
              have f0 := HG1.out.arr.free (q * 2)
              have f1 := HG1.out.arr.free (q * 2 + 1)
              have hqn : q < n := by omega
              obtain ⟨u0, d0⟩ := Option.isSome_iff_exists.1 (HG1.out.arr.cells_past (j := q * 2) (by omega))
              obtain ⟨u1, d1⟩ := Option.isSome_iff_exists.1 (HG1.out.arr.cells_past (j := q * 2 + 1) (by omega))
              clear hA hxl e hnx
              rcases snoc_cases M with rfl | ⟨M, y, rfl⟩
              · have hq0 : q = 0 := HQ.out
                subst hq0
                have HK : Hid (mergeStep (([] : List Ct).map valC) (valC x) = ([] : List Ct).map valC ++ [valC x]) := Lib.hid rfl
                go_upto_region 26 with fail
                have X2 : Ext (wr.alloc (.cells #[.slice x.A nx x.c, .int .i64 x.k] 32)) (wr.alloc (.cells #[.slice x.A nx x.c, .int .i64 x.k] 32)).drew := (Ext.refl _).drew
                refine wp_region_ord [0,1,3,7,7,23,63,127,255,7,519,2047,4095,8191] (.flo [0,1,2,3,4,5,6,7,8,9,10] (.one 11 (.flo [12,13] (.fin)))) (by kernel_rfl) (by kernel_rfl) (by intro _ _ d _ _ h; cases d <;> exact h) ?_
                (refine ord_flo (pick_cons rfl (pick_cons rfl (pick_cons rfl (pick_cons rfl (pick_cons rfl (pick_cons rfl (pick_cons rfl (pick_cons rfl (pick_cons rfl (pick_cons rfl (pick_cons rfl pick_nil))))))))))) ?_; (repeat (go_big_quiet_step (fail))); refine wpQuiet_nil ?_; show ordWalk _ _ _ _ _ _ _)
                refine ord_one (pick_cons rfl pick_nil) ?_; intro K_ hK_
                go_wp2
                (refine ord_flo (pick_cons rfl (pick_cons rfl pick_nil)) ?_; (repeat (go_big_quiet_step (fail))); refine wpQuiet_nil ?_; show ordWalk _ _ _ _ _ _ _)
                refine ord_fin ?_
                have BX2 := BX.drew
                go_wp2
                go_roundg (m - (i + 1))
                case measure => omega
                case rel => exact ⟨i + 1, 1, T ++ [x], [x], (X ++ [x]).tail, R, rfl, by omega, by omega, rfl, by go_num, Lib.hid rfl, Lib.hid ((HG1.out.mono X2).keep HK.out rfl HNX.out)⟩
              · obtain ⟨p, hp⟩ : ∃ p, p = M.length := ⟨_, rfl⟩
                have hqp : q = p + 1 := by have := HQ.out; rw [List.length_append, List.length_singleton] at this; omega
                subst hqp
                have hy := HG1.out.arr.at (i := p) (by rw [hp]; simp)
                have ey : (M ++ [y] ++ (X ++ x :: R)).getD p Ct.zero = y := by rw [hp, List.append_assoc]; exact getD_mid M y _
                rw [ey] at hy
                obtain ⟨y0, y1⟩ := hy
                obtain ⟨ny, hny⟩ : ∃ ny, ny = y.l.length := ⟨_, rfl⟩
                rw [← hny] at y0
                have HNY := Lib.hid hny
                have HPL := Lib.hid hp
                have f3 := HG1.out.arr.free (p * 2 + 1)
                obtain ⟨v, hv⟩ : ∃ v, cmpR y.l x.l = v := ⟨_, rfl⟩
                have HV := Lib.hid hv
                have za : decide ((0 : Int) < (p : Int) + 1) = true := decide_eq_true (by omega)
                obtain ⟨wb, hwb⟩ : ∃ z, z = wr.alloc (.cells #[.slice x.A nx x.c, .int .i64 x.k] 32) := ⟨_, rfl⟩
                have hgb : w.heap.size + 1 < wb.heap.size := by rw [hwb]; exact HG1.out.gg.2.2
                go_upto_region 26 with fail
                rw [← hwb] at XB HG1 BX f0 f1 d0 d1 y0 y1 f3 ⊢
                clear ey hny hp hv hwb
                have X2 : Ext wb wb.drew := (Ext.refl wb).drew
                have HRY := Lib.hid ((HG1.out.rows y (by simp)).1.rw.ext X2)
                have HRX := Lib.hid ((HG1.out.rows x (by simp)).1.rw.ext X2)
                have Y0 : ∀ z : Xt wb.drew, z.W.cell? ⟨w.heap.size, p * 2, none⟩ = some (.slice y.A ny y.c) := fun z => (X2.trans z.x).cell y0
                have B0 : ∀ z : Xt wb.drew, z.W.cell? ⟨wr.heap.size, 0, none⟩ = some (.slice x.A nx x.c) := fun z => (X2.trans z.x).cell (BX.cell 0)
                by_cases hv0 : v = 0
                · subst hv0
                  refine wp_region_ord [0,1,3,7,7,23,63,127,255,7,519,2047,4095,8191] (.flo [0,1,2,3,4,5,6,7,8,9,10] (.one 11 (.flo [12,13] (.fin)))) (by kernel_rfl) (by kernel_rfl) (by intro _ _ d _ _ h; cases d <;> exact h) ?_
                  (refine ord_flo (pick_cons rfl (pick_cons rfl (pick_cons rfl (pick_cons rfl (pick_cons rfl (pick_cons rfl (pick_cons rfl (pick_cons rfl (pick_cons rfl (pick_cons rfl (pick_cons rfl pick_nil))))))))))) ?_; (repeat (go_big_quiet_step (fail))); refine wpQuiet_nil ?_; show ordWalk _ _ _ _ _ _ _)
                  refine ord_one (pick_cons rfl pick_nil) ?_; intro K_ hK_
                  go_wp2_with (go_at_call 14; refine (rowCmp_any y.A x.A y.c x.c ny nx y.l x.l _ HNY.out HNX.out HRY.out HRX.out).mono ?_; rintro e w1 ⟨rfl, x1⟩; rw [HV.out])
                  (refine ord_flo (pick_cons rfl (pick_cons rfl pick_nil)) ?_; (repeat (go_big_quiet_step (fail))); refine wpQuiet_nil ?_; show ordWalk _ _ _ _ _ _ _)
                  refine ord_fin ?_
                  have X3 := X2.trans x1
                  have HG2 := Lib.hid (HG1.out.mono X3)
                  have yk := X3.cell y1
                  have bk := X3.cell (BX.cell 1)
                  have f4 := HG2.out.arr.free (p * 2 + 1)
                  obtain ⟨s, hs⟩ : ∃ s, w64 (y.k + x.k) = s := ⟨_, rfl⟩
                  have hs2 : IntKind.i64.wrap (y.k + x.k) = s := hs
                  have HS := Lib.hid hs
                  have X4 : Ext w1 w1.drew := (Ext.refl w1).drew
                  have Y1 : ∀ z : Xt w1.drew, z.W.cell? ⟨w.heap.size, p * 2 + 1, none⟩ = some (.int .i64 y.k) := fun z => (X4.trans z.x).cell yk
                  have B1 : ∀ z : Xt w1.drew, z.W.cell? ⟨wr.heap.size, 1, none⟩ = some (.int .i64 x.k) := fun z => (X4.trans z.x).cell bk
                  clear hs
                  go_upto_region 27 with fail
                  refine wp_region_ord [0,0,2,7,15,31,0,64,255,511,1023,2047] (.flo [0,1,2,3,4,5,6,7,8,9,10] (.one 11 (.fin))) (by kernel_rfl) (by kernel_rfl) (by intro _ _ d _ _ h; cases d <;> exact h) ?_
                  (refine ord_flo (pick_cons rfl (pick_cons rfl (pick_cons rfl (pick_cons rfl (pick_cons rfl (pick_cons rfl (pick_cons rfl (pick_cons rfl (pick_cons rfl (pick_cons rfl (pick_cons rfl pick_nil))))))))))) ?_; (repeat (go_big_quiet_step (fail))); refine wpQuiet_nil ?_; show ordWalk _ _ _ _ _ _ _)
                  refine ord_one (pick_cons rfl pick_nil) ?_; intro K_ hK_
                  go_wp2
                  refine ord_fin ?_
                  go_wp2
                  go_roundg (m - (i + 1))
                  case measure => omega
                  case rel => exact ⟨i + 1, p + 1, T ++ [x], M ++ [(⟨y.A, y.c, y.l, s⟩ : Ct)], X ++ [x], R, rfl, by omega, by omega, by go_num, by go_num, Lib.hid (by rw [List.length_append, List.length_singleton, ← HPL.out]), Lib.hid ((HG2.out.mono X4).join HV.out HPL.out HS.out)⟩
                · have zv : (v == 0) = false := by simpa using hv0
                  have HK : Hid (mergeStep ((M ++ [y]).map valC) (valC x) = (M ++ [y]).map valC ++ [valC x]) := Lib.hid (by
                    rw [List.map_append, List.map_singleton, mergeStep_snoc, if_neg (show ¬ cmpV (valC y) (valC x) = 0 from fun q => hv0 (HV.out.symm.trans q))])
                  clear hv0
                  refine wp_region_ord [0,1,3,7,7,23,63,127,255,7,519,2047,4095,8191] (.flo [0,1,2,3,4,5,6,7,8,9,10] (.one 11 (.flo [12,13] (.fin)))) (by kernel_rfl) (by kernel_rfl) (by intro _ _ d _ _ h; cases d <;> exact h) ?_
                  (refine ord_flo (pick_cons rfl (pick_cons rfl (pick_cons rfl (pick_cons rfl (pick_cons rfl (pick_cons rfl (pick_cons rfl (pick_cons rfl (pick_cons rfl (pick_cons rfl (pick_cons rfl pick_nil))))))))))) ?_; (repeat (go_big_quiet_step (fail))); refine wpQuiet_nil ?_; show ordWalk _ _ _ _ _ _ _)
                  refine ord_one (pick_cons rfl pick_nil) ?_; intro K_ hK_
                  go_wp2_with (go_at_call 14; refine (rowCmp_any y.A x.A y.c x.c ny nx y.l x.l _ HNY.out HNX.out HRY.out HRX.out).mono ?_; rintro e w1 ⟨rfl, x1⟩; rw [HV.out])
                  (refine ord_flo (pick_cons rfl (pick_cons rfl pick_nil)) ?_; (repeat (go_big_quiet_step (fail))); refine wpQuiet_nil ?_; show ordWalk _ _ _ _ _ _ _)
                  refine ord_fin ?_
                  have X3 := X2.trans x1
                  have HG2 := Lib.hid (HG1.out.mono X3)
                  have b0 := X3.cell (BX.cell 0)
                  have b1 := X3.cell (BX.cell 1)
                  have g0 := HG2.out.arr.free ((p + 1) * 2)
                  have g1 := HG2.out.arr.free ((p + 1) * 2 + 1)
                  have e0 := X3.cell d0
                  have e1 := X3.cell d1
                  go_wp2
                  go_roundg (m - (i + 1))
                  case measure => omega
                  case rel => exact ⟨i + 1, p + 1 + 1, T ++ [x], M ++ [y] ++ [x], (X ++ [x]).tail, R, rfl, by omega, by omega, by go_num, by go_num, Lib.hid (by rw [List.length_append, List.length_singleton, ← HQ.out]), Lib.hid (HG2.out.keep HK.out HQ.out HNX.out)⟩
            · have hR : R = [] := List.eq_nil_of_length_eq_zero (by
                have h1 := HG.out.spl
                have h2 := HG.out.tl
                have h3 := HSL.out
                rw [h1, List.length_append, h2] at h3
                omega)
              subst hR
              have hqn : q ≤ n := by omega
              go_wp2_with (go_at_call 60; refine (deleteFunc_any w.heap.size w.heap.size n q M _ HQ.out HG.out.arr.prefix_).mono ?_; rintro e w2 ⟨mf, rfl, hmf, ar2, up2⟩; have HR2 := Lib.hid (fun c' hc => sum_res (c' := c') HE.out HINV.out HST.out HG.out ar2 up2 hmf hc); clear hmf ar2 up2)
              go_ret
              exact HR2.out n rfl
set_option maxRecDepth 100000 in
set_option maxHeartbeats 1000000 in
theorem stable_nil (A : Option Addr) (c : Nat) (w : World) : Calls Tryd.prog 97 #[.slice A 0 c, .int .i64 0, .func (.func 59) #[] #[]] w fun e w' => e = .returned (.tuple #[]) ∧ w = w' := by
  go_enter Tryd.func97, Tryd.ntmps97
  go_wp2
  go_loop [7, 8] (fun u v => u = .int .i64 0 ∧ v = .int .i64 20) (fun _ _ => 0)
  case atStart => exact ⟨rfl, rfl⟩
  case round =>
    obtain ⟨rfl, rfl⟩ := hrel
    go_wp2_with (go_at_call 128; refine (insSort_none _ 0 c 0 0 _ (Nat.le_refl _) (by decide)).mono ?_; rintro e w1 ⟨rfl, rfl⟩)
    go_loop [6, 7, 8] (fun u v z => u = .int .i64 20) (fun _ _ _ => 0)
    case atStart => rfl
    case round =>
      subst hrel
      go_wp2
      go_end0
      exact ⟨rfl, rfl⟩
set_option maxRecDepth 100000 in
set_option maxHeartbeats 800000 in
theorem sortStable_nil (A : Option Addr) (c : Nat) (w : World) : Calls Tryd.prog 58 #[.slice A 0 c, .func (.func 59) #[] #[]] w fun e w' => e = .returned (.tuple #[]) ∧ w = w' := by
  go_enter Tryd.func58, Tryd.ntmps58
  go_wp2_with (go_at_call 97; refine (stable_nil A c _).mono ?_; rintro e w1 ⟨rfl, rfl⟩)
  go_end0
  exact ⟨rfl, rfl⟩
set_option maxRecDepth 100000 in
set_option maxHeartbeats 800000 in
theorem index_nil (A : Option Addr) (c : Nat) (w : World) : Calls Tryd.prog 98 #[.slice A 0 c, .func (.func 61) #[] #[]] w fun e w' => e = .returned (.int .i64 (-1)) ∧ w = w' := by
  go_enter Tryd.func98, Tryd.ntmps98
  go_wp2
  refine wp_loop_rounds 1 ?_
  rw [rounds_succ]
  go_wp2
  go_ret
  exact ⟨rfl, rfl⟩
set_option maxRecDepth 100000 in
set_option maxHeartbeats 800000 in
theorem delete_nil (A : Option Addr) (c : Nat) (w : World) : Calls Tryd.prog 60 #[.slice A 0 c, .func (.func 61) #[] #[]] w fun e w' => e = .returned (.slice A 0 c) ∧ w = w' := by
  go_enter Tryd.func60, Tryd.ntmps60
  go_wp2_with (go_at_call 98; refine (index_nil A c _).mono ?_; rintro e w1 ⟨rfl, rfl⟩)
  go_ret
  exact ⟨rfl, rfl⟩
set_option maxRecDepth 100000 in
set_option maxHeartbeats 1000000 in
theorem sum_none (A : Option Addr) (c : Nat) (w : World) : Calls Tryd.prog 18 #[.slice A 0 c] w (SumRes w []) := by
  have hmk : ∀ W : World, (Instr.makeSlice 27 (.int .i64 0) (.int .i64 0)).run Tryd.prog W = .ok (.slice (some ⟨W.heap.size, 0, none⟩) 0 0) (W.alloc (madeCts 0)) := make_cts 0 (by omega)
  have hmm := make_map (0 : Int)
  go_enter Tryd.func18, Tryd.ntmps18
  go_upto_region 4 with fail
  obtain ⟨w0, hw0⟩ : ∃ x, x = (w.alloc (madeCts 0)).alloc (.map #[] 0) := ⟨_, rfl⟩
  have X0 : Ext w w0 := hw0 ▸ ((Ext.refl w).alloc _).alloc _
  rw [← hw0]
  clear hw0 hmk hmm
  go_wp2
  refine wp_loop_rounds 1 ?_
  rw [rounds_succ]
  go_wp2
  refine wp_loop_rounds 1 ?_
  rw [rounds_succ]
  go_wp2_with (go_at_call 58; refine (sortStable_nil _ _ _).mono ?_; rintro e w1 ⟨rfl, rfl⟩)
  refine wp_loop_rounds 1 ?_
  rw [rounds_succ]
  go_wp2_with (go_at_call 60; refine (delete_nil _ _ _).mono ?_; rintro e w1 ⟨rfl, rfl⟩)
  go_ret
  exact ⟨_, 0, _, [], rfl, rfl, Own.empty _ _ _ _ _, fun x h => (nomatch h), List.Pairwise.nil, rfl, X0⟩
/-- row.Sum of any rows -/
theorem sum_any (A : Option Addr) (c n : Nat) (L : List Ct) (w : World) (hn : n = L.length) (h20 : n ≤ 100000000) (h : Cin w A c L) (hin : ∀ x ∈ L, InC x) (G : Good w) : Calls Tryd.prog 18 #[.slice A n c] w (SumRes w L) := by
  rcases Nat.eq_zero_or_pos n with h0 | h0
  · subst h0
    have : L = [] := List.eq_nil_of_length_eq_zero hn.symm
    subst this
    exact sum_none A c w
  · by_cases hb : ∀ x ∈ L, checkR x.l = 0
    · exact sum_plain A c n L w h0 hn h20 h hin hb G
    · refine sum_other A c n L w h0 hn h20 h hin ?_ G
      obtain ⟨x, hx⟩ := Classical.not_forall.1 hb
      obtain ⟨h1, h2⟩ := Classical.not_imp.1 hx
      exact ⟨x, h1, h2⟩
end Go.Proofs.YtngeioghihbkeaaDoor
